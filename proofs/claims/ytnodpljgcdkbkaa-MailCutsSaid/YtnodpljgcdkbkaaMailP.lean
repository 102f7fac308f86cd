/-
  Messages come back; octets of what is read. (Printed by gen.py out of w_mailp.py.)
-/
import Derived.Test.YtnodpljgcdkbkaaMail5
import Derived.Test.YtnodpljgcdkbkaaFInv
namespace Go.Proofs.Ytnodpljgcdkbkaa
open Go
set_option maxRecDepth 20000
set_option linter.unusedVariables false
set_option linter.unusedSimpArgs false
def bidB (b : BidV) : List UInt8 := numL 6 b.r ++ (askB b.a ++ (wideL b.x0 b.x1 b.x2 b.x3 ++ (numL 6 b.e ++ txt b.sig)))
def relB (m : MsgV) : List UInt8 := invB m.i ++ (varB m.v ++ (wideL m.g0 m.g1 m.g2 m.g3 ++ txt m.sig))
def msB (m : MsgV) : List UInt8 := numL 6 m.k ++ (if m.k = 1 then askB m.a else if m.k = 2 then bidB m.b else relB m)
theorem askE_0 {a : AskV} (h : askE a = 0) : ¬ askBad a := fun p => by rw [askE, if_pos p] at h; exact absurd h (by decide)
theorem invE_08 {v : InvV} (h : invE v = 0) : ¬ invBad v := fun p => by rw [invE, if_pos p] at h; exact absurd h (by decide)
theorem varE_08 {v : VarV} (h : varE v = 0) : ¬ varBad v := fun p => by rw [varE, if_pos p] at h; exact absurd h (by decide)
theorem bid_facts {b : BidV} (h : bidE b = 0) : ¬ askBad b.a ∧ ¬ badN b.r ∧ b.r ≤ M40 ∧ ¬ badN b.e ∧ b.e ≤ M40 ∧ b.sig.length ≤ 1024 := by
  unfold bidE at h
  split at h
  · exact absurd h (by decide)
  · rename_i p
    have q := invE_08 h
    unfold invBad stI at q
    simp only at q
    have r : ¬ (b.e < 0 ∨ b.e > 1099511627776 ∨ b.sig.length > 1024) := fun z => p (.inr (.inr (.inr z)))
    exact ⟨fun z => p (.inl z), by unfold badN; omega, by unfold M40; omega, by unfold badN; omega, by unfold M40; omega, by omega⟩
theorem rel_facts {m : MsgV} (k : m.k = 3) (h : msgE m = 0) : ¬ invBad m.i ∧ ¬ varBad m.v ∧ m.sig.length ≤ 1024 := by
  rw [msgE, if_neg (by omega), if_neg (by omega), if_pos k] at h
  split at h
  · rename_i p; exact absurd h p
  rename_i p
  split at h
  · rename_i q; exact absurd h q
  rename_i q
  split at h
  · exact absurd h (by decide)
  · exact ⟨invE_08 (by omega), varE_08 (by omega), by omega⟩
theorem pMs_ok {m : MsgV} (h : msgE m = 0) : pMs m = (msB m, 0) := by
  have kk := msgE_k h
  have hk : ¬ badN m.k := by unfold badN; omega
  unfold pMs msB
  by_cases k1 : m.k = 1
  · have ha : ¬ askBad m.a := askE_0 (by rw [msgE, if_pos k1] at h; exact h)
    rw [if_pos k1, if_pos k1, wnum_ok hk (by decide), pAsk_ok ha (by simp [numL_length])]
    simp
  rw [if_neg k1, if_neg k1]
  by_cases k2 : m.k = 2
  · have hb : bidE m.b = 0 := by rw [msgE, if_neg k1, if_pos k2] at h; exact h
    obtain ⟨f1, f2, f3, f4, f5, f6⟩ := bid_facts hb
    have la := askB_length (ask_facts f1).2.2.2.2.2
    rw [if_pos k2, if_pos k2, wnum_ok hk (by decide), wnum_ok f2 (by simp [numL_length]), pAsk_ok f1 (by simp [numL_length]), wwid_ok (by simp [numL_length]; omega), wnum_ok f4 (by simp [numL_length, wideL_length]; omega), wtxt_ok (by omega) (by simp [numL_length, wideL_length]; omega)]
    simp [bidB]
  rw [if_neg k2, if_neg k2]
  have k3 : m.k = 3 := by omega
  obtain ⟨f1, f2, f3⟩ := rel_facts k3 h
  have li := invB_length f1
  have lv := varB_length m.v
  rw [wnum_ok hk (by decide), pInv_ok f1 (by simp [numL_length]), pVar_ok f2 (by simp [numL_length]; omega), wwid_ok (by simp [numL_length]; omega), wtxt_ok (by omega) (by simp [numL_length, wideL_length]; omega)]
  simp [relB]
theorem msB_length {m : MsgV} (h : msgE m = 0) : (msB m).length ≤ 2000 := by
  have kk := msgE_k h
  unfold msB
  by_cases k1 : m.k = 1
  · have ha : ¬ askBad m.a := askE_0 (by rw [msgE, if_pos k1] at h; exact h)
    have la := askB_length (ask_facts ha).2.2.2.2.2
    rw [if_pos k1]; simp [numL_length]; omega
  rw [if_neg k1]
  by_cases k2 : m.k = 2
  · have hb : bidE m.b = 0 := by rw [msgE, if_neg k1, if_pos k2] at h; exact h
    obtain ⟨f1, f2, f3, f4, f5, f6⟩ := bid_facts hb
    have la := askB_length (ask_facts f1).2.2.2.2.2
    rw [if_pos k2]; simp [bidB, numL_length, wideL_length, txt_length]; omega
  rw [if_neg k2]
  obtain ⟨f1, f2, f3⟩ := rel_facts (by omega) h
  have li := invB_length f1
  have lv := varB_length m.v
  simp [relB, numL_length, wideL_length, txt_length]; omega
theorem fwdR {m : MsgV} (hm : m.ok) (h : msgE m = 0) (r : List UInt8) (hl : (msB m ++ r).length ≤ 8192) : rdM (msB m ++ r) = rdV (plM m) (r, 0) := by
  have kk := msgE_k h
  have hk : ¬ badN m.k := by unfold badN; omega
  rw [rdM, opR_ok hl, msB, List.append_assoc, gNu_ap hk (by unfold M40; omega)]
  unfold plM rdK
  by_cases k1 : m.k = 1
  · have ha : ¬ askBad m.a := askE_0 (by rw [msgE, if_pos k1] at h; exact h)
    rw [if_pos k1, if_pos k1, if_pos k1]
    simp only [gAsk_ok hm.a ha]
  rw [if_neg k1, if_neg k1, if_neg k1]
  by_cases k2 : m.k = 2
  · have hb : bidE m.b = 0 := by rw [msgE, if_neg k1, if_pos k2] at h; exact h
    obtain ⟨f1, f2, f3, f4, f5, f6⟩ := bid_facts hb
    obtain ⟨a0, a1, a2, a3⟩ := fBs_wide hm.b.h0 hm.b.h1 hm.b.h2 hm.b.h3
    rw [if_pos k2, if_pos k2, if_pos k2]
    simp only [bidB, List.append_assoc]
    rw [gNu_ap f2 f3]
    simp only [gAsk_ok hm.b.a f1, tkW_ap, gNu_ap f4 f5, gTx_ap (m := 1024) (r := r) (show ¬ m.b.sig.length > 1024 by omega) (by omega), a0, a1, a2, a3]
  rw [if_neg k2, if_neg k2, if_neg k2]
  have k3 : m.k = 3 := by omega
  obtain ⟨f1, f2, f3⟩ := rel_facts k3 h
  obtain ⟨a0, a1, a2, a3⟩ := fBs_wide hm.g0 hm.g1 hm.g2 hm.g3
  rw [if_pos k3, if_pos k3]
  simp only [relB, List.append_assoc]
  simp only [gInv_ok f1, gVar_ok hm.v f2, tkW_ap, gTx_ap (m := 1024) (r := r) (show ¬ m.sig.length > 1024 by omega) (by omega), a0, a1, a2, a3]
theorem msgE_pl {m : MsgV} (h : msgE m = 0) : msgE (plM m) = 0 := by
  rcases msgE_k h with k | k | k
  · rw [msgE, if_pos k] at h
    rw [plM, if_pos k, msgE, if_pos k]; exact h
  · rw [msgE, if_neg (by omega), if_pos k] at h
    rw [plM, if_neg (by omega), if_pos k, msgE, if_neg (by simp only; omega), if_pos k]; exact h
  · rw [msgE, if_neg (by omega), if_neg (by omega), if_pos k] at h
    rw [plM, if_neg (by omega), if_neg (by omega), if_pos k, msgE, if_neg (by simp only; omega), if_neg (by simp only; omega), if_pos k]; exact h
theorem putM_E {m : MsgV} (h : (putM m).2 = 0) : msgE m = 0 ∧ putM m = (msB m, 0) := by
  by_cases p : msgE m = 0
  · exact ⟨p, by rw [putM_0 p, pMs_ok p]⟩
  · rw [putM_N p] at h; exact absurd h p
theorem gAsk_inv {w : W} (h : (gAsk w).2.2 = 0) : w.2 = 0 ∧ ¬ askBad (gAsk w).1 ∧ w.1 = askB (gAsk w).1 ++ (gAsk w).2.1 := by
  unfold gAsk at h ⊢
  simp only at h ⊢
  generalize e1 : gNu w M40 = a at h ⊢
  generalize e2 : gNu a.2 M40 = b at h ⊢
  generalize e3 : gNu b.2 M40 = c at h ⊢
  generalize e4 : gNu c.2 M40 = d at h ⊢
  generalize e5 : tkR d.2 32 = e at h ⊢
  generalize e6 : gTx e.2 16 = f at h ⊢
  unfold gAskV at h ⊢
  split at h
  · exact absurd h (spR_ne _)
  · rename_i hc
    rw [if_neg hc]
    simp only at h ⊢
    have c2 : askE (ask1 a b c d e f) = 0 := by
      by_cases z : askE (ask1 a b c d e f) = 0
      · exact z
      · exact absurd (.inr z) hc
    obtain ⟨q6, -, -, x6⟩ := gTx_inv (w := e.2) (m := 16) (by rw [e6]; exact h)
    obtain ⟨q5, l5, x5⟩ := tkR_inv (w := d.2) (n := 32) (by decide) (by rw [e5]; exact q6)
    obtain ⟨q4, -, -, x4⟩ := gNu_inv (w := c.2) (m := M40) (by rw [e4]; exact q5)
    obtain ⟨q3, -, -, x3⟩ := gNu_inv (w := b.2) (m := M40) (by rw [e3]; exact q4)
    obtain ⟨q2, -, -, x2⟩ := gNu_inv (w := a.2) (m := M40) (by rw [e2]; exact q3)
    obtain ⟨q1, -, -, x1⟩ := gNu_inv (w := w) (m := M40) (by rw [e1]; exact q2)
    rw [e1] at x1; rw [e2] at x2; rw [e3] at x3; rw [e4] at x4; rw [e5] at x5 l5; rw [e6] at x6
    have l : e.1.length = 32 := by omega
    refine ⟨q1, askE_0 c2, ?_⟩
    rw [x1, x2, x3, x4, x5, x6]
    simp only [askB, ask1, wide_inv l, List.append_assoc]
theorem rdV_inv {t : MsgV} {r : W} (h : (rdV t r).2 = 0) : rdV t r = (t, 0) ∧ r.2 = 0 ∧ r.1 = [] ∧ msgE t = 0 := by
  unfold rdV at h ⊢
  by_cases p : r.2 ≠ 0
  · rw [if_pos p] at h; exact absurd h p
  rw [if_neg p] at h ⊢
  by_cases q : 0 < r.1.length ∨ msgE t ≠ 0
  · rw [if_pos q] at h; exact absurd h (by decide)
  rw [if_neg q]
  refine ⟨rfl, by omega, List.length_eq_zero_iff.1 ?_, ?_⟩
  · have := fun z => q (.inl z); omega
  · have := fun z => q (.inr z); omega
theorem opR_z8 {b : List UInt8} (h : (opR b).2 = 0) : opR b = (b, 0) := by
  unfold opR at h ⊢
  split at h
  · exact absurd h (by decide)
  · rename_i p; rw [if_neg p]
theorem head_inv {b : List UInt8} (h : (gNu (opR b) M40).2.2 = 0) : b = numL 6 (gNu (opR b) M40).1 ++ (gNu (opR b) M40).2.1 := by
  obtain ⟨q, -, -, p⟩ := gNu_inv h
  have e := opR_z8 q
  rw [e] at p ⊢
  exact p
theorem rdm_bwd {b : List UInt8} (h : (rdM b).2 = 0) : (rdM b).1.ok ∧ msgE (rdM b).1 = 0 ∧ msB (rdM b).1 = b := by
  unfold rdM at h ⊢
  have hd := fun z => head_inv (b := b) z
  generalize gNu (opR b) M40 = a at h hd ⊢
  unfold rdK at h ⊢
  by_cases k1 : a.1 = 1
  · rw [if_pos k1] at h ⊢
    simp only at h ⊢
    obtain ⟨g1, g2, g3, g4⟩ := rdV_inv h
    obtain ⟨a1, a2, a3⟩ := gAsk_inv g2
    rw [g1]
    refine ⟨⟨gAsk_ok1 _, bid0_ok, inv0_ok8, var0_ok8, u0_ok, u0_ok, u0_ok, u0_ok, Nat.zero_le _⟩, g4, ?_⟩
    have hb := hd a1
    rw [a3, g3, List.append_nil] at hb
    rw [hb, msB]
    simp only
    rw [if_pos k1]
  rw [if_neg k1] at h ⊢
  by_cases k2 : a.1 = 2
  · rw [if_pos k2] at h ⊢
    simp only at h ⊢
    obtain ⟨g1, g2, g3, g4⟩ := rdV_inv h
    obtain ⟨s1, s2, -, s4⟩ := gTx_inv g2
    obtain ⟨n1, -, -, n4⟩ := gNu_inv s1
    obtain ⟨t1, t2, t3⟩ := tkR_inv (by decide) n1
    obtain ⟨a1, a2, a3⟩ := gAsk_inv t1
    obtain ⟨r1, -, -, r4⟩ := gNu_inv a1
    have l : (tkR (gAsk (gNu a.2 M40).2).2 32).1.length = 32 := by omega
    rw [g1]
    refine ⟨⟨ask0_ok, ⟨gAsk_ok1 _, fB_u64 _ _ _ (by decide), fB_u64 _ _ _ (by decide), fB_u64 _ _ _ (by decide), fB_u64 _ _ _ (by decide), by show (gTx _ 1024).1.length ≤ _; omega⟩, inv0_ok8, var0_ok8, u0_ok, u0_ok, u0_ok, u0_ok, Nat.zero_le _⟩, g4, ?_⟩
    have hb := hd r1
    rw [r4, a3, t3, n4, s4, g3, List.append_nil] at hb
    rw [hb, msB]
    simp only
    rw [if_neg k1, if_pos k2]
    simp only [bidB, wide_inv l]
  rw [if_neg k2] at h ⊢
  by_cases k3 : a.1 = 3
  · rw [if_pos k3] at h ⊢
    simp only at h ⊢
    obtain ⟨g1, g2, g3, g4⟩ := rdV_inv h
    obtain ⟨s1, s2, -, s4⟩ := gTx_inv g2
    obtain ⟨t1, t2, t3⟩ := tkR_inv (by decide) s1
    obtain ⟨v1, v2, v3, v4⟩ := gVar_inv t1
    obtain ⟨i1, i2, i3⟩ := gInv_inv v1
    have l : (tkR (gVar (gInv a.2).2).2 32).1.length = 32 := by omega
    rw [g1]
    refine ⟨⟨ask0_ok, bid0_ok, inv_ok8 i2, v2, fB_u64 _ _ _ (by decide), fB_u64 _ _ _ (by decide), fB_u64 _ _ _ (by decide), fB_u64 _ _ _ (by decide), by show (gTx _ 1024).1.length ≤ _; omega⟩, g4, ?_⟩
    have hb := hd i1
    rw [i3, v4, t3, s4, g3, List.append_nil] at hb
    rw [hb, msB]
    simp only
    rw [if_neg k1, if_neg k2]
    simp only [relB, wide_inv l]
  rw [if_neg k3] at h ⊢
  obtain ⟨g1, g2, g3, g4⟩ := rdV_inv h
  rw [msgE, if_neg k1, if_neg k2, if_neg k3] at g4
  exact absurd g4 (by decide)
theorem rdm_more {m : MsgV} (hm : m.ok) (h : msgE m = 0) (r : List UInt8) : (rdM (msB m ++ r)).2 = 0 ↔ r = [] := by
  constructor
  · intro z
    by_cases hl : (msB m ++ r).length ≤ 8192
    · rw [fwdR hm h r hl] at z
      exact (rdV_inv z).2.2.1
    · have hb := (rdm_bwd z).2.2
      have hl2 := msB_length (rdm_bwd z).2.1
      rw [hb] at hl2
      omega
  · rintro rfl
    have hl := msB_length h
    rw [fwdR hm h [] (by simp; omega), rd_3 (by simp) (by rintro (z | z); exact absurd z (by simp); exact z (msgE_pl h))]
theorem rdm_cut {m : MsgV} (hm : m.ok) (h : (putM m).2 = 0) {c : Nat} (hc : c < (putM m).1.length) : (rdM ((putM m).1.take c)).2 ≠ 0 := by
  obtain ⟨e, q⟩ := putM_E h
  rw [q] at hc ⊢
  intro z
  obtain ⟨n1, n2, n3⟩ := rdm_bwd z
  have f := (rdm_more hm e []).2 rfl
  rw [List.append_nil] at f
  have g := rdm_more n1 n2 ((msB m).drop c)
  rw [n3] at g
  simp only [List.take_append_drop] at g
  have := congrArg List.length (g.1 f)
  simp only [List.length_drop, List.length_nil] at this
  simp only at hc
  omega
end Go.Proofs.Ytnodpljgcdkbkaa

