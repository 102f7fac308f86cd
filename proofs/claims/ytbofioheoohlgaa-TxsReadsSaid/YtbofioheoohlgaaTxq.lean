/-
  Transactions that may be come back; octets of what is read. (Printed by gen.py out of w_txq.py.)
-/
import Derived.Test.YtbofioheoohlgaaTxp
namespace Go.Proofs.Ytbofioheoohlgaa
open Go
set_option maxRecDepth 20000
set_option linter.unusedVariables false
set_option linter.unusedSimpArgs false

theorem txE_mk {t : TxV} (h1 : 1 ≤ t.k ∧ t.k ≤ 6) (h2 : ¬ rgBad t) (h3 : t.k < 4 → ¬ amZ t ∧ ¬ rtBad t) (h4 : ¬ t.k < 4 → ¬ invBad t.inv ∧ ¬ varBad t.var ∧ t.sig.length ≤ 1024) : txE t = 0 := by
  rw [txE, if_neg (by omega), if_neg h2]
  by_cases k : t.k < 4
  · rw [if_pos k, txR, if_neg (h3 k).1, if_neg (h3 k).2]
  · obtain ⟨a, b, c⟩ := h4 k
    rw [if_neg k, if_neg (by rw [invE, if_neg a]; decide), if_neg (by rw [varE, if_neg b]; decide), if_neg (by omega)]
theorem txE_amt {t : TxV} (h : txE t = 0) (k : t.k < 4) : ¬ amZ t := by
  obtain ⟨h1, h2, h3, h4⟩ := txE_facts h
  intro p
  rw [txE, if_neg (by omega), if_neg h2, if_pos k, txR, if_pos p] at h
  exact absurd h (by decide)
def gK (a b c d : Int × W) (e : List UInt8 × W) : TxV × W :=
  if a.1 = 1 then gTxsV (hdA a b c d e ⟨0, [], 0, 0, 0, (gNu e.2 M40).1, []⟩ var0) (gNu e.2 M40).2
  else if a.1 = 2 then gTxsV (hdA a b c d e ⟨0, [], (gNu e.2 M40).1, 0, 0, 0, []⟩ var0) (gNu e.2 M40).2
  else if a.1 = 4 then gTxsV (hdA a b c d e (gInv e.2).1 (gVar (gInv e.2).2).1) (gVar (gInv e.2).2).2
  else if a.1 = 5 ∨ a.1 = 6 then gTxsV (hdB a b c d e (gInv e.2).1 (gVar (gInv e.2).2).1 (tkR (gVar (gInv e.2).2).2 32).1 (gTx (tkR (gVar (gInv e.2).2).2 32).2 1024).1) (gTx (tkR (gVar (gInv e.2).2).2 32).2 1024).2
  else gTxsV (hdA a b c d e inv0 var0) e.2
theorem gTxs_gK {w : W} {a b c d : Int × W} {e : List UInt8 × W} (ha : gNu w M40 = a) (hb : gNu a.2 M40 = b) (hc : gNu b.2 M40 = c) (hd : gNu c.2 M40 = d) (he : tkR d.2 32 = e) : gTxs w = gK a b c d e := by
  subst ha hb hc hd he; rfl
theorem hd_read {t : TxV} (h1 : 1 ≤ t.k ∧ t.k ≤ 6) (h2 : ¬ rgBad t) (r : List UInt8) : ∃ r1 r2 r3 r4, gTxs (hB9 t ++ r, 0) = gK (t.k, r1) (t.f, r2) (t.n, r3) (t.a, r4) (wideL t.m0 t.m1 t.m2 t.m3, (r, 0)) := by
  unfold rgBad at h2
  have e1 : hB9 t ++ r = numL 6 t.k ++ (numL 6 t.f ++ (numL 6 t.n ++ (numL 6 t.a ++ (wideL t.m0 t.m1 t.m2 t.m3 ++ r)))) := by simp [hB9]
  rw [e1]
  exact ⟨_, _, _, _, gTxs_gK (gNu_ap (by unfold badN; omega) (by unfold M40; omega)) (gNu_ap (by unfold badN; omega) (by unfold M40; omega)) (gNu_ap (by unfold badN; omega) (by unfold M40; omega)) (gNu_ap (by unfold badN; omega) (by unfold M40; omega)) tkW_ap⟩
theorem hdA_eq {t : TxV} (ht : t.ok) {r1 r2 r3 r4 r5 : W} {i : InvV} {v : VarV} : hdA (t.k, r1) (t.f, r2) (t.n, r3) (t.a, r4) (wideL t.m0 t.m1 t.m2 t.m3, r5) i v = ⟨t.f, t.n, t.k, t.a, t.m0, t.m1, t.m2, t.m3, i, v, 0, 0, 0, 0, []⟩ := by
  obtain ⟨a0, a1, a2, a3⟩ := fBs_wide ht.m0 ht.m1 ht.m2 ht.m3
  unfold hdA
  simp only
  rw [a0, a1, a2, a3]
theorem hdB_eq {t : TxV} (ht : t.ok) {r1 r2 r3 r4 r5 : W} {i : InvV} {v : VarV} {s : List UInt8} : hdB (t.k, r1) (t.f, r2) (t.n, r3) (t.a, r4) (wideL t.m0 t.m1 t.m2 t.m3, r5) i v (wideL t.g0 t.g1 t.g2 t.g3) s = ⟨t.f, t.n, t.k, t.a, t.m0, t.m1, t.m2, t.m3, i, v, t.g0, t.g1, t.g2, t.g3, s⟩ := by
  obtain ⟨a0, a1, a2, a3⟩ := fBs_wide ht.m0 ht.m1 ht.m2 ht.m3
  obtain ⟨b0, b1, b2, b3⟩ := fBs_wide ht.g0 ht.g1 ht.g2 ht.g3
  unfold hdB
  simp only
  rw [a0, a1, a2, a3, b0, b1, b2, b3]
theorem gV_ok {t : TxV} {r : W} (h : txE t = 0) (hr : r.2 = 0) : gTxsV t r = (t, r) := by rw [gTxsV, if_neg (by rintro (q | q); exact q hr; exact q h)]
theorem gTxs_fwd {t : TxV} (ht : t.ok) (h : txE t = 0) : gTxs (txB t, 0) = (plT t, ([], 0)) := by
  obtain ⟨h1, h2, h3, h4⟩ := txE_facts h
  have ha := fun k => txE_amt h k
  unfold txB plT
  by_cases k1 : t.k = 1
  · rw [if_pos k1, if_pos k1]
    obtain ⟨r1, r2, r3, r4, e⟩ := hd_read h1 h2 (numL 6 t.inv.t)
    have hb := h3 (by omega); unfold rtBad at hb
    have e2 : gNu (numL 6 t.inv.t, 0) M40 = (t.inv.t, ([], 0)) := by
      have := gNu_ap (r := []) (n := t.inv.t) (m := M40) (by unfold badN; omega) (by unfold M40; omega)
      rwa [List.append_nil] at this
    rw [e, gK, if_pos k1, e2, hdA_eq ht]
    exact gV_ok (txE_mk h1 h2 (fun _ => ⟨ha (by omega), by unfold rtBad; simp only; omega⟩) (fun q => absurd q (by simp only; omega))) rfl
  rw [if_neg k1, if_neg k1]
  by_cases k2 : t.k = 2
  · rw [if_pos k2, if_pos k2]
    obtain ⟨r1, r2, r3, r4, e⟩ := hd_read h1 h2 (numL 6 t.inv.r)
    have hb := h3 (by omega); unfold rtBad at hb
    have e2 : gNu (numL 6 t.inv.r, 0) M40 = (t.inv.r, ([], 0)) := by
      have := gNu_ap (r := []) (n := t.inv.r) (m := M40) (by unfold badN; omega) (by unfold M40; omega)
      rwa [List.append_nil] at this
    rw [e, gK, if_neg k1, if_pos k2, e2, hdA_eq ht]
    exact gV_ok (txE_mk h1 h2 (fun _ => ⟨ha (by omega), by unfold rtBad; simp only; omega⟩) (fun q => absurd q (by simp only; omega))) rfl
  rw [if_neg k2, if_neg k2]
  by_cases k4 : t.k = 4
  · obtain ⟨a, b, c⟩ := h4 (by omega)
    rw [if_pos k4, if_pos k4]
    obtain ⟨r1, r2, r3, r4, e⟩ := hd_read h1 h2 (invB t.inv ++ varB t.var)
    have e3 := gVar_ok ht.var b []
    rw [List.append_nil] at e3
    rw [e, gK, if_neg k1, if_neg k2, if_pos k4, gInv_ok a, e3, hdA_eq ht]
    exact gV_ok (txE_mk h1 h2 (fun q => absurd q (by simp only; omega)) (fun _ => ⟨a, b, by simp⟩)) rfl
  rw [if_neg k4, if_neg k4]
  by_cases k5 : t.k = 5 ∨ t.k = 6
  · obtain ⟨a, b, c⟩ := h4 (by omega)
    rw [if_pos k5, if_pos k5]
    obtain ⟨r1, r2, r3, r4, e⟩ := hd_read h1 h2 (invB t.inv ++ (varB t.var ++ (wideL t.g0 t.g1 t.g2 t.g3 ++ txt t.sig)))
    have e3 := gVar_ok ht.var b (wideL t.g0 t.g1 t.g2 t.g3 ++ txt t.sig)
    have e4 := tkW_ap (x0 := t.g0) (x1 := t.g1) (x2 := t.g2) (x3 := t.g3) (r := txt t.sig)
    have e5 := gTx_ap (t := t.sig) (m := 1024) (r := []) (by omega) (by omega)
    rw [List.append_nil] at e5
    rw [e, gK, if_neg k1, if_neg k2, if_neg k4, if_pos k5, gInv_ok a, e3, e4, e5, hdB_eq ht]
    exact gV_ok (txE_mk h1 h2 (fun q => absurd q (by simp only; omega)) (fun _ => ⟨a, b, c⟩)) rfl
  rw [if_neg k5, if_neg k5]
  obtain ⟨r1, r2, r3, r4, e⟩ := hd_read h1 h2 []
  rw [List.append_nil] at e
  rw [e, gK, if_neg k1, if_neg k2, if_neg k4, if_neg k5, hdA_eq ht]
  exact gV_ok (txE_mk h1 h2 (fun _ => ⟨ha (by omega), by unfold rtBad; simp only; omega⟩) (fun q => absurd q (by simp only; omega))) rfl
theorem rd_fwd {t : TxV} (ht : t.ok) (h : (octL t).2 = 0) : rdL (octL t).1 = (plT t, 0) := by
  unfold octL at h ⊢
  by_cases p : txE t ≠ 0
  · rw [if_pos p] at h; exact absurd h p
  rw [if_neg p]
  have p0 : txE t = 0 := by omega
  have hl := txB_length p0
  rw [pTx_ok p0, rdL, opR_ok hl, gTxs_fwd ht p0, rdV, if_neg (by simp), if_neg (by simp)]

theorem gV_inv {t : TxV} {r : W} (h : (gTxsV t r).2.2 = 0) : gTxsV t r = (t, r) ∧ r.2 = 0 ∧ txE t = 0 := by
  unfold gTxsV at h ⊢
  by_cases p : r.2 ≠ 0 ∨ txE t ≠ 0
  · rw [if_pos p] at h; exact absurd h (spR_ne _)
  · rw [if_neg p]; exact ⟨rfl, by omega, by omega⟩
theorem hd_inv {w : W} {a b c d : Int × W} {e : List UInt8 × W} (ha : gNu w M40 = a) (hb : gNu a.2 M40 = b) (hc : gNu b.2 M40 = c) (hd : gNu c.2 M40 = d) (he : tkR d.2 32 = e) (h : e.2.2 = 0) :
    w.2 = 0 ∧ e.1.length = 32 ∧ w.1 = numL 6 a.1 ++ (numL 6 b.1 ++ (numL 6 c.1 ++ (numL 6 d.1 ++ (e.1 ++ e.2.1)))) := by
  subst ha hb hc hd he
  obtain ⟨q5, l5, p5⟩ := tkR_inv (by decide) h
  obtain ⟨q4, -, -, p4⟩ := gNu_inv q5
  obtain ⟨q3, -, -, p3⟩ := gNu_inv q4
  obtain ⟨q2, -, -, p2⟩ := gNu_inv q3
  obtain ⟨q1, -, -, p1⟩ := gNu_inv q2
  refine ⟨q1, by omega, ?_⟩
  rw [← p5, ← p4, ← p3, ← p2]
  exact p1
theorem inv_ok_of {v : InvV} (h : ¬ invBad v) : v.ok := by unfold invBad at h; exact ⟨by omega, by omega⟩
theorem hdA_B {a b c d : Int × W} {e : List UInt8 × W} {i : InvV} {v : VarV} (l : e.1.length = 32) : hB9 (hdA a b c d e i v) = numL 6 a.1 ++ (numL 6 b.1 ++ (numL 6 c.1 ++ (numL 6 d.1 ++ e.1))) := by
  simp only [hB9, hdA]; rw [wide_inv l]
theorem hdB_B {a b c d : Int × W} {e : List UInt8 × W} {i : InvV} {v : VarV} {g s : List UInt8} (l : e.1.length = 32) : hB9 (hdB a b c d e i v g s) = numL 6 a.1 ++ (numL 6 b.1 ++ (numL 6 c.1 ++ (numL 6 d.1 ++ e.1))) := by
  simp only [hB9, hdB]; rw [wide_inv l]
theorem hdA_ok {a b c d : Int × W} {e : List UInt8 × W} {i : InvV} {v : VarV} (l : e.1.length = 32) (hi : i.ok) (hv : v.ok) : (hdA a b c d e i v).ok :=
  ⟨fB8 (by omega) (by decide), fB8 (by omega) (by decide), fB8 (by omega) (by decide), fB8 (by omega) (by decide), hi, hv, by show U64 0; exact ⟨by decide, by decide⟩, by show U64 0; exact ⟨by decide, by decide⟩, by show U64 0; exact ⟨by decide, by decide⟩, by show U64 0; exact ⟨by decide, by decide⟩, by show ([] : List UInt8).length ≤ _; decide⟩
theorem hdB_ok {a b c d : Int × W} {e : List UInt8 × W} {i : InvV} {v : VarV} {g s : List UInt8} (l : e.1.length = 32) (hi : i.ok) (hv : v.ok) (lg : g.length = 32) (ls : s.length ≤ 1024) : (hdB a b c d e i v g s).ok :=
  ⟨fB8 (by omega) (by decide), fB8 (by omega) (by decide), fB8 (by omega) (by decide), fB8 (by omega) (by decide), hi, hv, fB8 (by omega) (by decide), fB8 (by omega) (by decide), fB8 (by omega) (by decide), fB8 (by omega) (by decide), by show s.length ≤ _; omega⟩
theorem var0_ok : var0.ok := ⟨⟨by decide, by decide⟩, ⟨by decide, by decide⟩, ⟨by decide, by decide⟩, ⟨by decide, by decide⟩⟩
theorem txB_1 {t : TxV} (h : t.k = 1) : txB t = hB9 t ++ numL 6 t.inv.t := by rw [txB, if_pos h]
theorem txB_2 {t : TxV} (h : t.k = 2) : txB t = hB9 t ++ numL 6 t.inv.r := by rw [txB, if_neg (by omega), if_pos h]
theorem txB_4 {t : TxV} (h : t.k = 4) : txB t = hB9 t ++ (invB t.inv ++ varB t.var) := by rw [txB, if_neg (by omega), if_neg (by omega), if_pos h]
theorem txB_5 {t : TxV} (h : t.k = 5 ∨ t.k = 6) : txB t = hB9 t ++ (invB t.inv ++ (varB t.var ++ (wideL t.g0 t.g1 t.g2 t.g3 ++ txt t.sig))) := by rw [txB, if_neg (by omega), if_neg (by omega), if_neg (by omega), if_pos h]
theorem txB_0 {t : TxV} (h1 : ¬ t.k = 1) (h2 : ¬ t.k = 2) (h4 : ¬ t.k = 4) (h5 : ¬ (t.k = 5 ∨ t.k = 6)) : txB t = hB9 t := by rw [txB, if_neg h1, if_neg h2, if_neg h4, if_neg h5]
theorem gTxs_bwd {w : W} (h : (gTxs w).2.2 = 0) : w.2 = 0 ∧ (gTxs w).1.ok ∧ txE (gTxs w).1 = 0 ∧ w.1 = txB (gTxs w).1 ++ (gTxs w).2.1 := by
  obtain ⟨a, ha⟩ : ∃ a, gNu w M40 = a := ⟨_, rfl⟩
  obtain ⟨b, hb⟩ : ∃ b, gNu a.2 M40 = b := ⟨_, rfl⟩
  obtain ⟨c, hc⟩ : ∃ c, gNu b.2 M40 = c := ⟨_, rfl⟩
  obtain ⟨d, hd⟩ : ∃ d, gNu c.2 M40 = d := ⟨_, rfl⟩
  obtain ⟨e, he⟩ : ∃ e, tkR d.2 32 = e := ⟨_, rfl⟩
  have H := fun q => hd_inv ha hb hc hd he q
  rw [gTxs_gK ha hb hc hd he] at h ⊢
  clear ha hb hc hd he
  unfold gK at h ⊢
  by_cases k1 : a.1 = 1
  · rw [if_pos k1] at h ⊢
    obtain ⟨g1, g2, g3⟩ := gV_inv h
    obtain ⟨q, -, -, p⟩ := gNu_inv g2
    obtain ⟨h0, l, P⟩ := H q
    rw [g1]
    refine ⟨h0, hdA_ok l ⟨Nat.zero_le _, Nat.zero_le _⟩ var0_ok, g3, ?_⟩
    have E := txB_1 (t := hdA a b c d e ⟨0, [], 0, 0, 0, (gNu e.2 M40).1, []⟩ var0) k1
    show w.1 = txB (hdA a b c d e ⟨0, [], 0, 0, 0, (gNu e.2 M40).1, []⟩ var0) ++ (gNu e.2 M40).2.1
    rw [E, hdA_B l, P, p]
    simp [hdA]
  rw [if_neg k1] at h ⊢
  by_cases k2 : a.1 = 2
  · rw [if_pos k2] at h ⊢
    obtain ⟨g1, g2, g3⟩ := gV_inv h
    obtain ⟨q, -, -, p⟩ := gNu_inv g2
    obtain ⟨h0, l, P⟩ := H q
    rw [g1]
    refine ⟨h0, hdA_ok l ⟨Nat.zero_le _, Nat.zero_le _⟩ var0_ok, g3, ?_⟩
    have E := txB_2 (t := hdA a b c d e ⟨0, [], (gNu e.2 M40).1, 0, 0, 0, []⟩ var0) k2
    show w.1 = txB (hdA a b c d e ⟨0, [], (gNu e.2 M40).1, 0, 0, 0, []⟩ var0) ++ (gNu e.2 M40).2.1
    rw [E, hdA_B l, P, p]
    simp [hdA]
  rw [if_neg k2] at h ⊢
  by_cases k4 : a.1 = 4
  · rw [if_pos k4] at h ⊢
    obtain ⟨g1, g2, g3⟩ := gV_inv h
    obtain ⟨v1, v2, v3, v4⟩ := gVar_inv g2
    obtain ⟨i1, i2, i3⟩ := gInv_inv v1
    obtain ⟨h0, l, P⟩ := H i1
    rw [g1]
    refine ⟨h0, hdA_ok l (inv_ok_of i2) v2, g3, ?_⟩
    have E := txB_4 (t := hdA a b c d e (gInv e.2).1 (gVar (gInv e.2).2).1) k4
    show w.1 = txB (hdA a b c d e (gInv e.2).1 (gVar (gInv e.2).2).1) ++ (gVar (gInv e.2).2).2.1
    rw [E, hdA_B l, P, i3, v4]
    simp [hdA]
  rw [if_neg k4] at h ⊢
  by_cases k5 : a.1 = 5 ∨ a.1 = 6
  · rw [if_pos k5] at h ⊢
    obtain ⟨g1, g2, g3⟩ := gV_inv h
    obtain ⟨s1, s2, -, s4⟩ := gTx_inv g2
    obtain ⟨t1, t2, t3⟩ := tkR_inv (by decide) s1
    obtain ⟨v1, v2, v3, v4⟩ := gVar_inv t1
    obtain ⟨i1, i2, i3⟩ := gInv_inv v1
    obtain ⟨h0, l, P⟩ := H i1
    have lg : (tkR (gVar (gInv e.2).2).2 32).1.length = 32 := by omega
    rw [g1]
    refine ⟨h0, hdB_ok l (inv_ok_of i2) v2 lg s2, g3, ?_⟩
    have E := txB_5 (t := hdB a b c d e (gInv e.2).1 (gVar (gInv e.2).2).1 (tkR (gVar (gInv e.2).2).2 32).1 (gTx (tkR (gVar (gInv e.2).2).2 32).2 1024).1) k5
    show w.1 = txB (hdB a b c d e (gInv e.2).1 (gVar (gInv e.2).2).1 (tkR (gVar (gInv e.2).2).2 32).1 (gTx (tkR (gVar (gInv e.2).2).2 32).2 1024).1) ++ (gTx (tkR (gVar (gInv e.2).2).2 32).2 1024).2.1
    rw [E, hdB_B l, P, i3, v4, t3, s4]
    simp only [hdB, wide_inv lg, List.append_assoc]
  rw [if_neg k5] at h ⊢
  obtain ⟨g1, g2, g3⟩ := gV_inv h
  obtain ⟨h0, l, P⟩ := H g2
  rw [g1]
  refine ⟨h0, hdA_ok l ⟨Nat.zero_le _, Nat.zero_le _⟩ var0_ok, g3, ?_⟩
  have E := txB_0 (t := hdA a b c d e inv0 var0) k1 k2 k4 k5
  show w.1 = txB (hdA a b c d e inv0 var0) ++ e.2.1
  rw [E, hdA_B l, P]
  simp
theorem opR_0 {b : List UInt8} (h : (opR b).2 = 0) : opR b = (b, 0) := by
  unfold opR at h ⊢
  split at h
  · exact absurd h (by decide)
  · rename_i p; rw [if_neg p]
theorem rd_bwd {b : List UInt8} (h : (rdL b).2 = 0) : (rdL b).1.ok ∧ octL (rdL b).1 = (b, 0) := by
  unfold rdL rdV at h ⊢
  by_cases p : 0 < (gTxs (opR b)).2.1.length
  · rw [if_pos p] at h; exact absurd h (spR_ne _)
  rw [if_neg p] at h ⊢
  by_cases q : (gTxs (opR b)).2.2 ≠ 0
  · rw [if_pos q] at h; exact absurd h q
  rw [if_neg q]
  obtain ⟨h1, h2, h3, h4⟩ := gTxs_bwd (w := opR b) (by omega)
  have e := opR_0 h1
  have n : (gTxs (opR b)).2.1 = [] := List.length_eq_zero_iff.1 (by omega)
  refine ⟨h2, ?_⟩
  show octL (gTxs (opR b)).1 = (b, 0)
  rw [octL, if_neg (by omega), pTx_ok h3]
  rw [n, List.append_nil] at h4
  rw [← h4, e]
theorem rd_err {b : List UInt8} (h : (rdL b).2 ≠ 0) : (rdL b).1 = tx0 := by
  unfold rdL rdV at h ⊢
  by_cases p : 0 < (gTxs (opR b)).2.1.length
  · rw [if_pos p]
  rw [if_neg p] at h ⊢
  by_cases q : (gTxs (opR b)).2.2 ≠ 0
  · rw [if_pos q]
  · rw [if_neg q] at h; exact absurd rfl h

end Go.Proofs.Ytbofioheoohlgaa
