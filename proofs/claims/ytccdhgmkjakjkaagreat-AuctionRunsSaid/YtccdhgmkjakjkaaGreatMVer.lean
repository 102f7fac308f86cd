/-
  WALKS: where a signature leads (mss.climb, Verify, and the reference's). (Printed by gen.py out of w_mver.py.)
-/
import Derived.Test.YtccdhgmkjakjkaaGreatMSig
import Derived.Test.YtccdhgmkjakjkaaGreatCut
namespace Go.Proofs.YtccdhgmkjakjkaaGreat
open Go
set_option maxRecDepth 20000
set_option linter.unusedVariables false
set_option linter.unusedSimpArgs false
def clm : List UInt8 → Nat → List (List UInt8) → List UInt8
 | s, _, [] => s
 | s, n, p :: r => clm (if n % 2 = 0 then nod s p else nod p s) (n / 2) r
theorem clm_at {L : List (List UInt8)} {i : Nat} {p : List UInt8} (hp : L[i]? = some p) (s : List UInt8) (n : Nat) : clm s n (L.drop i) = clm (if n % 2 = 0 then nod s p else nod p s) (n / 2) (L.drop (i + 1)) := by
 obtain ⟨hlt, he⟩ := List.getElem?_eq_some_iff.1 hp
 rw [List.drop_eq_getElem_cons hlt, he]
 rfl
theorem take_ro {C : List (List UInt8)} (h : 15 ≤ C.length) : AVal.r (.ro (Int.toNat 15) (List.take (mulz 15 1) (C.map .bs))) = roL (C.take 15) := by
 simp [roL, mulz_eq, List.map_take, Nat.min_eq_left h]
theorem and1 {m : Nat} (h : m < 256) : ibit .and .i64 (m : Int) 1 = ((m % 2 : Nat) : Int) := by
 have : ∀ n : Fin 256, ibit .and .i64 ((n.val : Nat) : Int) 1 = ((n.val % 2 : Nat) : Int) := by decide +kernel
 exact this ⟨m, h⟩
theorem nod_length (a b : List UInt8) : (nod a b).length = 8 := sh8_length _
def pcs (b : List UInt8) (m : Nat) : List (List UInt8) := (List.range m).map fun i => (b.drop (8 * i)).take 8
theorem pcs_length (b : List UInt8) (m : Nat) : (pcs b m).length = m := by simp [pcs]
theorem pcs_get {b : List UInt8} {m i : Nat} (h : i < m) : (pcs b m)[i]? = some ((b.drop (8 * i)).take 8) := by simp [pcs, h]
theorem pcs_8 {b : List UInt8} {m : Nat} (h : b.length = 8 * m) : ∀ p ∈ pcs b m, p.length = 8 := by
 intro p hp
 simp only [pcs, List.mem_map, List.mem_range] at hp
 obtain ⟨j, hj, rfl⟩ := hp
 rw [List.length_take, List.length_drop]; omega
theorem cut_pcs : ∀ (m : Nat) (b : List UInt8), b.length = 8 * m → cutL' 8 b = pcs b m
 | 0, b, h => by
  have : b = [] := List.length_eq_zero_iff.1 (by omega)
  subst this; rfl
 | m + 1, b, h => by
  rw [cut_next (by decide) (by intro e; subst e; simp at h), cut_pcs m (b.drop 8) (by simp; omega), pcs, pcs, List.range_succ_eq_map, List.map_cons, List.map_map, Nat.mul_zero, List.drop_zero]
  congr 1
  apply List.map_congr_left
  intro i _
  simp only [Function.comp, List.drop_drop]
  rw [show 8 + 8 * i = 8 * (i + 1) by omega]
theorem pcs_next (b : List UInt8) (m i : Nat) (h : i < m) : sL ((pcs b m).take (i + 1)) = sL ((pcs b m).take i) ++ [.str ((b.drop (8 * i)).take 8)] := by
 rw [List.take_add_one, pcs_get h]; simp [sL]
def stclb_0 (s : List UInt8) (n : Nat) (L : List (List UInt8)) : Nat × List UInt8 × Nat → Regs × Hp := fun ⟨i, q, m⟩ => ([(0, .r (.str q)), (1, .r (.int .i64 (m : Int))), (9, roL L), (10, .r (.int .i64 (L.length : Int))), (11, .r (.int .i64 (i : Int)))], ⟨0, [], false⟩)
def prclb_0 (s : List UInt8) (n : Nat) (L : List (List UInt8)) : Nat × List UInt8 × Nat → Prop := fun ⟨i, q, m⟩ => clm q m (L.drop i) = clm s n L ∧ m < 256 ∧ q.length ≤ 1000
theorem w_climb (s : List UInt8) (n : Nat) (L : List (List UInt8)) (hs : s.length ≤ 1000) (hn : n < 256) (hL : L.length ≤ 1000) (h8 : ∀ p ∈ L, p.length = 8) : Pur Tryz.prog 67 [.r (.str s), .r (.int .i64 (n : Int)), roL L] (.r (.str (clm s n L))) := by
 refine spec_of_go (N := 30) Tryz.func67 rfl (by decide) rfl rfl ?_
 refine zB ?_
 refine pF ?_
 refine zB ?_
 iterate 2 refine pA ?_
 refine pE ?_
 refine ag_block ?_
 refine ag_loopS (stclb_0 s n L) (prclb_0 s n L) (fun ⟨i, q, m⟩ => L.length - i) (0, s, n) (ent_weak [] rfl rfl rfl rfl ?_ ?_ rfl) (show prclb_0 s n L (0, s, n) from ?_) ?_
 ·exact ⟨⟨rfl, rfl⟩, ⟨rfl, rfl⟩, ⟨rfl, rfl⟩, ⟨rfl, rfl⟩, ⟨rfl, rfl⟩, trivial⟩
 ·trivial
 ·exact ⟨rfl, hn, hs⟩
 rintro ⟨i, q, m⟩ hp0 hrec
 obtain ⟨hx, hm, hq⟩ : _ := hp0
 refine zB ?_
 refine pF ?_
 refine ag_if rfl ?_ ?_
 ·intro h12
  obtain ⟨p, hp⟩ := getI (L := L) (i := i) (by omega)
  have hpl := h8 p (memI hp)
  rw [clm_at hp] at hx
  refine sS ?_
  refine bX ?_
  refine pC ?_ ?_
  ·refine ⟨?_, ?_⟩ <;> first | omega | exact ne_mp hp | (refine ⟨?_, ?_⟩ <;> omega)
  refine ar_loadAs tOk (.r (.bs p)) rfl rfl rfl rfl rfl rfl rfl (.inl ⟨rfl, by simp [Body.cells, mulz_eq, hp]⟩) ?_
  refine pF ?_
  refine zB ?_
  iterate 2 refine pA ?_
  refine ar_ent (ent_reg 16 (.r (.int .i64 (((m % 2 : Nat) : Int)))) (by show AVal.r (.int _ _) = _; exact eqI (and1 hm))) ?_
  refine pE ?_
  refine ag_if rfl ?_ ?_
  ·intro h17
   rw [if_pos (by omega)] at hx
   refine ag_reg ?_
   iterate 3 refine pA ?_
   refine ar_pur (w_join q p (by omega) (by omega)) rfl rfl rfl rfl rfl rfl rfl ?_
   refine pE ?_
   refine ag_reg ?_
   refine pA ?_
   refine pC ?_ ?_
   ·decide
   refine ar_ent (ent_reg 27 (.r (.int .i64 (((m / 2 : Nat) : Int)))) (by show AVal.r (.int _ _) = _; exact eqI (by rw [Int.fdiv_eq_ediv_of_nonneg _ (by decide)]; show (m : Int) / 2 = _; omega))) ?_
   refine pE ?_
   refine iR ?_
   refine pC ?_ ?_
   ·unfold inI64; omega
   refine pE ?_
   refine ag_ent (ent_weak (g' := (stclb_0 s n L (i + 1, nod q p, m / 2)).1) (h' := (stclb_0 s n L (i + 1, nod q p, m / 2)).2) [] rfl rfl rfl rfl ?_ ?_ rfl) ?_
   ·exact ⟨⟨rfl, rfl⟩, ⟨rfl, rfl⟩, ⟨rfl, rfl⟩, ⟨rfl, rfl⟩, ⟨rfl, by exact eqI (by omega)⟩, trivial⟩
   ·trivial
   have hnx := hrec (i + 1, nod q p, m / 2)
   refine hnx ?_ ?_
   ·exact ⟨hx, by omega, by rw [nod_length]; omega⟩
   ·show L.length - (i + 1) < L.length - i; omega
  ·intro h17
   rw [if_neg (by omega)] at hx
   refine ag_reg ?_
   iterate 3 refine pA ?_
   refine ar_pur (w_join p q (by omega) (by omega)) rfl rfl rfl rfl rfl rfl rfl ?_
   refine pE ?_
   refine ag_reg ?_
   refine pA ?_
   refine pC ?_ ?_
   ·decide
   refine ar_ent (ent_reg 27 (.r (.int .i64 (((m / 2 : Nat) : Int)))) (by show AVal.r (.int _ _) = _; exact eqI (by rw [Int.fdiv_eq_ediv_of_nonneg _ (by decide)]; show (m : Int) / 2 = _; omega))) ?_
   refine pE ?_
   refine iR ?_
   refine pC ?_ ?_
   ·unfold inI64; omega
   refine pE ?_
   refine ag_ent (ent_weak (g' := (stclb_0 s n L (i + 1, nod p q, m / 2)).1) (h' := (stclb_0 s n L (i + 1, nod p q, m / 2)).2) [] rfl rfl rfl rfl ?_ ?_ rfl) ?_
   ·exact ⟨⟨rfl, rfl⟩, ⟨rfl, rfl⟩, ⟨rfl, rfl⟩, ⟨rfl, rfl⟩, ⟨rfl, by exact eqI (by omega)⟩, trivial⟩
   ·trivial
   have hnx := hrec (i + 1, nod p q, m / 2)
   refine hnx ?_ ?_
   ·exact ⟨hx, by omega, by rw [nod_length]; omega⟩
   ·show L.length - (i + 1) < L.length - i; omega
 ·intro h12
  rw [List.drop_eq_nil_of_le (by omega)] at hx
  refine ag_exit rfl ?_
  refine zB ?_
  refine pA ?_
  refine pE ?_
  refine ag_ret tOk Tryz.func67 rfl rfl (by simp) ?_
  exact eqStr hx
def vok (root text sig : List UInt8) : Prop := sig.length = 145 ∧ leafN sig < 8 ∧ clm (opn text ((pcs (sig.drop 1) 18).take 15)) (leafN sig).toNat ((pcs (sig.drop 1) 18).drop 15) = root
instance (root text sig : List UInt8) : Decidable (vok root text sig) := by unfold vok; infer_instance
def vres (root text sig : List UInt8) : AVal := if vok root text sig then .tuple [.r (.int .i64 (leafN sig)), .r (.bool true)] else .tuple [.r (.int .i64 0), .r (.bool false)]
theorem leaf_nat {sig : List UInt8} (h : sig.length = 145) : ∃ n : Nat, leafN sig = (n : Int) ∧ n < 256 := by
 cases sig with
 | nil => simp at h
 | cons b r => exact ⟨b.toNat, rfl, by have := u8_lt b; omega⟩
theorem opn_length (text : List UInt8) (P : List (List UInt8)) : (opn text P).length ≤ 8 := by
 unfold opn
 split
 ·rw [clo, sh8_length]; omega
 ·simp
theorem vres_eq {root text sig : List UInt8} (h1 : sig.length = 145) {n : Nat} (hn : leafN sig = (n : Int)) (h8 : n < 8) : vres root text sig = if clm (opn text ((pcs (sig.drop 1) 18).take 15)) n ((pcs (sig.drop 1) 18).drop 15) = root then .tuple [.r (.int .i64 (n : Int)), .r (.bool true)] else .tuple [.r (.int .i64 0), .r (.bool false)] := by
 have e : vok root text sig ↔ clm (opn text ((pcs (sig.drop 1) 18).take 15)) n ((pcs (sig.drop 1) 18).drop 15) = root := by
  rw [vok, hn, Int.toNat_natCast]
  exact ⟨fun e => e.2.2, fun e => ⟨h1, by omega, e⟩⟩
 by_cases h : vok root text sig
 ·rw [vres, if_pos h, if_pos (e.1 h), hn]
 ·rw [vres, if_neg h, if_neg (fun c => h (e.2 c))]
theorem ver_facts (root text sig : List UInt8) (hb : text.length ≤ 140737488355000) (h1 : sig.length = 145) (n : Nat) (hn : leafN sig = (n : Int)) (h8 : n < 8) : ∃ (b : List UInt8) (C D : List (List UInt8)) (O X : List UInt8), sig.drop 1 = b ∧ b.length = 144 ∧ C.length = 18 ∧ C.take 15 = D ∧ D.length = 15 ∧
  Pur Tryz.prog 65 [.r (.str sig)] (.r (.int .i64 (n : Int))) ∧ Pur Tryz.prog 66 [.r (.bs b), .r (.int .i64 8)] (roL C) ∧ Pur Tryz.prog 68 [.r (.bs text), roS D] (.r (.str O)) ∧
  Pur Tryz.prog 67 [.r (.str O), .r (.int .i64 (n : Int)), .r (.ro (C.length - (15 : Int).toNat) (List.drop (mulz 15 1) (bL C)))] (.r (.str X)) ∧
  vres root text sig = if X = root then .tuple [.r (.int .i64 (n : Int)), .r (.bool true)] else .tuple [.r (.int .i64 0), .r (.bool false)] := by
 have hbl : (sig.drop 1).length = 144 := by rw [List.length_drop]; omega
 have hC8 : ∀ p ∈ pcs (sig.drop 1) 18, p.length = 8 := pcs_8 (by omega)
 have hCl := pcs_length (sig.drop 1) 18
 refine ⟨sig.drop 1, pcs (sig.drop 1) 18, (pcs (sig.drop 1) 18).take 15, opn text ((pcs (sig.drop 1) 18).take 15), _, rfl, hbl, hCl, rfl, by rw [List.length_take]; omega, ?_, ?_, ?_, ?_, vres_eq h1 hn h8⟩
 ·rw [← hn]; exact w_Leaf sig
 ·exact (w_CutA (sig.drop 1) 8 (by decide) (by decide) (by omega)).mono_r (by rw [show (8 : Int).toNat = 8 from rfl, cut_pcs 18 _ (by omega)]; rfl)
 ·exact w_Open text _ hb (by rw [List.length_take]; omega)
 ·generalize pcs (sig.drop 1) 18 = C at *
  have h := w_climb (opn text (C.take 15)) n (C.drop 15) (by have := opn_length text (C.take 15); omega) (by omega) (by rw [List.length_drop]; omega) (fun p hp => hC8 p (List.mem_of_mem_drop hp))
  have e : roL (C.drop 15) = .r (.ro (C.length - (15 : Int).toNat) (List.drop (mulz 15 1) (bL C))) := by simp [roL, bL, mulz_eq]
  rw [← e]; exact h
theorem w_VerifyB (root text sig : List UInt8) (hb : text.length ≤ 140737488355000) (hsg : sig.length ≤ 9223372036854775807) (h : ¬ (sig.length = 145 ∧ leafN sig < 8)) : Pur Tryz.prog 50 [.r (.str root), .r (.bs text), .r (.str sig)] (vres root text sig) := by
 refine spec_of_go (N := 49) Tryz.func50 rfl (by decide) rfl rfl ?_
 refine zB ?_
 refine pA ?_
 refine pG ?_
 refine pA ?_
 refine ar_pur (w_Leaf sig) rfl rfl rfl rfl rfl rfl rfl ?_
 refine pF ?_
 refine zB ?_
 iterate 4 refine pA ?_
 refine ar_guard (t := decide (¬ (sig.length : Int) = 145)) (fun ht => ?_) (fun ht => ?_)
 ·refine ar_ent (ent_reg 18 (.r (.bool true)) (by show AVal.r (.bool _) = _; rw [ht])) ?_
  have h1 := of_decide_eq_true ht
  iterate 2 refine ar_skip rfl rfl rfl ?_
  refine pE ?_
  refine vB ?_
  refine zB ?_
  refine pA ?_
  refine pE ?_
  refine ag_ret tOk Tryz.func50 rfl rfl (by simp) ?_
  show AVal.tuple _ = _
  rw [vres, if_neg (fun e => h ⟨e.1, e.2.1⟩)]
  rfl
 ·refine ar_ent (ent_reg 18 (.r (.bool false)) (by show AVal.r (.bool _) = _; rw [ht])) ?_
  have h1 := of_decide_eq_false ht
  iterate 2 refine pA ?_
  refine pE ?_
  refine ag_true rfl (by simp; omega) ?_
  refine zB ?_
  refine pA ?_
  refine pE ?_
  refine ag_ret tOk Tryz.func50 rfl rfl (by simp) ?_
  show AVal.tuple _ = _
  rw [vres, if_neg (fun e => h ⟨e.1, e.2.1⟩)]
  rfl
def stVfG_0 (root text : List UInt8) (C D : List (List UInt8)) (n : Nat) : Nat × List RVal → Regs × Hp := fun ⟨i, acc⟩ => ([(0, .r (.str root)), (1, .r (.bs text)), (8, .r (.int .i64 (n : Int))), (9, roL C), (27, roL D), (28, .r (.int .i64 (D.length : Int))), (29, .r (.int .i64 ((i : Int)))), (10, accA acc)], accH acc)
def prVfG_0 (root text : List UInt8) (C D : List (List UInt8)) (n : Nat) : Nat × List RVal → Prop := fun ⟨i, acc⟩ => i ≤ 15 ∧ acc = sL (D.take i)
theorem w_VerifyG (root text sig : List UInt8) (hb : text.length ≤ 140737488355000) (hsg : sig.length ≤ 9223372036854775807) (h1 : sig.length = 145) (n : Nat) (hn : leafN sig = (n : Int)) (h8 : n < 8) : Pur Tryz.prog 50 [.r (.str root), .r (.bs text), .r (.str sig)] (vres root text sig) := by
 obtain ⟨b, C, D, O, X, hbe, hbl, hCl, hDe, hDl, hLf, hCut, hOp, hCm, hv⟩ := ver_facts root text sig hb h1 n hn h8
 rw [hv]
 clear hv hn
 refine spec_of_go (N := 49) Tryz.func50 rfl (by decide) rfl rfl ?_
 refine zB ?_
 refine pA ?_
 refine pG ?_
 refine pA ?_
 refine ar_pur (hLf) rfl rfl rfl rfl rfl rfl rfl ?_
 refine pF ?_
 refine zB ?_
 iterate 4 refine pA ?_
 refine ar_ent (ent_reg 18 (.r (.bool false)) (by show AVal.r (.bool _) = _; exact eqB (by simp; omega))) ?_
 iterate 2 refine pA ?_
 refine pE ?_
 refine ag_false rfl (by simp; omega) ?_
 refine ag_skip ?_
 refine zB ?_
 refine pA ?_
 refine pC ?_ ?_
 ·simp only [boundsOk]; omega
 refine ar_ent (ent_reg 23 (.r (.str (b))) (by show AVal.r (.str _) = _; exact eqStr (hbe))) ?_
 refine ar_qd rfl (qop_strBytes tOk rfl) rfl rfl rfl rfl ?_
 refine ar_pur (hCut) rfl rfl rfl rfl rfl rfl rfl ?_
 refine pG ?_
 refine pF ?_
 refine zB ?_
 refine pA ?_
 refine pC ?_ ?_
 ·simp only [boundsOk]; omega
 refine ar_ent (ent_reg 27 (roL D) (by rw [← hDe]; exact take_ro (by omega))) ?_
 refine pA ?_
 refine pE ?_
 refine ag_block ?_
 refine ag_loopS (stVfG_0 root text C D n) (prVfG_0 root text C D n) (fun ⟨i, acc⟩ => 15 - i) (0, []) (ent_weak [] rfl rfl rfl rfl ?_ ?_ rfl) (show prVfG_0 root text C D n (0, []) from ?_) ?_
 ·exact ⟨⟨rfl, rfl⟩, ⟨rfl, rfl⟩, ⟨rfl, rfl⟩, ⟨rfl, rfl⟩, ⟨rfl, rfl⟩, ⟨rfl, rfl⟩, ⟨rfl, rfl⟩, ⟨rfl, rfl⟩, trivial⟩
 ·trivial
 ·exact ⟨Nat.zero_le _, by rfl⟩
 rintro ⟨i, acc⟩ hp hrec
 cases acc with
 | nil =>
  obtain ⟨hi, hacc⟩ : _ := hp
  refine ag_ent (ent_weak (g' := [(0, .r (.str root)), (1, .r (.bs text)), (8, .r (.int .i64 (n : Int))), (9, roL C), (27, roL D), (28, .r (.int .i64 (D.length : Int))), (29, .r (.int .i64 ((i : Int)))), (10, .r .nil)]) (h' := ⟨0, [], false⟩) [] rfl rfl rfl rfl ?_ ?_ rfl) ?_
  ·exact ⟨⟨rfl, rfl⟩, ⟨rfl, rfl⟩, ⟨rfl, rfl⟩, ⟨rfl, rfl⟩, ⟨rfl, rfl⟩, ⟨rfl, rfl⟩, ⟨rfl, rfl⟩, ⟨rfl, rfl⟩, trivial⟩
  ·trivial
  refine zB ?_
  refine pF ?_
  refine ag_if rfl ?_ ?_
  ·intro h30
   obtain ⟨p, hp⟩ := getI (L := D) (i := i) (by omega)
   have hpn : sL (D.take (i + 1)) = sL (D.take i) ++ [.str p] := by rw [List.take_add_one, hp]; simp [sL]
   refine sS ?_
   refine bX ?_
   refine pC ?_ ?_
   ·refine ⟨?_, ?_⟩ <;> first | omega | exact ne_mp hp | (refine ⟨?_, ?_⟩ <;> omega)
   refine ar_loadAs tOk (.r (.bs p)) rfl rfl rfl rfl rfl rfl rfl (.inl ⟨rfl, by simp [Body.cells, mulz_eq, hp]⟩) ?_
   refine pE ?_
   refine ag_reg ?_
   iterate 3 refine pA ?_
   skip
   refine ar_qd rfl (qop_buildRo tOk rfl ?_ rfl) rfl rfl rfl rfl ?_
   ·repeat any_goals (first | trivial | decide | omega | (simp; done) | (rw [wu8]; omega) | refine ⟨?_, ?_⟩)
   refine pP ?_ ?_
   ·refine ⟨⟨?_, ?_, ?_⟩, ⟨?_, ?_⟩, ⟨?_, ?_⟩, ?_⟩ <;> first | trivial | omega | (simp; done) | (simp; omega)
   refine pE ?_
   refine iR ?_
   refine pC ?_ ?_
   ·unfold inI64; omega
   refine pE ?_
   refine ag_ent (ent_weak (g' := (stVfG_0 root text C D n (i + 1, [.str p])).1) (h' := (stVfG_0 root text C D n (i + 1, [.str p])).2) [0] rfl rfl rfl rfl ?_ ?_ rfl) ?_
   ·exact ⟨⟨rfl, rfl⟩, ⟨rfl, rfl⟩, ⟨rfl, rfl⟩, ⟨rfl, rfl⟩, ⟨rfl, rfl⟩, ⟨rfl, rfl⟩, ⟨rfl, by exact eqI (by omega)⟩, ⟨rfl, rfl⟩, trivial⟩
   ·exact ⟨⟨rfl, rfl, rfl⟩, trivial⟩
   have hnx := hrec (i + 1, [.str p])
   refine hnx ?_ ?_
   ·exact ⟨by omega, by rw [hpn, ← hacc]; try rfl⟩
   ·show 15 - (i + 1) < 15 - i; omega
  ·intro h30
   exfalso
   have := congrArg List.length hacc
   simp [sL, hDl] at this
   omega
 | cons a l =>
  obtain ⟨hi, hacc⟩ : _ := hp
  refine ag_ent (ent_weak (g' := [(0, .r (.str root)), (1, .r (.bs text)), (8, .r (.int .i64 (n : Int))), (9, roL C), (27, roL D), (28, .r (.int .i64 (D.length : Int))), (29, .r (.int .i64 ((i : Int)))), (10, .sl 0 0 (l.length + 1) 1)]) (h' := ⟨1, [(0, some (.plain (a :: l)))], false⟩) [0] rfl rfl rfl rfl ?_ ?_ rfl) ?_
  ·exact ⟨⟨rfl, rfl⟩, ⟨rfl, rfl⟩, ⟨rfl, rfl⟩, ⟨rfl, rfl⟩, ⟨rfl, rfl⟩, ⟨rfl, rfl⟩, ⟨rfl, rfl⟩, ⟨rfl, rfl⟩, trivial⟩
  ·exact ⟨⟨rfl, rfl, rfl⟩, trivial⟩
  have hln := congrArg List.length hacc
  simp only [sL, List.length_map, List.length_take, List.length_cons] at hln
  refine zB ?_
  refine pF ?_
  refine ag_if rfl ?_ ?_
  ·intro h30
   obtain ⟨p, hp⟩ := getI (L := D) (i := i) (by omega)
   have hpn : sL (D.take (i + 1)) = sL (D.take i) ++ [.str p] := by rw [List.take_add_one, hp]; simp [sL]
   refine sS ?_
   refine bX ?_
   refine pC ?_ ?_
   ·refine ⟨?_, ?_⟩ <;> first | omega | exact ne_mp hp | (refine ⟨?_, ?_⟩ <;> omega)
   refine ar_loadAs tOk (.r (.bs p)) rfl rfl rfl rfl rfl rfl rfl (.inl ⟨rfl, by simp [Body.cells, mulz_eq, hp]⟩) ?_
   refine pE ?_
   refine ag_reg ?_
   iterate 3 refine pA ?_
   skip
   refine ar_qd rfl (qop_buildRo tOk rfl ?_ rfl) rfl rfl rfl rfl ?_
   ·repeat any_goals (first | trivial | decide | omega | (simp; done) | (rw [wu8]; omega) | refine ⟨?_, ?_⟩)
   refine pP ?_ ?_
   ·refine ⟨⟨?_, ?_, ?_⟩, ⟨?_, ?_⟩, ⟨?_, ?_⟩, ?_⟩ <;> first | trivial | omega | (simp; done) | (simp; omega)
   refine pE ?_
   refine iR ?_
   refine pC ?_ ?_
   ·unfold inI64; omega
   refine pE ?_
   refine ag_ent (ent_weak (g' := (stVfG_0 root text C D n (i + 1, a :: l ++ [.str p])).1) (h' := (stVfG_0 root text C D n (i + 1, a :: l ++ [.str p])).2) [1] rfl rfl rfl rfl ?_ ?_ rfl) ?_
   ·exact ⟨⟨rfl, rfl⟩, ⟨rfl, rfl⟩, ⟨rfl, rfl⟩, ⟨rfl, rfl⟩, ⟨rfl, rfl⟩, ⟨rfl, rfl⟩, ⟨rfl, by exact eqI (by omega)⟩, ⟨rfl, by exact eqSl (by simp)⟩, trivial⟩
   ·exact ⟨⟨rfl, rfl, by exact eqPl (by simp [cutA_eq])⟩, trivial⟩
   have hnx := hrec (i + 1, a :: l ++ [.str p])
   refine hnx ?_ ?_
   ·exact ⟨by omega, by rw [hpn, ← hacc]; try rfl⟩
   ·show 15 - (i + 1) < 15 - i; omega
  ·intro h30
   obtain rfl : i = 15 := by omega
   rw [List.take_of_length_le (show D.length ≤ 15 by omega)] at hacc
   refine ag_ent (ent_freeze 10 rfl rfl rfl trivial) ?_
   refine ag_ent (ent_reg 10 (roS D) (by show AVal.r (.ro _ (cutA _ 0 _)) = _; rw [hacc]; exact roS_of (l := D) (n := l.length + 1) (by omega))) ?_
   refine ag_exit rfl ?_
   iterate 2 refine ag_seq ?_
   refine qD ?_
   iterate 2 refine qA ?_
   refine aq_pur (hOp) rfl rfl rfl rfl rfl rfl rfl ?_
   iterate 2 refine qA ?_
   refine qB ?_ ?_
   ·refine ⟨?_, by simp⟩
    simp only [boundsOk]; omega
   refine aq_pur (hCm) rfl rfl rfl rfl rfl rfl rfl ?_
   refine qA ?_
   refine qE ?_
   refine ag_if rfl ?_ ?_
   ·intro h47
    refine zB ?_
    refine pA ?_
    refine pE ?_
    refine ag_ret tOk Tryz.func50 rfl rfl (by simp) ?_
    show AVal.tuple _ = _
    rw [if_neg h47]
    rfl
   ·intro h47
    have h47 : X = root := by simpa using h47
    refine ag_skip ?_
    refine zB ?_
    iterate 2 refine pA ?_
    refine pE ?_
    refine ag_ret tOk Tryz.func50 rfl rfl (by simp) ?_
    show AVal.tuple _ = _
    rw [if_pos h47]
    rfl
theorem w_rVerifyB (root text sig : List UInt8) (hb : text.length ≤ 140737488355000) (hsg : sig.length ≤ 9223372036854775807) (h : ¬ (sig.length = 145 ∧ leafN sig < 8)) : Pur Tryz.prog 25 [.r (.str root), .r (.bs text), .r (.str sig)] (vres root text sig) := by
 refine spec_of_go (N := 72) Tryz.func25 rfl (by decide) rfl rfl ?_
 refine zB ?_
 refine pA ?_
 refine pF ?_
 refine zB ?_
 iterate 4 refine pA ?_
 refine ar_guard (t := decide (¬ (sig.length : Int) = 145)) (fun ht => ?_) (fun ht => ?_)
 ·refine ar_ent (ent_reg 16 (.r (.bool true)) (by show AVal.r (.bool _) = _; rw [ht])) ?_
  have h1 := of_decide_eq_true ht
  iterate 3 refine ar_skip rfl rfl rfl ?_
  refine pE ?_
  refine vB ?_
  refine zB ?_
  refine pA ?_
  refine pE ?_
  refine ag_ret tOk Tryz.func25 rfl rfl (by simp) ?_
  show AVal.tuple _ = _
  rw [vres, if_neg (fun e => h ⟨e.1, e.2.1⟩)]
  rfl
 ·refine ar_ent (ent_reg 16 (.r (.bool false)) (by show AVal.r (.bool _) = _; rw [ht])) ?_
  have h1 := of_decide_eq_false ht
  obtain ⟨c, b, rfl⟩ : ∃ c b, sig = c :: b := by cases sig with
   | nil => simp at h1
   | cons c b => exact ⟨c, b, rfl⟩
  have h3 : ¬ ((c.toNat : Int) < 8) := fun e => h ⟨by omega, e⟩
  refine pA ?_
  refine pC ?_ ?_
  ·exact ⟨by decide, by simp only [List.length_cons]; omega⟩
  refine pA ?_
  refine pE ?_
  refine ag_true rfl (by show decide ((c.toNat : Int) > 7) = true; exact decide_eq_true (by omega)) ?_
  refine zB ?_
  refine pA ?_
  refine pE ?_
  refine ag_ret tOk Tryz.func25 rfl rfl (by simp) ?_
  show AVal.tuple _ = _
  rw [vres, if_neg (fun e => h ⟨e.1, e.2.1⟩)]
  rfl
theorem rver_facts (root text : List UInt8) (c : UInt8) (b : List UInt8) (hb : text.length ≤ 140737488355000) (h1 : b.length = 144) (h8 : (c.toNat : Int) < 8) : ∃ (C : List (List UInt8)) (O X : List UInt8), C = pcs b 18 ∧ C.length = 18 ∧ (∀ p ∈ C, p.length = 8) ∧ O.length ≤ 8 ∧ clm O c.toNat (C.drop 15) = X ∧
  Pur Tryz.prog 42 [.r (.bs text), .r (.ro ((15 : Int).toNat) (List.take (mulz 15 1) (sL C)))] (.r (.str O)) ∧
  vres root text (c :: b) = if X = root then .tuple [.r (.int .i64 (c.toNat : Int)), .r (.bool true)] else .tuple [.r (.int .i64 0), .r (.bool false)] := by
 refine ⟨pcs b 18, opn text ((pcs b 18).take 15), _, rfl, pcs_length _ _, pcs_8 (by omega), opn_length _ _, rfl, ?_, vres_eq (sig := c :: b) (by simp; omega) rfl (by omega)⟩
 have hl := pcs_length b 18
 generalize pcs b 18 = C at *
 have h := w_rOtsOpen text (C.take 15) hb (by rw [List.length_take]; omega)
 have e : roS (C.take 15) = .r (.ro ((15 : Int).toNat) (List.take (mulz 15 1) (sL C))) := by simp [roS, sL, mulz_eq, List.map_take]; omega
 rw [← e]; exact h
def strVG_0 (root text : List UInt8) (c : UInt8) (b : List UInt8) (C : List (List UInt8)) : Nat × List RVal → Regs × Hp := fun ⟨i, acc⟩ => ([(0, .r (.str root)), (1, .r (.bs text)), (2, .r (.str (c :: b))), (9, .r (.int .i64 ((i : Int)))), (8, accA acc)], accH acc)
def prrVG_0 (root text : List UInt8) (c : UInt8) (b : List UInt8) (C : List (List UInt8)) : Nat × List RVal → Prop := fun ⟨i, acc⟩ => i ≤ 18 ∧ acc = sL (C.take i)
def strVG_2 (root : List UInt8) (c : UInt8) (b : List UInt8) (C : List (List UInt8)) (X : List UInt8) : Nat × List UInt8 × Nat → Regs × Hp := fun ⟨j, q, m⟩ => ([(0, .r (.str root)), (2, .r (.str (c :: b))), (8, roS C), (10, .r (.str q)), (11, .r (.int .i64 (m : Int))), (12, .r (.int .i64 (j : Int)))], ⟨0, [], false⟩)
def prrVG_2 (root : List UInt8) (c : UInt8) (b : List UInt8) (C : List (List UInt8)) (X : List UInt8) : Nat × List UInt8 × Nat → Prop := fun ⟨j, q, m⟩ => clm q m (C.drop j) = X ∧ m < 256 ∧ q.length ≤ 1000 ∧ j ≤ 18
theorem w_rVerifyG (root text : List UInt8) (c : UInt8) (b : List UInt8) (hb : text.length ≤ 140737488355000) (h1 : b.length = 144) (h8 : (c.toNat : Int) < 8) : Pur Tryz.prog 25 [.r (.str root), .r (.bs text), .r (.str (c :: b))] (vres root text (c :: b)) := by
 obtain ⟨C, O, X, hCe, hCl, hC8, hOl, hX, hOp, hv⟩ := rver_facts root text c b hb h1 h8
 rw [hv]
 clear hv
 obtain ⟨n, hn⟩ : ∃ n, n = c.toNat := ⟨_, rfl⟩
 rw [← hn] at hX h8 ⊢
 refine spec_of_go (N := 72) Tryz.func25 rfl (by decide) rfl rfl ?_
 refine zB ?_
 refine pA ?_
 refine pF ?_
 refine zB ?_
 iterate 4 refine pA ?_
 refine ar_ent (ent_reg 16 (.r (.bool false)) (by show AVal.r (.bool _) = _; exact eqB (by simp only [List.length_cons]; simp; omega))) ?_
 refine pA ?_
 refine pC ?_ ?_
 ·exact ⟨by decide, by simp only [List.length_cons]; omega⟩
 refine pA ?_
 refine pE ?_
 refine ag_false rfl (by show decide ((c.toNat : Int) > 7) = false; exact decide_eq_false (by omega)) ?_
 refine ag_skip ?_
 refine zB ?_
 refine pF ?_
 refine zB ?_
 refine pE ?_
 refine ag_block ?_
 refine ag_loopS (strVG_0 root text c b C) (prrVG_0 root text c b C) (fun ⟨i, acc⟩ => 18 - i) (0, []) (ent_weak [] rfl rfl rfl rfl ?_ ?_ rfl) (show prrVG_0 root text c b C (0, []) from ?_) ?_
 ·exact ⟨⟨rfl, rfl⟩, ⟨rfl, rfl⟩, ⟨rfl, rfl⟩, ⟨rfl, rfl⟩, ⟨rfl, rfl⟩, trivial⟩
 ·trivial
 ·exact ⟨Nat.zero_le _, by rfl⟩
 rintro ⟨i, acc⟩ hp hrec
 cases acc with
 | nil =>
  obtain ⟨hi, hacc⟩ : _ := hp
  refine ag_ent (ent_weak (g' := [(0, .r (.str root)), (1, .r (.bs text)), (2, .r (.str (c :: b))), (9, .r (.int .i64 ((i : Int)))), (8, .r .nil)]) (h' := ⟨0, [], false⟩) [] rfl rfl rfl rfl ?_ ?_ rfl) ?_
  ·exact ⟨⟨rfl, rfl⟩, ⟨rfl, rfl⟩, ⟨rfl, rfl⟩, ⟨rfl, rfl⟩, ⟨rfl, rfl⟩, trivial⟩
  ·trivial
  refine sZ ?_
  refine pA ?_
  refine pE ?_
  refine ag_if rfl ?_ ?_
  ·intro h22
   have hpn : sL (C.take (i + 1)) = sL (C.take i) ++ [.str ((b.drop (8 * i)).take 8)] := by rw [hCe]; exact pcs_next b 18 i (by omega)
   refine sS ?_
   refine ag_block ?_
   refine ag_reg ?_
   iterate 3 refine pA ?_
   refine pC ?_ ?_
   ·unfold inI64; omega
   refine pC ?_ ?_
   ·unfold inI64; omega
   refine pA ?_
   refine pC ?_ ?_
   ·unfold inI64; omega
   refine pC ?_ ?_
   ·unfold inI64; omega
   refine pC ?_ ?_
   ·simp only [boundsOk, List.length_cons]; omega
   refine ar_ent (ent_reg 33 (.r (.str ((b.drop (8 * i)).take 8))) (by show AVal.r (.str _) = _; exact eqStr (by simp only [cutL, mulz]; rw [show (1 + 8 * (i : Int)).toNat = 8 * i + 1 by omega, show (9 + 8 * (i : Int) - (1 + 8 * (i : Int))).toNat = 8 by omega]; rfl))) ?_
   refine ar_qd rfl (qop_buildRo tOk rfl ?_ rfl) rfl rfl rfl rfl ?_
   ·repeat any_goals (first | trivial | decide | omega | (simp; done) | (rw [wu8]; omega) | refine ⟨?_, ?_⟩)
   refine pP ?_ ?_
   ·refine ⟨⟨?_, ?_, ?_⟩, ⟨?_, ?_⟩, ⟨?_, ?_⟩, ?_⟩ <;> first | trivial | omega | (simp; done) | (simp; omega)
   refine pE ?_
   refine iR ?_
   refine pA ?_
   refine pC ?_ ?_
   ·unfold inI64; omega
   refine pE ?_
   refine ag_ent (ent_weak (g' := (strVG_0 root text c b C (i + 1, [.str ((b.drop (8 * i)).take 8)])).1) (h' := (strVG_0 root text c b C (i + 1, [.str ((b.drop (8 * i)).take 8)])).2) [0] rfl rfl rfl rfl ?_ ?_ rfl) ?_
   ·exact ⟨⟨rfl, rfl⟩, ⟨rfl, rfl⟩, ⟨rfl, rfl⟩, ⟨rfl, by exact eqI (by omega)⟩, ⟨rfl, rfl⟩, trivial⟩
   ·exact ⟨⟨rfl, rfl, rfl⟩, trivial⟩
   have hnx := hrec (i + 1, [.str ((b.drop (8 * i)).take 8)])
   refine hnx ?_ ?_
   ·exact ⟨by omega, by rw [hpn, ← hacc]; try rfl⟩
   ·show 18 - (i + 1) < 18 - i; omega
  ·intro h22
   exfalso
   have := congrArg List.length hacc
   simp [sL, hCl] at this
   omega
 | cons a l =>
  obtain ⟨hi, hacc⟩ : _ := hp
  refine ag_ent (ent_weak (g' := [(0, .r (.str root)), (1, .r (.bs text)), (2, .r (.str (c :: b))), (9, .r (.int .i64 ((i : Int)))), (8, .sl 0 0 (l.length + 1) 1)]) (h' := ⟨1, [(0, some (.plain (a :: l)))], false⟩) [0] rfl rfl rfl rfl ?_ ?_ rfl) ?_
  ·exact ⟨⟨rfl, rfl⟩, ⟨rfl, rfl⟩, ⟨rfl, rfl⟩, ⟨rfl, rfl⟩, ⟨rfl, rfl⟩, trivial⟩
  ·exact ⟨⟨rfl, rfl, rfl⟩, trivial⟩
  have hln := congrArg List.length hacc
  simp only [sL, List.length_map, List.length_take, List.length_cons] at hln
  refine sZ ?_
  refine pA ?_
  refine pE ?_
  refine ag_if rfl ?_ ?_
  ·intro h22
   have hpn : sL (C.take (i + 1)) = sL (C.take i) ++ [.str ((b.drop (8 * i)).take 8)] := by rw [hCe]; exact pcs_next b 18 i (by omega)
   refine sS ?_
   refine ag_block ?_
   refine ag_reg ?_
   iterate 3 refine pA ?_
   refine pC ?_ ?_
   ·unfold inI64; omega
   refine pC ?_ ?_
   ·unfold inI64; omega
   refine pA ?_
   refine pC ?_ ?_
   ·unfold inI64; omega
   refine pC ?_ ?_
   ·unfold inI64; omega
   refine pC ?_ ?_
   ·simp only [boundsOk, List.length_cons]; omega
   refine ar_ent (ent_reg 33 (.r (.str ((b.drop (8 * i)).take 8))) (by show AVal.r (.str _) = _; exact eqStr (by simp only [cutL, mulz]; rw [show (1 + 8 * (i : Int)).toNat = 8 * i + 1 by omega, show (9 + 8 * (i : Int) - (1 + 8 * (i : Int))).toNat = 8 by omega]; rfl))) ?_
   refine ar_qd rfl (qop_buildRo tOk rfl ?_ rfl) rfl rfl rfl rfl ?_
   ·repeat any_goals (first | trivial | decide | omega | (simp; done) | (rw [wu8]; omega) | refine ⟨?_, ?_⟩)
   refine pP ?_ ?_
   ·refine ⟨⟨?_, ?_, ?_⟩, ⟨?_, ?_⟩, ⟨?_, ?_⟩, ?_⟩ <;> first | trivial | omega | (simp; done) | (simp; omega)
   refine pE ?_
   refine iR ?_
   refine pA ?_
   refine pC ?_ ?_
   ·unfold inI64; omega
   refine pE ?_
   refine ag_ent (ent_weak (g' := (strVG_0 root text c b C (i + 1, a :: l ++ [.str ((b.drop (8 * i)).take 8)])).1) (h' := (strVG_0 root text c b C (i + 1, a :: l ++ [.str ((b.drop (8 * i)).take 8)])).2) [1] rfl rfl rfl rfl ?_ ?_ rfl) ?_
   ·exact ⟨⟨rfl, rfl⟩, ⟨rfl, rfl⟩, ⟨rfl, rfl⟩, ⟨rfl, by exact eqI (by omega)⟩, ⟨rfl, by exact eqSl (by simp)⟩, trivial⟩
   ·exact ⟨⟨rfl, rfl, by exact eqPl (by simp [cutA_eq])⟩, trivial⟩
   have hnx := hrec (i + 1, a :: l ++ [.str ((b.drop (8 * i)).take 8)])
   refine hnx ?_ ?_
   ·exact ⟨by omega, by rw [hpn, ← hacc]; try rfl⟩
   ·show 18 - (i + 1) < 18 - i; omega
  ·intro h22
   obtain rfl : i = 18 := by omega
   rw [List.take_of_length_le (show C.length ≤ 18 by omega)] at hacc
   refine ag_ent (ent_freeze 8 rfl rfl rfl trivial) ?_
   refine ag_ent (ent_reg 8 (roS C) (by show AVal.r (.ro _ (cutA _ 0 _)) = _; rw [hacc]; exact roS_of (l := C) (n := l.length + 1) (by omega))) ?_
   refine ag_ent (ent_weak (g' := [(0, .r (.str root)), (1, .r (.bs text)), (2, .r (.str (c :: b))), (8, roS C)]) (h' := ⟨0, [], false⟩) [] rfl rfl rfl rfl ?_ ?_ rfl) ?_
   ·exact ⟨⟨rfl, rfl⟩, ⟨rfl, rfl⟩, ⟨rfl, rfl⟩, ⟨rfl, rfl⟩, trivial⟩
   ·trivial
   refine ag_exit rfl ?_
   refine ag_seq ?_
   refine qD ?_
   iterate 2 refine qA ?_
   refine qB ?_ ?_
   ·simp only [boundsOk]; omega
   refine aq_pur (hOp) rfl rfl rfl rfl rfl rfl rfl ?_
   refine qA ?_
   refine qB ?_ ?_
   ·exact ⟨by decide, by simp only [List.length_cons]; omega⟩
   refine qB ?_ ?_
   ·show inI64 ((c.toNat : Nat) : Int); unfold inI64; omega
   refine qA ?_
   refine qE ?_
   refine sZ ?_
   refine pE ?_
   refine ag_block ?_
   refine ag_loopS (strVG_2 root c b C X) (prrVG_2 root c b C X) (fun ⟨j, q, m⟩ => 18 - j) (15, O, n) (ent_weak [] rfl rfl rfl rfl ?_ ?_ rfl) (show prrVG_2 root c b C X (15, O, n) from ?_) ?_
   ·exact ⟨⟨rfl, rfl⟩, ⟨rfl, rfl⟩, ⟨rfl, rfl⟩, ⟨rfl, rfl⟩, ⟨rfl, by exact eqI (by rw [hn]; rfl)⟩, ⟨rfl, rfl⟩, trivial⟩
   ·trivial
   ·exact ⟨hX, by omega, by omega, by omega⟩
   rintro ⟨j, q, m⟩ hp1 hrec1
   obtain ⟨hx, hm, hq, hj⟩ : _ := hp1
   refine sZ ?_
   refine pA ?_
   refine pE ?_
   refine ag_if rfl ?_ ?_
   ·intro h44
    obtain ⟨p, hp⟩ := getI (L := C) (i := j) (by omega)
    have hpl := hC8 p (memI hp)
    rw [clm_at hp] at hx
    refine sS ?_
    refine ag_block ?_
    refine sZ ?_
    refine pA ?_
    refine pC ?_ ?_
    ·decide
    refine ar_ent (ent_reg 48 (.r (.int .i64 (((m % 2 : Nat) : Int)))) (by show AVal.r (.int _ _) = _; exact eqI (by rw [tmod_nn (by omega)]; omega))) ?_
    refine pE ?_
    refine ag_if rfl ?_ ?_
    ·intro h49
     rw [if_pos (by omega)] at hx
     refine ag_reg ?_
     iterate 3 refine pA ?_
     refine pC ?_ ?_
     ·refine ⟨?_, ?_⟩ <;> first | omega | exact ne_mp hp | (refine ⟨?_, ?_⟩ <;> omega)
     refine ar_loadAs tOk (.r (.str p)) rfl rfl rfl rfl rfl rfl rfl (.inl ⟨rfl, by simp [Body.cells, mulz_eq, sL, hp]⟩) ?_
     refine pC ?_ ?_
     ·omega
     refine ar_pur (w_rShort (q ++ p) (by simp; omega)) rfl rfl rfl rfl rfl rfl rfl ?_
     refine pE ?_
     refine ag_reg ?_
     refine pA ?_
     refine pC ?_ ?_
     ·refine ⟨?_, by decide⟩
      show inI64 (Int.tdiv _ _)
      rw [Int.tdiv_eq_ediv_of_nonneg (by omega)]; unfold inI64; omega
     refine ar_ent (ent_reg 65 (.r (.int .i64 (((m / 2 : Nat) : Int)))) (by show AVal.r (.int _ _) = _; exact eqI (by rw [tdiv_nn (by omega)]; omega))) ?_
     refine pE ?_
     refine iR ?_
     refine pA ?_
     refine pC ?_ ?_
     ·unfold inI64; omega
     refine pE ?_
     refine ag_ent (ent_weak (g' := (strVG_2 root c b C X (j + 1, nod q p, m / 2)).1) (h' := (strVG_2 root c b C X (j + 1, nod q p, m / 2)).2) [] rfl rfl rfl rfl ?_ ?_ rfl) ?_
     ·exact ⟨⟨rfl, rfl⟩, ⟨rfl, rfl⟩, ⟨rfl, rfl⟩, ⟨rfl, rfl⟩, ⟨rfl, rfl⟩, ⟨rfl, by exact eqI (by omega)⟩, trivial⟩
     ·trivial
     have hnx := hrec1 (j + 1, nod q p, m / 2)
     refine hnx ?_ ?_
     ·exact ⟨hx, by omega, by rw [nod_length]; omega, by omega⟩
     ·show 18 - (j + 1) < 18 - j; omega
    ·intro h49
     rw [if_neg (by omega)] at hx
     refine ag_reg ?_
     iterate 2 refine pA ?_
     refine pC ?_ ?_
     ·refine ⟨?_, ?_⟩ <;> first | omega | exact ne_mp hp | (refine ⟨?_, ?_⟩ <;> omega)
     refine ar_loadAs tOk (.r (.str p)) rfl rfl rfl rfl rfl rfl rfl (.inl ⟨rfl, by simp [Body.cells, mulz_eq, sL, hp]⟩) ?_
     refine pA ?_
     refine pC ?_ ?_
     ·omega
     refine ar_pur (w_rShort (p ++ q) (by simp; omega)) rfl rfl rfl rfl rfl rfl rfl ?_
     refine pE ?_
     refine ag_reg ?_
     refine pA ?_
     refine pC ?_ ?_
     ·refine ⟨?_, by decide⟩
      show inI64 (Int.tdiv _ _)
      rw [Int.tdiv_eq_ediv_of_nonneg (by omega)]; unfold inI64; omega
     refine ar_ent (ent_reg 65 (.r (.int .i64 (((m / 2 : Nat) : Int)))) (by show AVal.r (.int _ _) = _; exact eqI (by rw [tdiv_nn (by omega)]; omega))) ?_
     refine pE ?_
     refine iR ?_
     refine pA ?_
     refine pC ?_ ?_
     ·unfold inI64; omega
     refine pE ?_
     refine ag_ent (ent_weak (g' := (strVG_2 root c b C X (j + 1, nod p q, m / 2)).1) (h' := (strVG_2 root c b C X (j + 1, nod p q, m / 2)).2) [] rfl rfl rfl rfl ?_ ?_ rfl) ?_
     ·exact ⟨⟨rfl, rfl⟩, ⟨rfl, rfl⟩, ⟨rfl, rfl⟩, ⟨rfl, rfl⟩, ⟨rfl, rfl⟩, ⟨rfl, by exact eqI (by omega)⟩, trivial⟩
     ·trivial
     have hnx := hrec1 (j + 1, nod p q, m / 2)
     refine hnx ?_ ?_
     ·exact ⟨hx, by omega, by rw [nod_length]; omega, by omega⟩
     ·show 18 - (j + 1) < 18 - j; omega
   ·intro h44
    rw [List.drop_eq_nil_of_le (by omega)] at hx
    have hqX : q = X := hx
    refine ag_exit rfl ?_
    refine sZ ?_
    iterate 2 refine pA ?_
    refine pE ?_
    refine ag_if rfl ?_ ?_
    ·intro h68
     refine zB ?_
     refine pA ?_
     refine pE ?_
     refine ag_ret tOk Tryz.func25 rfl rfl (by simp) ?_
     show AVal.tuple _ = _
     rw [if_neg (by rw [← hqX]; exact h68)]
     rfl
    ·intro h68
     have h68 : X = root := by rw [← hqX]; simpa using h68
     refine ag_skip ?_
     refine zB ?_
     refine pA ?_
     refine pC ?_ ?_
     ·exact ⟨by decide, by simp only [List.length_cons]; omega⟩
     refine pC ?_ ?_
     ·show inI64 ((c.toNat : Nat) : Int); unfold inI64; omega
     refine ar_ent (ent_reg 71 (.r (.int .i64 ((n : Int)))) (by show AVal.r (.int _ _) = _; exact eqI (by rw [hn]; rfl))) ?_
     refine pA ?_
     refine pE ?_
     refine ag_ret tOk Tryz.func25 rfl rfl (by simp) ?_
     show AVal.tuple _ = _
     rw [if_pos h68]
     rfl
theorem w_Verify (root text sig : List UInt8) (hb : text.length ≤ 140737488355000) (hsg : sig.length ≤ 9223372036854775807) : Pur Tryz.prog 50 [.r (.str root), .r (.bs text), .r (.str sig)] (vres root text sig) := by
 by_cases h : sig.length = 145 ∧ leafN sig < 8
 ·obtain ⟨n, hn, _⟩ := leaf_nat h.1
  exact w_VerifyG root text sig hb hsg h.1 n hn (by omega)
 ·exact w_VerifyB root text sig hb hsg h
theorem w_rVerify (root text sig : List UInt8) (hb : text.length ≤ 140737488355000) (hsg : sig.length ≤ 9223372036854775807) : Pur Tryz.prog 25 [.r (.str root), .r (.bs text), .r (.str sig)] (vres root text sig) := by
 by_cases h : sig.length = 145 ∧ leafN sig < 8
 ·cases sig with
  | nil => simp at h
  | cons c b => exact w_rVerifyG root text c b hb (by have := h.1; simp at this; omega) h.2
 ·exact w_rVerifyB root text sig hb hsg h
end Go.Proofs.YtccdhgmkjakjkaaGreat
