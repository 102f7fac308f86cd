/-
  WALKS: auctions of any size: Open. (Printed by gen.py out of w_sau6.py.)
-/
import Derived.Test.YtccdhgmkjakjkaaGreatSau5
namespace Go.Proofs.YtccdhgmkjakjkaaGreat
open Go
set_option maxRecDepth 20000
set_option linter.unusedVariables false
set_option linter.unusedVariables false
set_option linter.unusedSimpArgs false
def clampT (now : Int) : Int := if now < 0 ∨ now > 1099511627776 then 0 else now
theorem clampT_ok (now : Int) : 0 ≤ clampT now ∧ clampT now ≤ 1099511627776 := by unfold clampT; split <;> omega
theorem ptrsA_one : ∀ (n k : Nat), (ptrsA k n).all oneA = true
 | 0, _ => rfl
 | n + 1, k => by simp only [ptrsA, List.all_cons, ptrsA_one n, Bool.and_true]; rfl
theorem ptrsA_ren {ρ : Nat → Nat} : ∀ {n k : Nat}, (∀ j, k ≤ j → j < k + n → ρ (j + 10) = j + 10) → AVal.rens ρ (ptrsA k n) = ptrsA k n
 | 0, _, _ => rfl
 | n + 1, k, h => by
  simp only [ptrsA, AVal.rens, AVal.ren]
  rw [h k (Nat.le_refl _) (by omega), ptrsA_ren fun j h1 h2 => h j (by omega) (by omega)]
theorem rens_app {ρ : Nat → Nat} : ∀ {a b : List AVal}, AVal.rens ρ (a ++ b) = AVal.rens ρ a ++ AVal.rens ρ b
 | [], _ => rfl
 | x :: a, b => by simp only [List.cons_append, AVal.rens, rens_app]
theorem nbs_app {n : Nat} : ∀ {a b : List AVal}, AVal.nbs n (a ++ b) = (AVal.nbs n a && AVal.nbs n b)
 | [], _ => by simp [AVal.nbs]
 | x :: a, b => by simp only [List.cons_append, AVal.nbs, nbs_app, Bool.and_assoc]
theorem ptrsA_snoc : ∀ (n k : Nat), ptrsA k (n + 1) = ptrsA k n ++ [.ptr (k + n + 10) 0]
 | 0, k => rfl
 | n + 1, k => by
  rw [ptrsA, ptrsA_snoc n (k + 1)]
  simp only [ptrsA, List.cons_append]
  rw [show k + 1 + n + 10 = k + (n + 1) + 10 by omega]
theorem cutMixed {cs : List AVal} {n z : Nat} (hn : n * z = cs.length) (h1 : cs.all oneA = true) : cutBody (.mixed cs) 0 n z = some (.mixed cs, True) := by
 simp only [cutBody]
 rw [h1, show Nat.ble (0 + n * z) cs.length = true from Nat.ble_eq_true_of_le (by omega)]
 simp only [Bool.and_self, cond_true]
 rw [forceL_eq, List.drop_zero, hn, List.take_length]
theorem stepApp_mixed {T : TTab} {N : Nat} {g : Regs} {h : Hp} {o : Oper} {d : Nat} {c : Call} {s x : Operand} {t t2 e e2 : TypeId} {ty ty2 te : Ty} (hd : o.dst = some d) (hop : o.op = .call c) (hN : Nat.blt d N = true) (hcal : c.callee = .builtin .append) (hargs : c.args.toList = [s, x]) (hty : c.argTypes.toList = [t, t2])
  (hT : T.look t = some ty) (hk : ty.k = .slice e) (hT2 : T.look t2 = some ty2) (hk2 : ty2.k = .slice e2) (hE : T.look e = some te) {β γ n k z : Nat} {cs ds : List AVal} (hz : te.size = z) (hs : evA g s = .sl β 0 n z) (hβ : h.get β = some (.mixed cs)) (hn : n * z = cs.length) (h1 : cs.all oneA = true)
  (hx : evA g x = .sl γ 0 k z) (hγ : h.get γ = some (.mixed ds)) (hm : k * z = ds.length) (h2 : ds.all oneA = true) :
  stepApp T N g h o = some (d, (n + k, te.size), some β, .mixed (cs ++ ds), (True ∧ True ∧ True) ∧ ((n + k) * te.bytes ≤ 140737488355328 ∧ n + k ≤ 9223372036854775807) ∧ (te.zero ≠ [] ∧ te.zero.length = te.size) ∧ appPos (some β) (n + k)) := by
 obtain ⟨tk, _, _, _⟩ := ty
 simp only at hk
 subst hk
 have hb : baseA te.size h (evA g s) = some (n, .mixed cs, some β, True) := by
  rw [hs]; simp only [baseA, hβ, hz, Nat.beq_refl, cond_true, cutMixed hn h1, Option.map_some]
 have hsr : srcA te.size h (evA g x) = some (k, .mixed ds, True) := by
  rw [hx]; simp only [srcA, hγ, hz, Nat.beq_refl, cond_true, cutMixed hm h2, Option.map_some]
 have hq : appQ (some β) (.mixed cs) (.mixed ds) = some (.mixed (cs ++ ds), True) := by
  simp only [appQ]
  cases cs <;> cases ds <;> simp only [appB, forceL_eq, List.nil_append, List.append_nil]
 unfold stepApp
 rw [hd, hop]
 simp only [hN, cond_true, hcal, hargs, hty, hT, hT2, hE, hb, hsr, hq, hk2]
section
variable {m : Md} {g g' : Regs} {h h' : Hp} {rv : RVal} {es : List EV}
def rho2 (n K1 K2 j : Nat) : Nat := bif Nat.beq j n then K1 else bif Nat.beq j (n + 1) then K2 else j
theorem rho2_a {n K1 K2 : Nat} : rho2 n K1 K2 n = K1 := by simp [rho2]
theorem rho2_b {n K1 K2 : Nat} : rho2 n K1 K2 (n + 1) = K2 := by simp only [rho2, beq_not (show n + 1 ≠ n by omega), cond_false, Nat.beq_refl, cond_true]
theorem rho2_ne {n K1 K2 j : Nat} (h : j < n) : rho2 n K1 K2 j = j := by simp [rho2, beq_not (show j ≠ n by omega), beq_not (show j ≠ n + 1 by omega)]
def openH (n : Nat) (rv : RVal) (es : List EV) (a : AskV) (t : Int) : Hp := ⟨n + 2, (n, some (.mixed (entC a t (.r .nil)))) :: (n + 1, some (.mixed (ptrsA 0 es.length ++ [.ptr n 0]))) :: (0, some (.mixed [.r rv, .sl (n + 1) 0 (es.length + 1) 1, .r (.bool true)])) :: (1, none) :: entsT 0 es, false⟩
theorem openH_inv {n : Nat} {a : AskV} {t : Int} (hl : es.length ≤ 8) {j : Nat} {blk : ABlk} (hg : (openH n rv es a t).get j = some blk) : (j = n ∧ blk = .mixed (entC a t (.r .nil))) ∨ (j = n + 1 ∧ blk = .mixed (ptrsA 0 es.length ++ [.ptr n 0])) ∨ (j = 0 ∧ blk = .mixed [.r rv, .sl (n + 1) 0 (es.length + 1) 1, .r (.bool true)]) ∨ (2 ≤ j ∧ j < 40 ∧ blk.nb 40 = true ∧ Hp.look (rmT rv es) j = some blk) := by
 have hg' : Hp.look ((n, some (.mixed (entC a t (.r .nil)))) :: (n + 1, some (.mixed (ptrsA 0 es.length ++ [.ptr n 0]))) :: (0, some (.mixed [.r rv, .sl (n + 1) 0 (es.length + 1) 1, .r (.bool true)])) :: (1, none) :: entsT 0 es) j = some blk := hg
 rw [look_kill] at hg'
 split at hg'
 ·rename_i q; cases hg'; exact .inl ⟨q.symm, rfl⟩
 ·rw [look_kill] at hg'
  split at hg'
  ·rename_i q; cases hg'; exact .inr (.inl ⟨q.symm, rfl⟩)
  ·rw [look_kill] at hg'
   split at hg'
   ·rename_i q; cases hg'; exact .inr (.inr (.inl ⟨q.symm, rfl⟩))
   ·rename_i q0
    rw [look_kill] at hg'
    split at hg'
    ·cases hg'
    ·rename_i q1
     have hr : Hp.look (rmT rv es) j = some blk := by rw [rmT, look_ne q0, look_ne q1]; exact hg'
     obtain ⟨h1, h2⟩ := symOk_rm hl (Nat.le_refl 40) j blk hr
     exact .inr (.inr (.inr ⟨by omega, h1, h2, hr⟩))
theorem ent_open {n K1 K2 : Nat} {a : AskV} {t : Int} (hl : es.length ≤ 8) (hn : 40 ≤ n) (hm : m.len = n) (hK : n ≤ K1 ∧ K1 < K2 ∧ K2 < h.nxt) (h1 : h.get K1 = some (.mixed (entC a t (.r .nil)))) (h2 : h.get K2 = some (.mixed (ptrsA 0 es.length ++ [.ptr K1 0]))) (h0 : h.get 0 = some (.mixed [.r rv, .sl K2 0 (es.length + 1) 1, .r (.bool true)]))
  (h3 : ∀ j, 2 ≤ j → j < 40 → h.get j = Hp.look (rmT rv es) j) (hr : WeakF (rho2 n K1 K2) (n + 2) g g') (hgh : h.gh = false) : Ent m g h g' (openH n rv es a t) := by
 refine ent_ren (rho2 n K1 K2) (by show m.len ≤ n + 2; omega) (fun j hj => rho2_ne (by omega)) ?_ ?_ ?_ hr hgh.symm
 ·intro j hj
  have hj' : j < n + 2 := hj
  rcases Nat.lt_or_ge j n with q | q
  ·rw [rho2_ne q]; omega
  ·rcases Nat.lt_or_ge j (n + 1) with q2 | q2
   ·obtain rfl : j = n := by omega
    rw [rho2_a]; omega
   ·obtain rfl : j = n + 1 := by omega
    rw [rho2_b]; omega
 ·intro j blk hg
  show j < n + 2 ∧ blk.nb (n + 2) = true ∧ _
  rcases openH_inv hl hg with ⟨rfl, rfl⟩ | ⟨rfl, rfl⟩ | ⟨rfl, rfl⟩ | ⟨q1, q2, q3, q4⟩
  ·rw [rho2_a]; exact ⟨by omega, rfl, h1⟩
  ·refine ⟨by omega, ?_, ?_⟩
   ·show AVal.nbs _ _ = true
    rw [nbs_app, ptrsA_nb (by omega)]
    show (true && (Nat.blt n (n + 2) && true)) = true
    rw [blt_of (by omega)]; rfl
   ·rw [rho2_b, h2]
    show _ = some (Body.mixed (AVal.rens _ (ptrsA 0 es.length ++ [.ptr n 0])))
    rw [rens_app, ptrsA_ren (fun j _ hj => rho2_ne (by omega))]
    show _ = some (Body.mixed (ptrsA 0 es.length ++ [.ptr (rho2 n K1 K2 n) 0]))
    rw [rho2_a]
  ·refine ⟨by omega, ?_, ?_⟩
   ·show (true && (Nat.blt (n + 1) (n + 2) && (true && true))) = true
    rw [blt_of (by omega)]; rfl
   ·rw [rho2_ne (by omega), h0]
    show _ = some (Body.mixed [.r rv, .sl (rho2 n K1 K2 (n + 1)) 0 (es.length + 1) 1, .r (.bool true)])
    rw [rho2_b]
  ·refine ⟨by omega, bnb_mono (by omega) blk q3, ?_⟩
   rw [rho2_ne (by omega), h3 j q1 q2, bren_nb (fun q hq => rho2_ne (by omega)) blk q3]
   exact q4
 ·intro x y _ _ hx hy hxy
  have hsp : ∀ {a' : Nat}, (a' = n ∨ a' = n + 1 ∨ a' < 40) → (a' = n ∧ rho2 n K1 K2 a' = K1) ∨ (a' = n + 1 ∧ rho2 n K1 K2 a' = K2) ∨ (a' < 40 ∧ rho2 n K1 K2 a' = a') := by
   rintro a' (q | q | q)
   ·subst q; exact .inl ⟨rfl, rho2_a⟩
   ·subst q; exact .inr (.inl ⟨rfl, rho2_b⟩)
   ·exact .inr (.inr ⟨q, rho2_ne (by omega)⟩)
  have hin : ∀ {a' b}, (openH n rv es a t).get a' = some b → (a' = n ∨ a' = n + 1 ∨ a' < 40) := by
   intro a' b hg
   rcases openH_inv hl hg with ⟨q, _⟩ | ⟨q, _⟩ | ⟨q, _⟩ | ⟨_, q, _⟩
   ·exact .inl q
   ·exact .inr (.inl q)
   ·exact .inr (.inr (by omega))
   ·exact .inr (.inr q)
  rcases hsp (hin hx) with ⟨q1, q2⟩ | ⟨q1, q2⟩ | ⟨q1, q2⟩ <;> rcases hsp (hin hy) with ⟨q3, q4⟩ | ⟨q3, q4⟩ | ⟨q3, q4⟩ <;> omega
end
theorem w_OpenBad (rv : RVal) (es : List EV) (a : AskV) (now : Int) (hl : es.length ≤ 8) (hb : askE a ≠ 0) : Spec Tryz.prog 9 [.ptr 0 0, askA a, .r (.int .i64 now)] (rmH 40 rv es) (fun v h' => v = .r (.int .i64 (askE a)) ∧ h' = rmH 40 rv es) := by
 have cA := w_bAsk a
 refine spec_of_go (N := 55) Tryz.func9 rfl (by decide) rfl rfl ?_
 refine zB ?_
 refine pM ?_
 refine pF ?_
 refine zB ?_
 refine pB ?_
 refine ar_pur (cA) rfl rfl rfl rfl rfl rfl rfl ?_
 refine pE ?_
 refine bX ?_
 iterate 3 refine pA ?_
 refine ar_ent (ent_reg 13 (.r (.bool false)) (by show AVal.r (.bool _) = _; exact eqB (by rfl))) ?_
 iterate 3 refine pA ?_
 refine pB ?_
 iterate 2 refine pA ?_
 refine pE ?_
 refine vC ?_
 refine zB ?_
 iterate 2 refine pA ?_
 refine pE ?_
 refine ag_true rfl (decide_eq_true hb) ?_
 refine zB ?_
 refine pA ?_
 refine pE ?_
 refine ag_retW (v := .r (.int .i64 (askE a))) tOk Tryz.func9 rfl rfl (by first | trivial | exact ⟨trivial, trivial⟩ | simp) (ent_weakS (S := rmT rv es) (n := 40) (g' := [(0, .r (.int .i64 (askE a)))]) (h' := rmH 40 rv es) [] 1 0 (symOk_rm hl (by omega)) rfl rfl rfl ?_ rfl rfl rfl rfl rfl rfl rfl ?_ rfl) ?_
 ·trivial
 ·exact ⟨⟨rfl, rfl⟩, trivial⟩
 exact ⟨rfl, rfl⟩
theorem w_OpenDup (rv : RVal) (es : List EV) (a : AskV) (now : Int) (hl : es.length ≤ 8) (hb : askE a = 0) (i : Nat) (hf : fixA a es = some i) : Spec Tryz.prog 9 [.ptr 0 0, askA a, .r (.int .i64 now)] (rmH 40 rv es) (fun v h' => v = .r (.int .i64 32) ∧ h' = rmH 40 rv es) := by
 have cA := w_bAsk a
 rw [hb] at cA
 have hi := fix_lt hf
 have hi8 : i < 8 := by omega
 refine spec_of_go (N := 55) Tryz.func9 rfl (by decide) rfl rfl ?_
 refine zB ?_
 refine pM ?_
 refine pF ?_
 refine zB ?_
 refine pB ?_
 refine ar_pur (cA) rfl rfl rfl rfl rfl rfl rfl ?_
 refine pE ?_
 refine bX ?_
 iterate 3 refine pA ?_
 refine ar_ent (ent_reg 13 (.r (.bool false)) (by show AVal.r (.bool _) = _; exact eqB (by rfl))) ?_
 iterate 3 refine pA ?_
 refine pB ?_
 iterate 2 refine pA ?_
 refine pE ?_
 refine vC ?_
 refine zB ?_
 iterate 2 refine pA ?_
 refine pE ?_
 refine vC ?_
 refine zB ?_
 refine pA ?_
 refine pB ?_
 refine ar_qd rfl (qop_subH (w_findHit (rv := rv) hl hf) (fun _ _ h => h) rfl (rfl) (subH_pre (S := rmT rv es) 1 (symOk_rm hl (by show 40 ≤ 40; omega)) rfl rfl rfl (by show 40 ≤ 41; omega)) (blt_of (show i + 10 < 40 by omega))) rfl rfl rfl rfl ?_
 refine pA ?_
 refine pE ?_
 refine vB ?_
 refine zB ?_
 refine pE ?_
 refine ag_retW (v := .r (.int .i64 32)) tOk Tryz.func9 rfl rfl (by first | trivial | exact ⟨trivial, trivial⟩ | simp) (ent_weakS (S := rmT rv es) (n := 40) (g' := [(0, .r (.int .i64 32))]) (h' := rmH 40 rv es) [] 1 0 (symOk_rm hl (by omega)) rfl rfl rfl ?_ rfl rfl rfl rfl rfl rfl rfl ?_ rfl) ?_
 ·trivial
 ·exact ⟨⟨rfl, rfl⟩, trivial⟩
 exact ⟨rfl, rfl⟩
theorem w_OpenFull (rv : RVal) (e0 : EV) (l : List EV) (a : AskV) (now : Int) (hl : (e0 :: l).length ≤ 8) (hb : askE a = 0) (h8 : l.length + 1 = 8) (hf : fixA a (e0 :: l) = none) : Spec Tryz.prog 9 [.ptr 0 0, askA a, .r (.int .i64 now)] (rmH 40 rv (e0 :: l)) (fun v h' => v = .r (.int .i64 10) ∧ h' = rmH 40 rv (e0 :: l)) := by
 have cA := w_bAsk a
 rw [hb] at cA
 refine spec_of_go (N := 55) Tryz.func9 rfl (by decide) rfl rfl ?_
 refine zB ?_
 refine pM ?_
 refine pF ?_
 refine zB ?_
 refine pB ?_
 refine ar_pur (cA) rfl rfl rfl rfl rfl rfl rfl ?_
 refine pE ?_
 refine bX ?_
 iterate 3 refine pA ?_
 refine ar_ent (ent_reg 13 (.r (.bool false)) (by show AVal.r (.bool _) = _; exact eqB (by rfl))) ?_
 iterate 3 refine pA ?_
 refine pB ?_
 iterate 2 refine pA ?_
 refine pE ?_
 refine vC ?_
 refine zB ?_
 iterate 2 refine pA ?_
 refine pE ?_
 refine vC ?_
 refine zB ?_
 refine pA ?_
 refine pB ?_
 refine ar_qd rfl (qop_subH (w_findMiss (rv := rv) hl hf) (fun _ _ h => h) rfl (rfl) (subH_pre (S := rmT rv (e0 :: l)) 1 (symOk_rm hl (by show 40 ≤ 40; omega)) rfl rfl rfl (by show 40 ≤ 41; omega)) (rfl)) rfl rfl rfl rfl ?_
 refine pA ?_
 refine pE ?_
 refine vC ?_
 refine zB ?_
 iterate 3 refine pA ?_
 refine pB ?_
 iterate 2 refine pA ?_
 refine pE ?_
 refine ag_true rfl (decide_eq_true (show ((l.length + 1 : Nat) : Int) ≥ 8 by omega)) ?_
 refine zB ?_
 refine pE ?_
 refine ag_retW (v := .r (.int .i64 10)) tOk Tryz.func9 rfl rfl (by first | trivial | exact ⟨trivial, trivial⟩ | simp) (ent_weakS (S := rmT rv (e0 :: l)) (n := 40) (g' := [(0, .r (.int .i64 10))]) (h' := rmH 40 rv (e0 :: l)) [] 1 0 (symOk_rm hl (by omega)) rfl rfl rfl ?_ rfl rfl rfl rfl rfl rfl rfl ?_ rfl) ?_
 ·trivial
 ·exact ⟨⟨rfl, rfl⟩, trivial⟩
 exact ⟨rfl, rfl⟩
theorem w_OpenOk0 (rv : RVal) (a : AskV) (now : Int) (hb : askE a = 0) (hf : fixA a [] = none) : Spec Tryz.prog 9 [.ptr 0 0, askA a, .r (.int .i64 now)] (rmH 51 rv []) (fun v h' => v = .r (.int .i64 0) ∧ h' = openH 51 rv [] a (clampT now)) := by
 have cA := w_bAsk a
 rw [hb] at cA
 have hl : ([] : List EV).length ≤ 8 := by decide
 refine spec_of_go (N := 55) Tryz.func9 rfl (by decide) rfl rfl ?_
 refine zB ?_
 refine pM ?_
 refine pF ?_
 refine zB ?_
 refine pB ?_
 refine ar_pur (cA) rfl rfl rfl rfl rfl rfl rfl ?_
 refine pE ?_
 refine bX ?_
 iterate 3 refine pA ?_
 refine ar_ent (ent_reg 13 (.r (.bool false)) (by show AVal.r (.bool _) = _; exact eqB (by rfl))) ?_
 iterate 3 refine pA ?_
 refine pB ?_
 iterate 2 refine pA ?_
 refine pE ?_
 refine vC ?_
 refine zB ?_
 iterate 2 refine pA ?_
 refine pE ?_
 refine vC ?_
 refine zB ?_
 refine pA ?_
 refine pB ?_
 refine ar_qd rfl (qop_subH (w_findMiss (rv := rv) hl hf) (fun _ _ h => h) rfl (rfl) (subH_pre (S := rmT rv []) 1 (symOk_rm hl (by show 40 ≤ 40; omega)) rfl rfl rfl (by show 40 ≤ 52; omega)) (rfl)) rfl rfl rfl rfl ?_
 refine pA ?_
 refine pE ?_
 refine vC ?_
 refine zB ?_
 iterate 3 refine pA ?_
 refine pB ?_
 iterate 2 refine pA ?_
 refine pE ?_
 refine ag_false rfl (decide_eq_false (show ¬ ((0 : Nat) : Int) ≥ 8 by omega)) ?_
 refine ag_skip ?_
 refine ag_inBlock ?_
 refine sZ ?_
 iterate 3 refine pA ?_
 refine ar_guard (t := decide (now < 0)) (fun ht => ?_) (fun ht => ?_)
 ·refine ar_ent (ent_reg 38 (.r (.bool true)) (by show AVal.r (.bool _) = _; exact eqB ht)) ?_
  have hc1 : now < 0 := of_decide_eq_true ht
  repeat (first | refine ar_skip rfl rfl rfl ?_ | refine ar_pure tOk rfl rfl rfl trivial ?_)
  refine ar_nil ?_
  refine ag_join (fun (t : Int) => ([(0, .ptr 0 0), (2, .r (.int .i64 t)), (4, .ptr 51 0)], ⟨52, (51, some (.mixed ((askC a).map .r))) :: rmT rv [], false⟩)) (fun t => t = clampT now) ?_ ?_
  ·intro hjn
   refine vB ?_
   refine ag_reg ?_
   refine pE ?_
   refine ag_ent (ent_keep (g' := (((fun (t : Int) => ([(0, .ptr 0 0), (2, .r (.int .i64 t)), (4, .ptr 51 0)], ⟨52, (51, some (.mixed ((askC a).map .r))) :: rmT rv [], false⟩)) 0) : Regs × Hp).1) ?_) (hjn 0 ?_)
   ·exact ⟨rfl, rfl, rfl, trivial⟩
   ·show (0 : Int) = clampT now; rw [clampT, if_pos (.inl hc1)]
  ·rintro t hjp
   refine ag_seq ?_
   refine ag_draw (Hs := hsL [⟨52, (51, some (.mixed ((askC a).map .r))) :: rmT rv [], false⟩, ⟨53, (52, some (.mixed (entC a t (.r .nil)))) :: (51, some (.mixed ((askC a).map .r))) :: rmT rv [], false⟩, ⟨54, (53, some (.mixed [.ptr 52 0])) :: (52, some (.mixed (entC a t (.r .nil)))) :: (51, some (.mixed ((askC a).map .r))) :: rmT rv [], false⟩, ⟨55, (54, some (.mixed [.ptr 52 0])) :: (53, some (.mixed [.ptr 52 0])) :: (52, some (.mixed (entC a t (.r .nil)))) :: (51, some (.mixed ((askC a).map .r))) :: rmT rv [], false⟩, ⟨55, (0, some (.mixed [.r rv, .sl 54 0 (0 + 1) 1, .r (.bool true)])) :: (54, some (.mixed [.ptr 52 0])) :: (53, some (.mixed [.ptr 52 0])) :: (52, some (.mixed (entC a t (.r .nil)))) :: (51, some (.mixed ((askC a).map .r))) :: rmT rv [], false⟩]) (K := 4) [50, 51, 52] (by kernel_rfl) (by kernel_rfl) ?_
   iterate 4 refine qA ?_
   refine aq_load2 tOk rfl (by kernel_rfl) rfl rfl rfl rfl trivial ⟨_, rfl, trivial⟩ ⟨_, rfl, trivial⟩ ?_
   refine qL ?_
   refine qA ?_
   refine qB ?_ ?_
   ·simp
   refine aq_new tOk rfl rfl rfl rfl rfl rfl trivial ?_
   refine aq_new tOk rfl rfl rfl rfl rfl rfl ?_ ?_
   ·simp
   refine aq_app tOk rfl rfl rfl rfl rfl rfl ?_ ?_
   ·refine ⟨⟨?_, ?_, ?_⟩, ⟨?_, ?_⟩, ⟨?_, ?_⟩, ?_⟩ <;> first | trivial | decide | omega | (simp; done) | (simp; omega)
   iterate 2 refine qA ?_
   refine aq_store tOk rfl rfl rfl rfl rfl trivial ?_
   refine aq_nil rfl ?_
   refine ag_ent (g' := []) (h' := ⟨55, (0, some (.mixed [.r rv, .sl 54 0 (0 + 1) 1, .r (.bool true)])) :: (54, some (.mixed [.ptr 52 0])) :: (53, some (.mixed [.ptr 52 0])) :: (52, some (.mixed (entC a t (.r .nil)))) :: (51, some (.mixed ((askC a).map .r))) :: rmT rv [], false⟩) (ent_keep (g' := []) (h := ⟨55, (0, some (.mixed [.r rv, .sl 54 0 (0 + 1) 1, .r (.bool true)])) :: (54, some (.mixed [.ptr 52 0])) :: (53, some (.mixed [.ptr 52 0])) :: (52, some (.mixed (entC a t (.r .nil)))) :: (51, some (.mixed ((askC a).map .r))) :: rmT rv [], false⟩) trivial) ?_
   refine zB ?_
   refine pE ?_
   refine ag_retW (v := .r (.int .i64 0)) tOk Tryz.func9 rfl rfl (by first | trivial | exact ⟨trivial, trivial⟩ | simp) (ent_open (n := 51) (K1 := 52) (K2 := 54) (es := []) (t := t) (g' := [(0, .r (.int .i64 0))]) hl (by omega) rfl ⟨by omega, by omega, by show 54 < 55; omega⟩ rfl rfl rfl (fun j h1 h2 => Eq.trans (look_ne (by omega)) (Eq.trans (look_ne (by omega)) (Eq.trans (look_ne (by omega)) (Eq.trans (look_ne (by omega)) (Eq.trans (look_ne (by omega)) (rfl)))))) ⟨⟨rfl, rfl⟩, trivial⟩ rfl) ?_
   subst hjp
   exact ⟨rfl, rfl⟩
 ·refine ar_ent (ent_reg 38 (.r (.bool false)) (by show AVal.r (.bool _) = _; exact eqB ht)) ?_
  have hc1 : ¬ now < 0 := of_decide_eq_false ht
  iterate 2 refine pA ?_
  refine pE ?_
  refine ag_join (fun (t : Int) => ([(0, .ptr 0 0), (2, .r (.int .i64 t)), (4, .ptr 51 0)], ⟨52, (51, some (.mixed ((askC a).map .r))) :: rmT rv [], false⟩)) (fun t => t = clampT now) ?_ ?_
  ·intro hjn
   refine ag_cond rfl ?_ ?_
   ·intro h41
    have hc2 : now > 1099511627776 := of_decide_eq_true h41
    refine ag_reg ?_
    refine pE ?_
    refine ag_ent (ent_keep (g' := (((fun (t : Int) => ([(0, .ptr 0 0), (2, .r (.int .i64 t)), (4, .ptr 51 0)], ⟨52, (51, some (.mixed ((askC a).map .r))) :: rmT rv [], false⟩)) 0) : Regs × Hp).1) ?_) (hjn 0 ?_)
    ·exact ⟨rfl, rfl, rfl, trivial⟩
    ·show (0 : Int) = clampT now; rw [clampT, if_pos (.inr hc2)]
   ·intro h41
    have hc2 : ¬ now > 1099511627776 := of_decide_eq_false h41
    refine ag_skip ?_
    refine ag_ent (ent_keep (g' := (((fun (t : Int) => ([(0, .ptr 0 0), (2, .r (.int .i64 t)), (4, .ptr 51 0)], ⟨52, (51, some (.mixed ((askC a).map .r))) :: rmT rv [], false⟩)) now) : Regs × Hp).1) ?_) (hjn now ?_)
    ·exact ⟨rfl, rfl, rfl, trivial⟩
    ·show now = clampT now; rw [clampT, if_neg (by rintro (q | q); exact hc1 q; exact hc2 q)]
  ·rintro t hjp
   refine ag_seq ?_
   refine ag_draw (Hs := hsL [⟨52, (51, some (.mixed ((askC a).map .r))) :: rmT rv [], false⟩, ⟨53, (52, some (.mixed (entC a t (.r .nil)))) :: (51, some (.mixed ((askC a).map .r))) :: rmT rv [], false⟩, ⟨54, (53, some (.mixed [.ptr 52 0])) :: (52, some (.mixed (entC a t (.r .nil)))) :: (51, some (.mixed ((askC a).map .r))) :: rmT rv [], false⟩, ⟨55, (54, some (.mixed [.ptr 52 0])) :: (53, some (.mixed [.ptr 52 0])) :: (52, some (.mixed (entC a t (.r .nil)))) :: (51, some (.mixed ((askC a).map .r))) :: rmT rv [], false⟩, ⟨55, (0, some (.mixed [.r rv, .sl 54 0 (0 + 1) 1, .r (.bool true)])) :: (54, some (.mixed [.ptr 52 0])) :: (53, some (.mixed [.ptr 52 0])) :: (52, some (.mixed (entC a t (.r .nil)))) :: (51, some (.mixed ((askC a).map .r))) :: rmT rv [], false⟩]) (K := 4) [50, 51, 52] (by kernel_rfl) (by kernel_rfl) ?_
   iterate 4 refine qA ?_
   refine aq_load2 tOk rfl (by kernel_rfl) rfl rfl rfl rfl trivial ⟨_, rfl, trivial⟩ ⟨_, rfl, trivial⟩ ?_
   refine qL ?_
   refine qA ?_
   refine qB ?_ ?_
   ·simp
   refine aq_new tOk rfl rfl rfl rfl rfl rfl trivial ?_
   refine aq_new tOk rfl rfl rfl rfl rfl rfl ?_ ?_
   ·simp
   refine aq_app tOk rfl rfl rfl rfl rfl rfl ?_ ?_
   ·refine ⟨⟨?_, ?_, ?_⟩, ⟨?_, ?_⟩, ⟨?_, ?_⟩, ?_⟩ <;> first | trivial | decide | omega | (simp; done) | (simp; omega)
   iterate 2 refine qA ?_
   refine aq_store tOk rfl rfl rfl rfl rfl trivial ?_
   refine aq_nil rfl ?_
   refine ag_ent (g' := []) (h' := ⟨55, (0, some (.mixed [.r rv, .sl 54 0 (0 + 1) 1, .r (.bool true)])) :: (54, some (.mixed [.ptr 52 0])) :: (53, some (.mixed [.ptr 52 0])) :: (52, some (.mixed (entC a t (.r .nil)))) :: (51, some (.mixed ((askC a).map .r))) :: rmT rv [], false⟩) (ent_keep (g' := []) (h := ⟨55, (0, some (.mixed [.r rv, .sl 54 0 (0 + 1) 1, .r (.bool true)])) :: (54, some (.mixed [.ptr 52 0])) :: (53, some (.mixed [.ptr 52 0])) :: (52, some (.mixed (entC a t (.r .nil)))) :: (51, some (.mixed ((askC a).map .r))) :: rmT rv [], false⟩) trivial) ?_
   refine zB ?_
   refine pE ?_
   refine ag_retW (v := .r (.int .i64 0)) tOk Tryz.func9 rfl rfl (by first | trivial | exact ⟨trivial, trivial⟩ | simp) (ent_open (n := 51) (K1 := 52) (K2 := 54) (es := []) (t := t) (g' := [(0, .r (.int .i64 0))]) hl (by omega) rfl ⟨by omega, by omega, by show 54 < 55; omega⟩ rfl rfl rfl (fun j h1 h2 => Eq.trans (look_ne (by omega)) (Eq.trans (look_ne (by omega)) (Eq.trans (look_ne (by omega)) (Eq.trans (look_ne (by omega)) (Eq.trans (look_ne (by omega)) (rfl)))))) ⟨⟨rfl, rfl⟩, trivial⟩ rfl) ?_
   subst hjp
   exact ⟨rfl, rfl⟩
theorem w_OpenOk1 (rv : RVal) (e0 : EV) (l : List EV) (a : AskV) (now : Int) (hl : (e0 :: l).length ≤ 8) (h7 : l.length + 1 < 8) (hb : askE a = 0) (hf : fixA a (e0 :: l) = none) : Spec Tryz.prog 9 [.ptr 0 0, askA a, .r (.int .i64 now)] (rmH 51 rv (e0 :: l)) (fun v h' => v = .r (.int .i64 0) ∧ h' = openH 51 rv (e0 :: l) a (clampT now)) := by
 have cA := w_bAsk a
 rw [hb] at cA
 refine spec_of_go (N := 55) Tryz.func9 rfl (by decide) rfl rfl ?_
 refine zB ?_
 refine pM ?_
 refine pF ?_
 refine zB ?_
 refine pB ?_
 refine ar_pur (cA) rfl rfl rfl rfl rfl rfl rfl ?_
 refine pE ?_
 refine bX ?_
 iterate 3 refine pA ?_
 refine ar_ent (ent_reg 13 (.r (.bool false)) (by show AVal.r (.bool _) = _; exact eqB (by rfl))) ?_
 iterate 3 refine pA ?_
 refine pB ?_
 iterate 2 refine pA ?_
 refine pE ?_
 refine vC ?_
 refine zB ?_
 iterate 2 refine pA ?_
 refine pE ?_
 refine vC ?_
 refine zB ?_
 refine pA ?_
 refine pB ?_
 refine ar_qd rfl (qop_subH (w_findMiss (rv := rv) hl hf) (fun _ _ h => h) rfl (rfl) (subH_pre (S := rmT rv (e0 :: l)) 1 (symOk_rm hl (by show 40 ≤ 40; omega)) rfl rfl rfl (by show 40 ≤ 52; omega)) (rfl)) rfl rfl rfl rfl ?_
 refine pA ?_
 refine pE ?_
 refine vC ?_
 refine zB ?_
 iterate 3 refine pA ?_
 refine pB ?_
 iterate 2 refine pA ?_
 refine pE ?_
 refine ag_false rfl (decide_eq_false (show ¬ ((l.length + 1 : Nat) : Int) ≥ 8 by omega)) ?_
 refine ag_skip ?_
 refine ag_inBlock ?_
 refine sZ ?_
 iterate 3 refine pA ?_
 refine ar_guard (t := decide (now < 0)) (fun ht => ?_) (fun ht => ?_)
 ·refine ar_ent (ent_reg 38 (.r (.bool true)) (by show AVal.r (.bool _) = _; exact eqB ht)) ?_
  have hc1 : now < 0 := of_decide_eq_true ht
  repeat (first | refine ar_skip rfl rfl rfl ?_ | refine ar_pure tOk rfl rfl rfl trivial ?_)
  refine ar_nil ?_
  refine ag_join (fun (t : Int) => ([(0, .ptr 0 0), (2, .r (.int .i64 t)), (4, .ptr 51 0)], ⟨52, (51, some (.mixed ((askC a).map .r))) :: rmT rv (e0 :: l), false⟩)) (fun t => t = clampT now) ?_ ?_
  ·intro hjn
   refine vB ?_
   refine ag_reg ?_
   refine pE ?_
   refine ag_ent (ent_keep (g' := (((fun (t : Int) => ([(0, .ptr 0 0), (2, .r (.int .i64 t)), (4, .ptr 51 0)], ⟨52, (51, some (.mixed ((askC a).map .r))) :: rmT rv (e0 :: l), false⟩)) 0) : Regs × Hp).1) ?_) (hjn 0 ?_)
   ·exact ⟨rfl, rfl, rfl, trivial⟩
   ·show (0 : Int) = clampT now; rw [clampT, if_pos (.inl hc1)]
  ·rintro t hjp
   refine ag_seq ?_
   refine ag_draw (Hs := hsL [⟨52, (51, some (.mixed ((askC a).map .r))) :: rmT rv (e0 :: l), false⟩, ⟨53, (52, some (.mixed (entC a t (.r .nil)))) :: (51, some (.mixed ((askC a).map .r))) :: rmT rv (e0 :: l), false⟩, ⟨54, (53, some (.mixed [.ptr 52 0])) :: (52, some (.mixed (entC a t (.r .nil)))) :: (51, some (.mixed ((askC a).map .r))) :: rmT rv (e0 :: l), false⟩, ⟨55, (54, some (.mixed (ptrsA 0 (l.length + 1) ++ [.ptr 52 0]))) :: (1, none) :: (53, some (.mixed [.ptr 52 0])) :: (52, some (.mixed (entC a t (.r .nil)))) :: (51, some (.mixed ((askC a).map .r))) :: rmT rv (e0 :: l), false⟩, ⟨55, (0, some (.mixed [.r rv, .sl 54 0 (l.length + 1 + 1) 1, .r (.bool true)])) :: (54, some (.mixed (ptrsA 0 (l.length + 1) ++ [.ptr 52 0]))) :: (1, none) :: (53, some (.mixed [.ptr 52 0])) :: (52, some (.mixed (entC a t (.r .nil)))) :: (51, some (.mixed ((askC a).map .r))) :: rmT rv (e0 :: l), false⟩]) (K := 4) [50, 51, 52] (by kernel_rfl) (by kernel_rfl) ?_
   iterate 4 refine qA ?_
   refine aq_load2 tOk rfl (by kernel_rfl) rfl rfl rfl rfl trivial ⟨_, rfl, trivial⟩ ⟨_, rfl, trivial⟩ ?_
   refine qL ?_
   refine qA ?_
   refine qB ?_ ?_
   ·simp
   refine aq_new tOk rfl rfl rfl rfl rfl rfl trivial ?_
   refine aq_new tOk rfl rfl rfl rfl rfl rfl ?_ ?_
   ·simp
   refine aq_app tOk rfl (stepApp_mixed (β := 1) (γ := 53) rfl rfl rfl rfl rfl rfl rfl rfl rfl rfl rfl rfl rfl rfl (by rw [ptrsA_len]; exact Nat.mul_one _) (ptrsA_one _ _) rfl rfl rfl rfl) rfl rfl rfl rfl ?_ ?_
   ·refine ⟨⟨?_, ?_, ?_⟩, ⟨?_, ?_⟩, ⟨?_, ?_⟩, ?_⟩ <;> first | trivial | decide | omega | (simp; done) | (simp; omega)
   iterate 2 refine qA ?_
   refine aq_store tOk rfl rfl rfl rfl rfl trivial ?_
   refine aq_nil rfl ?_
   refine ag_ent (g' := []) (h' := ⟨55, (0, some (.mixed [.r rv, .sl 54 0 (l.length + 1 + 1) 1, .r (.bool true)])) :: (54, some (.mixed (ptrsA 0 (l.length + 1) ++ [.ptr 52 0]))) :: (1, none) :: (53, some (.mixed [.ptr 52 0])) :: (52, some (.mixed (entC a t (.r .nil)))) :: (51, some (.mixed ((askC a).map .r))) :: rmT rv (e0 :: l), false⟩) (ent_keep (g' := []) (h := ⟨55, (0, some (.mixed [.r rv, .sl 54 0 (l.length + 1 + 1) 1, .r (.bool true)])) :: (54, some (.mixed (ptrsA 0 (l.length + 1) ++ [.ptr 52 0]))) :: (1, none) :: (53, some (.mixed [.ptr 52 0])) :: (52, some (.mixed (entC a t (.r .nil)))) :: (51, some (.mixed ((askC a).map .r))) :: rmT rv (e0 :: l), false⟩) trivial) ?_
   refine zB ?_
   refine pE ?_
   refine ag_retW (v := .r (.int .i64 0)) tOk Tryz.func9 rfl rfl (by first | trivial | exact ⟨trivial, trivial⟩ | simp) (ent_open (n := 51) (K1 := 52) (K2 := 54) (es := (e0 :: l)) (t := t) (g' := [(0, .r (.int .i64 0))]) hl (by omega) rfl ⟨by omega, by omega, by show 54 < 55; omega⟩ rfl rfl rfl (fun j h1 h2 => Eq.trans (look_ne (by omega)) (Eq.trans (look_ne (by omega)) (Eq.trans (look_ne (by omega)) (Eq.trans (look_ne (by omega)) (Eq.trans (look_ne (by omega)) (Eq.trans (look_ne (by omega)) (rfl))))))) ⟨⟨rfl, rfl⟩, trivial⟩ rfl) ?_
   subst hjp
   exact ⟨rfl, rfl⟩
 ·refine ar_ent (ent_reg 38 (.r (.bool false)) (by show AVal.r (.bool _) = _; exact eqB ht)) ?_
  have hc1 : ¬ now < 0 := of_decide_eq_false ht
  iterate 2 refine pA ?_
  refine pE ?_
  refine ag_join (fun (t : Int) => ([(0, .ptr 0 0), (2, .r (.int .i64 t)), (4, .ptr 51 0)], ⟨52, (51, some (.mixed ((askC a).map .r))) :: rmT rv (e0 :: l), false⟩)) (fun t => t = clampT now) ?_ ?_
  ·intro hjn
   refine ag_cond rfl ?_ ?_
   ·intro h41
    have hc2 : now > 1099511627776 := of_decide_eq_true h41
    refine ag_reg ?_
    refine pE ?_
    refine ag_ent (ent_keep (g' := (((fun (t : Int) => ([(0, .ptr 0 0), (2, .r (.int .i64 t)), (4, .ptr 51 0)], ⟨52, (51, some (.mixed ((askC a).map .r))) :: rmT rv (e0 :: l), false⟩)) 0) : Regs × Hp).1) ?_) (hjn 0 ?_)
    ·exact ⟨rfl, rfl, rfl, trivial⟩
    ·show (0 : Int) = clampT now; rw [clampT, if_pos (.inr hc2)]
   ·intro h41
    have hc2 : ¬ now > 1099511627776 := of_decide_eq_false h41
    refine ag_skip ?_
    refine ag_ent (ent_keep (g' := (((fun (t : Int) => ([(0, .ptr 0 0), (2, .r (.int .i64 t)), (4, .ptr 51 0)], ⟨52, (51, some (.mixed ((askC a).map .r))) :: rmT rv (e0 :: l), false⟩)) now) : Regs × Hp).1) ?_) (hjn now ?_)
    ·exact ⟨rfl, rfl, rfl, trivial⟩
    ·show now = clampT now; rw [clampT, if_neg (by rintro (q | q); exact hc1 q; exact hc2 q)]
  ·rintro t hjp
   refine ag_seq ?_
   refine ag_draw (Hs := hsL [⟨52, (51, some (.mixed ((askC a).map .r))) :: rmT rv (e0 :: l), false⟩, ⟨53, (52, some (.mixed (entC a t (.r .nil)))) :: (51, some (.mixed ((askC a).map .r))) :: rmT rv (e0 :: l), false⟩, ⟨54, (53, some (.mixed [.ptr 52 0])) :: (52, some (.mixed (entC a t (.r .nil)))) :: (51, some (.mixed ((askC a).map .r))) :: rmT rv (e0 :: l), false⟩, ⟨55, (54, some (.mixed (ptrsA 0 (l.length + 1) ++ [.ptr 52 0]))) :: (1, none) :: (53, some (.mixed [.ptr 52 0])) :: (52, some (.mixed (entC a t (.r .nil)))) :: (51, some (.mixed ((askC a).map .r))) :: rmT rv (e0 :: l), false⟩, ⟨55, (0, some (.mixed [.r rv, .sl 54 0 (l.length + 1 + 1) 1, .r (.bool true)])) :: (54, some (.mixed (ptrsA 0 (l.length + 1) ++ [.ptr 52 0]))) :: (1, none) :: (53, some (.mixed [.ptr 52 0])) :: (52, some (.mixed (entC a t (.r .nil)))) :: (51, some (.mixed ((askC a).map .r))) :: rmT rv (e0 :: l), false⟩]) (K := 4) [50, 51, 52] (by kernel_rfl) (by kernel_rfl) ?_
   iterate 4 refine qA ?_
   refine aq_load2 tOk rfl (by kernel_rfl) rfl rfl rfl rfl trivial ⟨_, rfl, trivial⟩ ⟨_, rfl, trivial⟩ ?_
   refine qL ?_
   refine qA ?_
   refine qB ?_ ?_
   ·simp
   refine aq_new tOk rfl rfl rfl rfl rfl rfl trivial ?_
   refine aq_new tOk rfl rfl rfl rfl rfl rfl ?_ ?_
   ·simp
   refine aq_app tOk rfl (stepApp_mixed (β := 1) (γ := 53) rfl rfl rfl rfl rfl rfl rfl rfl rfl rfl rfl rfl rfl rfl (by rw [ptrsA_len]; exact Nat.mul_one _) (ptrsA_one _ _) rfl rfl rfl rfl) rfl rfl rfl rfl ?_ ?_
   ·refine ⟨⟨?_, ?_, ?_⟩, ⟨?_, ?_⟩, ⟨?_, ?_⟩, ?_⟩ <;> first | trivial | decide | omega | (simp; done) | (simp; omega)
   iterate 2 refine qA ?_
   refine aq_store tOk rfl rfl rfl rfl rfl trivial ?_
   refine aq_nil rfl ?_
   refine ag_ent (g' := []) (h' := ⟨55, (0, some (.mixed [.r rv, .sl 54 0 (l.length + 1 + 1) 1, .r (.bool true)])) :: (54, some (.mixed (ptrsA 0 (l.length + 1) ++ [.ptr 52 0]))) :: (1, none) :: (53, some (.mixed [.ptr 52 0])) :: (52, some (.mixed (entC a t (.r .nil)))) :: (51, some (.mixed ((askC a).map .r))) :: rmT rv (e0 :: l), false⟩) (ent_keep (g' := []) (h := ⟨55, (0, some (.mixed [.r rv, .sl 54 0 (l.length + 1 + 1) 1, .r (.bool true)])) :: (54, some (.mixed (ptrsA 0 (l.length + 1) ++ [.ptr 52 0]))) :: (1, none) :: (53, some (.mixed [.ptr 52 0])) :: (52, some (.mixed (entC a t (.r .nil)))) :: (51, some (.mixed ((askC a).map .r))) :: rmT rv (e0 :: l), false⟩) trivial) ?_
   refine zB ?_
   refine pE ?_
   refine ag_retW (v := .r (.int .i64 0)) tOk Tryz.func9 rfl rfl (by first | trivial | exact ⟨trivial, trivial⟩ | simp) (ent_open (n := 51) (K1 := 52) (K2 := 54) (es := (e0 :: l)) (t := t) (g' := [(0, .r (.int .i64 0))]) hl (by omega) rfl ⟨by omega, by omega, by show 54 < 55; omega⟩ rfl rfl rfl (fun j h1 h2 => Eq.trans (look_ne (by omega)) (Eq.trans (look_ne (by omega)) (Eq.trans (look_ne (by omega)) (Eq.trans (look_ne (by omega)) (Eq.trans (look_ne (by omega)) (Eq.trans (look_ne (by omega)) (rfl))))))) ⟨⟨rfl, rfl⟩, trivial⟩ rfl) ?_
   subst hjp
   exact ⟨rfl, rfl⟩
theorem w_OpenFullV {rv : RVal} {es : List EV} {a : AskV} (now : Int) (hb : askE a = 0) (h8 : es.length = 8) (hf : fixA a es = none) : Spec Tryz.prog 9 [.ptr 0 0, askA a, .r (.int .i64 now)] (rmH 40 rv es) (fun v h' => v = .r (.int .i64 10) ∧ h' = rmH 40 rv es) := by
 cases es with
 | nil => cases h8
 | cons e0 l => exact w_OpenFull rv e0 l a now (by omega) hb (by simpa using h8) hf
theorem w_OpenOk {rv : RVal} {es : List EV} {a : AskV} (now : Int) (hb : askE a = 0) (h8 : es.length < 8) (hf : fixA a es = none) : Spec Tryz.prog 9 [.ptr 0 0, askA a, .r (.int .i64 now)] (rmH 51 rv es) (fun v h' => v = .r (.int .i64 0) ∧ h' = openH 51 rv es a (clampT now)) := by
 cases es with
 | nil => exact w_OpenOk0 rv a now hb hf
 | cons e0 l => exact w_OpenOk1 rv e0 l a now (by omega) (by simpa using h8) hb hf
end Go.Proofs.YtccdhgmkjakjkaaGreat
