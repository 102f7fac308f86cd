/-
  WALKS: auctions of any size: Bid. (Printed by gen.py out of w_sau4.py.)
-/
import Derived.Test.YtccdhgmkjakjkaaGreatSau3
namespace Go.Proofs.YtccdhgmkjakjkaaGreat
open Go
set_option maxRecDepth 20000
set_option linter.unusedVariables false
set_option linter.unusedVariables false
set_option linter.unusedSimpArgs false
theorem stepStore_told {T : TTab} {g : Regs} {h : Hp} {o : Oper} {t : TypeId} {x y : Operand} {ty : Ty} {β off : Nat} {vs : List AVal} {blk bd' : Body} {c : Prop} (hd : o.dst = none) (hop : o.op = .store t x y) (hT : T.look t = some ty) (hx : evA g x = .ptr β off) (hy : cellsF (evA g y) = some vs)
  (hg : h.get β = some blk) (hl : Nat.beq vs.length ty.size = true) (hs : storeF blk off vs = some (bd', c)) : stepStore g h T o = some (h.set β (some bd'), c) := by
 unfold stepStore
 rw [hd, hop]
 simp only [hT, hx, hy, hg, hl, hs, cond_true, Option.map_some]
section
variable {m : Md} {g g' : Regs} {h h' : Hp} {rv : RVal} {es : List EV} {i : Nat} {e : EV}
theorem beq_not {a b : Nat} (h : a ≠ b) : Nat.beq a b = false := beq_ne h
def RestIs (h : Hp) (rv : RVal) (es : List EV) (i : Nat) : Prop := ∀ j, j < 40 → j ≠ i + 10 → j ≠ i + 20 → h.get j = Hp.look (rmT rv es) j
def rhoN (n K j : Nat) : Nat := bif Nat.beq j n then K else j
theorem rhoN_eq {n K : Nat} : rhoN n K n = K := by simp [rhoN]
theorem rhoN_ne {n K j : Nat} (h : j ≠ n) : rhoN n K j = j := by simp [rhoN, beq_not h]
def bidH (n : Nat) (rv : RVal) (es : List EV) (i : Nat) (e : EV) (b : BidV) : Hp := ⟨n + 1, (n, some (.plain (bidsC (e.L ++ [b])))) :: (i + 10, some (.mixed (entC e.a e.t (.sl n 0 (e.L.length + 1) 16)))) :: (i + 20, none) :: rmT rv es, false⟩
theorem ent_bid {n K : Nat} (hl : es.length ≤ 8) (hi : i < 8) (hn : 40 ≤ n) (hm : m.len = n) (hK : n ≤ K ∧ K < h.nxt) (b : BidV) (h1 : h.get K = some (.plain (bidsC (e.L ++ [b])))) (h2 : h.get (i + 10) = some (.mixed (entC e.a e.t (.sl K 0 (e.L.length + 1) 16))))
  (h3 : RestIs h rv es i) (hr : WeakF (rhoN n K) (n + 1) g g') (hgh : h.gh = false) : Ent m g h g' (bidH n rv es i e b) := by
 refine ent_ren (rhoN n K) (by show m.len ≤ n + 1; omega) (fun j hj => rhoN_ne (by omega)) ?_ ?_ ?_ hr hgh.symm
 ·intro j hj
  by_cases e : j = n
  ·subst e; rw [rhoN_eq]; omega
  ·rw [rhoN_ne e]
   have : j < n + 1 := hj
   omega
 ·intro j blk hg
  have hg' : Hp.look ((n, some (.plain (bidsC (e.L ++ [b])))) :: (i + 10, some (.mixed (entC e.a e.t (.sl n 0 (e.L.length + 1) 16)))) :: (i + 20, none) :: rmT rv es) j = some blk := hg
  show j < n + 1 ∧ blk.nb (n + 1) = true ∧ _
  rw [look_kill] at hg'
  split at hg'
  ·rename_i q; subst q; cases hg'
   rw [rhoN_eq]
   exact ⟨by omega, rfl, h1⟩
  ·rename_i q1
   rw [look_kill] at hg'
   split at hg'
   ·rename_i q; subst q; cases hg'
    refine ⟨by omega, entC_nb (blt_of (by omega)), ?_⟩
    rw [rhoN_ne (by omega), h2]
    show _ = some (Body.mixed ((askC e.a).map .r ++ [.r (.int .i64 e.t), .sl (rhoN n K n) 0 (e.L.length + 1) 16]))
    rw [rhoN_eq]; rfl
   ·rename_i q2
    rw [look_kill] at hg'
    split at hg'
    ·cases hg'
    ·rename_i q3
     obtain ⟨h4, h5⟩ := symOk_rm hl (Nat.le_refl 40) j blk hg'
     refine ⟨by omega, bnb_mono (by omega) blk h5, ?_⟩
     rw [rhoN_ne (by omega), bren_nb (fun q hq => rhoN_ne (by omega)) blk h5, h3 j h4 (Ne.symm q2) (Ne.symm q3)]
     exact hg'
 ·intro a c _ _ ha hc hac
  have hsp : ∀ {a x}, (bidH n rv es i e b).get a = some x → a = n ∨ a < 40 := by
   intro a x hg
   have hg' : Hp.look ((n, some (.plain (bidsC (e.L ++ [b])))) :: (i + 10, some (.mixed (entC e.a e.t (.sl n 0 (e.L.length + 1) 16)))) :: (i + 20, none) :: rmT rv es) a = some x := hg
   rw [look_kill] at hg'
   split at hg'
   ·rename_i q; exact .inl q.symm
   ·rw [look_kill] at hg'
    split at hg'
    ·rename_i q; exact .inr (by omega)
    ·rw [look_kill] at hg'
     split at hg'
     ·cases hg'
     ·exact .inr (symOk_rm hl (Nat.le_refl 40) a x hg').1
  rcases hsp ha with q1 | q1 <;> rcases hsp hc with q2 | q2
  ·omega
  ·subst q1; rw [rhoN_eq, rhoN_ne (by omega)] at hac; omega
  ·subst q2; rw [rhoN_eq, rhoN_ne (by omega)] at hac; omega
  ·rw [rhoN_ne (by omega), rhoN_ne (by omega)] at hac; exact hac
theorem ent_mvb {n : Nat} {S : List (Nat × Option ABlk)} {p : BidV} {L : List BidV} (hl : es.length ≤ 8) (hi : i < 8) (hn : 40 ≤ n) (hm : m.len = n) {bx : Body} (hbx : bx.nb 0 = true) (he : es[i]? = some e) (heL : e.L = p :: L) (hh : h = ⟨n + 1, (n, some bx) :: rmT rv es, false⟩) (hr : WeakF (rhoN (n + 1) (i + 20)) (n + 2) g g') :
  Ent m g h g' ⟨n + 2, (n + 1, some (.plain (bidsC (p :: L)))) :: (n, some bx) :: (i + 20, none) :: (i + 10, some (.mixed (entC e.a e.t (.sl (n + 1) 0 (L.length + 1) 16)))) :: rmT rv es, false⟩ := by
 subst hh
 have hS := symOk_rm (rv := rv) hl (Nat.le_refl 40)
 have hE : Hp.look (rmT rv es) (i + 10) = some (entB i e) := get_ent (h := rmH 40 rv es) 0 he hi rfl rfl
 have hB : Hp.look (rmT rv es) (i + 20) = some (.plain (bidsC (p :: L))) := by
  have h1 : Hp.look (rmT rv es) (i + 20) = bblk e.L := get_bds (h := rmH 40 rv es) 0 he hi rfl rfl
  rw [h1, heL]; rfl
 have hsl : bslot (i + 20) e.L = .sl (i + 20) 0 (L.length + 1) 16 := by rw [heL]; rfl
 have hsp : ∀ {j blk}, Hp.look ((n + 1, some (Body.plain (bidsC (p :: L)))) :: (n, some bx) :: (i + 20, none) :: (i + 10, some (.mixed (entC e.a e.t (.sl (n + 1) 0 (L.length + 1) 16)))) :: rmT rv es) j = some blk →
   (j = n + 1 ∧ blk = .plain (bidsC (p :: L))) ∨ (j = i + 10 ∧ blk = .mixed (entC e.a e.t (.sl (n + 1) 0 (L.length + 1) 16))) ∨ (j = n ∧ blk = bx) ∨ (j ≠ i + 10 ∧ j ≠ i + 20 ∧ j < 40 ∧ blk.nb 40 = true ∧ Hp.look (rmT rv es) j = some blk) := by
  intro j blk hg
  rw [look_kill] at hg
  split at hg
  ·rename_i q; cases hg; exact .inl ⟨q.symm, rfl⟩
  ·rw [look_kill] at hg
   split at hg
   ·rename_i q; cases hg; exact .inr (.inr (.inl ⟨q.symm, rfl⟩))
   ·rw [look_kill] at hg
    split at hg
    ·cases hg
    ·rename_i q1
     rw [look_kill] at hg
     split at hg
     ·rename_i q; cases hg; exact .inr (.inl ⟨q.symm, rfl⟩)
     ·rename_i q2
      exact .inr (.inr (.inr ⟨Ne.symm q2, Ne.symm q1, (hS j blk hg).1, (hS j blk hg).2, hg⟩))
 have hlk : ∀ {j}, j < 40 → Hp.get ⟨n + 1, (n, some bx) :: rmT rv es, false⟩ j = Hp.look (rmT rv es) j := fun hj => look_ne (by omega)
 refine ent_ren (rhoN (n + 1) (i + 20)) (by show m.len ≤ n + 2; omega) (fun j hj => rhoN_ne (by omega)) ?_ ?_ ?_ hr rfl
 ·intro j hj
  show _ < n + 1
  by_cases q : j = n + 1
  ·subst q; rw [rhoN_eq]; omega
  ·rw [rhoN_ne q]
   have : j < n + 2 := hj
   omega
 ·intro j blk hg
  show j < n + 2 ∧ blk.nb (n + 2) = true ∧ _
  rcases hsp hg with ⟨rfl, rfl⟩ | ⟨rfl, rfl⟩ | ⟨rfl, rfl⟩ | ⟨q1, q2, q3, q4, q5⟩
  ·rw [rhoN_eq, hlk (by omega)]; exact ⟨by omega, rfl, hB⟩
  ·refine ⟨by omega, entC_nb (blt_of (by omega)), ?_⟩
   rw [rhoN_ne (by omega), hlk (by omega), hE]
   show _ = some (Body.mixed ((askC e.a).map .r ++ [.r (.int .i64 e.t), .sl (rhoN (n + 1) (i + 20) (n + 1)) 0 (L.length + 1) 16]))
   rw [rhoN_eq, entB, hsl]; rfl
  ·refine ⟨by omega, bnb_mono (Nat.zero_le _) _ hbx, ?_⟩
   rw [rhoN_ne (by omega), bren_nb (n := 0) (fun q hq => absurd hq (Nat.not_lt_zero _)) _ hbx]
   exact look_eq
  ·refine ⟨by omega, bnb_mono (by omega) blk q4, ?_⟩
   rw [rhoN_ne (by omega), hlk q3, bren_nb (fun q hq => rhoN_ne (by omega)) blk q4]
   exact q5
 ·intro a c _ _ ha hc hac
  rcases hsp ha with ⟨q1, _⟩ | ⟨q1, _⟩ | ⟨q1, _⟩ | ⟨q1, q1', q1'', _⟩ <;> rcases hsp hc with ⟨q2, _⟩ | ⟨q2, _⟩ | ⟨q2, _⟩ | ⟨q2, q2', q2'', _⟩ <;> first | omega | (subst q1; rw [rhoN_eq, rhoN_ne (by omega)] at hac; omega) | (subst q2; rw [rhoN_eq, rhoN_ne (by omega)] at hac; omega) | (rw [rhoN_ne (by omega), rhoN_ne (by omega)] at hac; exact hac)
end
theorem w_BidMiss (R S : List UInt8) (es : List EV) (b : BidV) (now : Int) (hl : es.length ≤ 8) (hf : fixA b.a es = none) : Spec Tryz.prog 12 [.ptr 0 0, bidA b, .r (.int .i64 now)] (rmH 40 (rvT R S) es) (fun v h' => v = .r (.bool false) ∧ h' = rmH 40 (rvT R S) es) := by
 refine spec_of_go (N := 47) Tryz.func12 rfl (by decide) rfl rfl ?_
 refine zB ?_
 refine pM ?_
 refine pG ?_
 iterate 2 refine pA ?_
 refine pB ?_
 refine ar_qd rfl (qop_subH (w_findMiss (rv := (rvT R S)) hl hf) (fun _ _ h => h) rfl (rfl) (subH_pre (S := rmT (rvT R S) es) 1 (symOk_rm hl (by show 40 ≤ 40; omega)) rfl rfl rfl (by show 40 ≤ 41; omega)) (rfl)) rfl rfl rfl rfl ?_
 refine pF ?_
 refine ag_seq ?_
 refine qD ?_
 iterate 3 refine qA ?_
 iterate 4 refine aq_skip rfl rfl rfl ?_
 iterate 2 refine qA ?_
 iterate 6 refine aq_skip rfl rfl rfl ?_
 iterate 2 refine qA ?_
 iterate 7 refine aq_skip rfl rfl rfl ?_
 refine qE ?_
 refine vB ?_
 refine zB ?_
 refine pE ?_
 refine ag_retW (v := .r (.bool false)) tOk Tryz.func12 rfl rfl (by first | trivial | exact ⟨trivial, trivial⟩ | simp) (ent_weakS (S := rmT (rvT R S) es) (n := 40) (g' := [(0, .r (.bool false))]) (h' := rmH 40 (rvT R S) es) [] 1 0 (symOk_rm hl (by omega)) rfl rfl rfl ?_ rfl rfl rfl rfl rfl rfl rfl ?_ rfl) ?_
 ·trivial
 ·exact ⟨⟨rfl, rfl⟩, trivial⟩
 exact ⟨rfl, rfl⟩
theorem w_BidL0 (R S : List UInt8) (es : List EV) (b : BidV) (now : Int) (hl : es.length ≤ 8) (i : Nat) (hf : fixA b.a es = some i) (ea : AskV) (et : Int) (he : es[i]? = some ⟨ea, et, []⟩) (hlt : now > b.e)  : Spec Tryz.prog 12 [.ptr 0 0, bidA b, .r (.int .i64 now)] (rmH 40 (rvT R S) es) (fun v h' => v = .r (.bool false) ∧ h' = rmH 40 (rvT R S) es) := by
 have hi := fix_lt hf
 have hi8 : i < 8 := by omega
 refine spec_of_go (N := 47) Tryz.func12 rfl (by decide) rfl rfl ?_
 refine zB ?_
 refine pM ?_
 refine pG ?_
 iterate 2 refine pA ?_
 refine pB ?_
 refine ar_qd rfl (qop_subH (w_findHit (rv := (rvT R S)) hl hf) (fun _ _ h => h) rfl (rfl) (subH_pre (S := rmT (rvT R S) es) 1 (symOk_rm hl (by show 40 ≤ 40; omega)) rfl rfl rfl (by show 40 ≤ 41; omega)) (blt_of (show i + 10 < 40 by omega))) rfl rfl rfl rfl ?_
 refine pF ?_
 refine ag_seq ?_
 refine qD ?_
 iterate 5 refine qA ?_
 refine qL ?_
 refine aq_pureE tOk (.r (.bool true)) rfl (by show AVal.r (.bool _) = _; exact eqB (decide_eq_true hlt)) rfl (by rfl) trivial ?_
 iterate 2 refine qA ?_
 iterate 6 refine aq_skip rfl rfl rfl ?_
 iterate 2 refine qA ?_
 iterate 7 refine aq_skip rfl rfl rfl ?_
 refine qE ?_
 refine vB ?_
 refine zB ?_
 refine pE ?_
 refine ag_retW (v := .r (.bool false)) tOk Tryz.func12 rfl rfl (by first | trivial | exact ⟨trivial, trivial⟩ | simp) (ent_weakS (S := rmT (rvT R S) es) (n := 40) (g' := [(0, .r (.bool false))]) (h' := rmH 40 (rvT R S) es) [] 1 0 (symOk_rm hl (by omega)) rfl rfl rfl ?_ rfl rfl rfl rfl rfl rfl rfl ?_ rfl) ?_
 ·trivial
 ·exact ⟨⟨rfl, rfl⟩, trivial⟩
 exact ⟨rfl, rfl⟩
theorem w_BidB0 (R S : List UInt8) (es : List EV) (b : BidV) (now : Int) (hl : es.length ≤ 8) (i : Nat) (hf : fixA b.a es = some i) (ea : AskV) (et : Int) (he : es[i]? = some ⟨ea, et, []⟩) (hb : b.ok) (hr : -9223372036854775808 ≤ b.r ∧ b.r ≤ 9223372036854775807) (hlt : ¬ now > b.e) (hv : valB (rtO R S b.r) b = false)  : Spec Tryz.prog 12 [.ptr 0 0, bidA b, .r (.int .i64 now)] (rmH 40 (rvT R S) es) (fun v h' => v = .r (.bool false) ∧ h' = rmH 40 (rvT R S) es) := by
 have hi := fix_lt hf
 have hi8 : i < 8 := by omega
 have cV := w_bValid b hb (rtO R S b.r)
 rw [hv] at cV
 refine spec_of_go (N := 47) Tryz.func12 rfl (by decide) rfl rfl ?_
 refine zB ?_
 refine pM ?_
 refine pG ?_
 iterate 2 refine pA ?_
 refine pB ?_
 refine ar_qd rfl (qop_subH (w_findHit (rv := (rvT R S)) hl hf) (fun _ _ h => h) rfl (rfl) (subH_pre (S := rmT (rvT R S) es) 1 (symOk_rm hl (by show 40 ≤ 40; omega)) rfl rfl rfl (by show 40 ≤ 41; omega)) (blt_of (show i + 10 < 40 by omega))) rfl rfl rfl rfl ?_
 refine pF ?_
 refine ag_seq ?_
 refine qD ?_
 iterate 5 refine qA ?_
 refine qL ?_
 refine aq_pureE tOk (.r (.bool false)) rfl (by show AVal.r (.bool _) = _; exact eqB (decide_eq_false hlt)) rfl (by rfl) trivial ?_
 iterate 5 refine qA ?_
 refine aq_loadAs0 tOk (.r .nil) rfl rfl rfl rfl (ha_ptr (β := i + 10) rfl (get_ent 1 he (hi8) rfl rfl)) (by kernel_rfl) rfl rfl (.inl ⟨rfl, rfl⟩) ?_
 refine qA ?_
 refine aq_qd0 (qop_objR [40] (w_CB0 b) (by rintro _ _ ⟨rfl, rfl⟩; exact ⟨rfl, rfl⟩) rfl rfl (handed_of rfl rfl (by decide) ⟨rfl, rfl, rfl, trivial⟩) rfl rfl) (by kernel_rfl) rfl rfl rfl rfl ?_
 iterate 2 refine qA ?_
 refine qL ?_
 iterate 2 refine qA ?_
 refine qL ?_
 refine aq_qd0 (qop_subH (w_rootS R S es b.r hr) (fun _ _ h => h) rfl (rfl) (subH_rm0 (by show 2 ≤ 41; omega) rfl) (rfl)) (by kernel_rfl) rfl rfl rfl rfl ?_
 refine aq_pur (cV) rfl rfl rfl rfl rfl rfl rfl ?_
 refine qA ?_
 refine qE ?_
 refine vB ?_
 refine zB ?_
 refine pE ?_
 refine ag_retW (v := .r (.bool false)) tOk Tryz.func12 rfl rfl (by first | trivial | exact ⟨trivial, trivial⟩ | simp) (ent_weakS (S := rmT (rvT R S) es) (n := 40) (g' := [(0, .r (.bool false))]) (h' := rmH 40 (rvT R S) es) [] 1 0 (symOk_rm hl (by omega)) rfl rfl rfl ?_ rfl rfl rfl rfl rfl rfl rfl ?_ rfl) ?_
 ·trivial
 ·exact ⟨⟨rfl, rfl⟩, trivial⟩
 exact ⟨rfl, rfl⟩
theorem w_BidO0 (R S : List UInt8) (es : List EV) (b : BidV) (now : Int) (hl : es.length ≤ 8) (i : Nat) (hf : fixA b.a es = some i) (ea : AskV) (et : Int) (he : es[i]? = some ⟨ea, et, []⟩) (hb : b.ok) (hr : -9223372036854775808 ≤ b.r ∧ b.r ≤ 9223372036854775807) (hlt : ¬ now > b.e) (hv : valB (rtO R S b.r) b = true)  : Spec Tryz.prog 12 [.ptr 0 0, bidA b, .r (.int .i64 now)] (rmH 51 (rvT R S) es) (fun v h' => v = .r (.bool true) ∧ h' = bidH 51 (rvT R S) es i ⟨ea, et, []⟩ b) := by
 have hi := fix_lt hf
 have hi8 : i < 8 := by omega
 have cV := w_bValid b hb (rtO R S b.r)
 rw [hv] at cV
 refine spec_of_go (N := 47) Tryz.func12 rfl (by decide) rfl rfl ?_
 refine zB ?_
 refine pM ?_
 refine pG ?_
 iterate 2 refine pA ?_
 refine pB ?_
 refine ar_qd rfl (qop_subH (w_findHit (rv := (rvT R S)) hl hf) (fun _ _ h => h) rfl (rfl) (subH_pre (S := rmT (rvT R S) es) 1 (symOk_rm hl (by show 40 ≤ 40; omega)) rfl rfl rfl (by show 40 ≤ 52; omega)) (blt_of (show i + 10 < 40 by omega))) rfl rfl rfl rfl ?_
 refine pF ?_
 refine ag_seq ?_
 refine qD ?_
 iterate 5 refine qA ?_
 refine qL ?_
 refine aq_pureE tOk (.r (.bool false)) rfl (by show AVal.r (.bool _) = _; exact eqB (decide_eq_false hlt)) rfl (by rfl) trivial ?_
 iterate 5 refine qA ?_
 refine aq_loadAs0 tOk (.r .nil) rfl rfl rfl rfl (ha_ptr (β := i + 10) rfl (get_ent 1 he (hi8) rfl rfl)) (by kernel_rfl) rfl rfl (.inl ⟨rfl, rfl⟩) ?_
 refine qA ?_
 refine aq_qd0 (qop_objR [51] (w_CB0 b) (by rintro _ _ ⟨rfl, rfl⟩; exact ⟨rfl, rfl⟩) rfl rfl (handed_of rfl rfl (by decide) ⟨rfl, rfl, rfl, trivial⟩) rfl rfl) (by kernel_rfl) rfl rfl rfl rfl ?_
 iterate 2 refine qA ?_
 refine qL ?_
 iterate 2 refine qA ?_
 refine qL ?_
 refine aq_qd0 (qop_subH (w_rootS R S es b.r hr) (fun _ _ h => h) rfl (rfl) (subH_rm0 (by show 2 ≤ 52; omega) rfl) (rfl)) (by kernel_rfl) rfl rfl rfl rfl ?_
 refine aq_pur (cV) rfl rfl rfl rfl rfl rfl rfl ?_
 refine qA ?_
 refine qE ?_
 refine vC ?_
 refine sS ?_
 refine ag_draw (Hs := hsL [⟨52, (51, some (.mixed ((bidC b).map .r))) :: rmT (rvT R S) es, false⟩, ⟨53, (52, some (.plain (bidC b))) :: (51, some (.mixed ((bidC b).map .r))) :: rmT (rvT R S) es, false⟩, ⟨53, (i + 10, some (.mixed (entC ea et (.sl 52 0 (0 + 1) 16)))) :: (52, some (.plain (bidC b))) :: (51, some (.mixed ((bidC b).map .r))) :: rmT (rvT R S) es, false⟩]) (K := 2) [44] (by kernel_rfl) (by kernel_rfl) ?_
 iterate 4 refine qA ?_
 refine aq_loadAs0 tOk (.r .nil) rfl rfl rfl rfl (ha_ptr (β := i + 10) (bd := entB i ⟨ea, et, []⟩) rfl (get_ent 1 he hi8 rfl rfl)) (by kernel_rfl) rfl rfl (.inl ⟨rfl, rfl⟩) ?_
 refine qL ?_
 refine aq_qd (fun _ => qop_buildRoK tOk (v := .ro 1 (bidC b)) (by kernel_rfl) (by kernel_rfl)) rfl rfl rfl rfl ?_
 refine aq_app tOk rfl rfl rfl rfl rfl rfl ?_ ?_
 ·refine ⟨⟨?_, ?_, ?_⟩, ⟨?_, ?_⟩, ⟨?_, ?_⟩, ?_⟩ <;> first | trivial | decide | omega | (simp; done) | (simp; omega) | (show 0 + _ * 16 ≤ List.length (bidsC _); rw [bidsC_len, List.length_cons]; omega) | (simp [bidC]; done)
 iterate 2 refine qA ?_
 refine aq_store tOk rfl (stepStore_told (β := i + 10) (blk := entB i ⟨ea, et, []⟩) rfl rfl rfl rfl rfl (get_ent 2 he hi8 rfl rfl) rfl rfl) rfl rfl rfl trivial ?_
 refine aq_nil rfl ?_
 refine ag_ent (g' := []) (h' := ⟨53, (i + 10, some (.mixed (entC ea et (.sl 52 0 (0 + 1) 16)))) :: (52, some (.plain (bidC b))) :: (51, some (.mixed ((bidC b).map .r))) :: rmT (rvT R S) es, false⟩) (ent_keep (h := ⟨53, (i + 10, some (.mixed (entC ea et (.sl 52 0 (0 + 1) 16)))) :: (52, some (.plain (bidC b))) :: (51, some (.mixed ((bidC b).map .r))) :: rmT (rvT R S) es, false⟩) trivial) ?_
 refine zB ?_
 refine pE ?_
 refine ag_retW (v := .r (.bool true)) tOk Tryz.func12 rfl rfl (by first | trivial | exact ⟨trivial, trivial⟩ | simp) (ent_bid (n := 51) (K := 52) (e := ⟨ea, et, []⟩) (g' := [(0, .r (.bool true))]) hl hi8 (by omega) rfl ⟨by omega, by show 52 < 53; omega⟩ b ?_ look_eq (fun j h1 h2 h3 => Eq.trans (look_ne (Ne.symm h2)) (Eq.trans (look_ne (by omega)) (Eq.trans (look_ne (by omega)) (rfl)))) ⟨⟨rfl, rfl⟩, trivial⟩ rfl) ?_
 ·exact (look_ne (by omega)).trans ((look_eq).trans (congrArg some (congrArg Body.plain (by show bidC b = bidsC ([] ++ [b]); simp [bidsC]))))
 exact ⟨rfl, rfl⟩
theorem w_BidL1 (R S : List UInt8) (es : List EV) (b : BidV) (now : Int) (hl : es.length ≤ 8) (i : Nat) (hf : fixA b.a es = some i) (ea : AskV) (et : Int) (p : BidV) (L : List BidV) (h25 : L.length + 1 ≤ 25) (he : es[i]? = some ⟨ea, et, (p :: L)⟩) (hlt : now > b.e)  : Spec Tryz.prog 12 [.ptr 0 0, bidA b, .r (.int .i64 now)] (rmH 40 (rvT R S) es) (fun v h' => v = .r (.bool false) ∧ h' = rmH 40 (rvT R S) es) := by
 have hi := fix_lt hf
 have hi8 : i < 8 := by omega
 refine spec_of_go (N := 47) Tryz.func12 rfl (by decide) rfl rfl ?_
 refine zB ?_
 refine pM ?_
 refine pG ?_
 iterate 2 refine pA ?_
 refine pB ?_
 refine ar_qd rfl (qop_subH (w_findHit (rv := (rvT R S)) hl hf) (fun _ _ h => h) rfl (rfl) (subH_pre (S := rmT (rvT R S) es) 1 (symOk_rm hl (by show 40 ≤ 40; omega)) rfl rfl rfl (by show 40 ≤ 41; omega)) (blt_of (show i + 10 < 40 by omega))) rfl rfl rfl rfl ?_
 refine pF ?_
 refine ag_seq ?_
 refine qD ?_
 iterate 5 refine qA ?_
 refine qL ?_
 refine aq_pureE tOk (.r (.bool true)) rfl (by show AVal.r (.bool _) = _; exact eqB (decide_eq_true hlt)) rfl (by rfl) trivial ?_
 iterate 2 refine qA ?_
 iterate 6 refine aq_skip rfl rfl rfl ?_
 iterate 2 refine qA ?_
 iterate 7 refine aq_skip rfl rfl rfl ?_
 refine qE ?_
 refine vB ?_
 refine zB ?_
 refine pE ?_
 refine ag_retW (v := .r (.bool false)) tOk Tryz.func12 rfl rfl (by first | trivial | exact ⟨trivial, trivial⟩ | simp) (ent_weakS (S := rmT (rvT R S) es) (n := 40) (g' := [(0, .r (.bool false))]) (h' := rmH 40 (rvT R S) es) [] 1 0 (symOk_rm hl (by omega)) rfl rfl rfl ?_ rfl rfl rfl rfl rfl rfl rfl ?_ rfl) ?_
 ·trivial
 ·exact ⟨⟨rfl, rfl⟩, trivial⟩
 exact ⟨rfl, rfl⟩
theorem w_BidD1 (R S : List UInt8) (es : List EV) (b : BidV) (now : Int) (hl : es.length ≤ 8) (i : Nat) (hf : fixA b.a es = some i) (ea : AskV) (et : Int) (p : BidV) (L : List BidV) (h25 : L.length + 1 ≤ 25) (he : es[i]? = some ⟨ea, et, (p :: L)⟩) (hlt : ¬ now > b.e) (hdp : (fixR b.r (p :: L)).isSome = true)  : Spec Tryz.prog 12 [.ptr 0 0, bidA b, .r (.int .i64 now)] (rmH 40 (rvT R S) es) (fun v h' => v = .r (.bool false) ∧ h' = rmH 40 (rvT R S) es) := by
 have hi := fix_lt hf
 have hi8 : i < 8 := by omega
 have cC := w_CBS (p :: L) (L.length + 1) rfl h25 b
 rw [hdp] at cC
 refine spec_of_go (N := 47) Tryz.func12 rfl (by decide) rfl rfl ?_
 refine zB ?_
 refine pM ?_
 refine pG ?_
 iterate 2 refine pA ?_
 refine pB ?_
 refine ar_qd rfl (qop_subH (w_findHit (rv := (rvT R S)) hl hf) (fun _ _ h => h) rfl (rfl) (subH_pre (S := rmT (rvT R S) es) 1 (symOk_rm hl (by show 40 ≤ 40; omega)) rfl rfl rfl (by show 40 ≤ 41; omega)) (blt_of (show i + 10 < 40 by omega))) rfl rfl rfl rfl ?_
 refine pF ?_
 refine ag_seq ?_
 refine qD ?_
 iterate 5 refine qA ?_
 refine qL ?_
 refine aq_pureE tOk (.r (.bool false)) rfl (by show AVal.r (.bool _) = _; exact eqB (decide_eq_false hlt)) rfl (by rfl) trivial ?_
 iterate 5 refine qA ?_
 refine aq_loadAs0 tOk (.sl (i + 20) 0 (L.length + 1) 16) rfl rfl rfl rfl (ha_ptr (β := i + 10) rfl (get_ent 1 he (hi8) rfl rfl)) (by kernel_rfl) rfl rfl (.inl ⟨rfl, rfl⟩) ?_
 refine qA ?_
 refine aq_qd0 (qop_objR [i + 20, 40] (cC) (by rintro _ _ ⟨rfl, rfl⟩; exact ⟨rfl, rfl⟩) rfl rfl (handed_of rfl (by show (Nat.blt (i + 20) 41 && (Nat.blt 40 41 && true)) = true; rw [blt_of (by omega)]; rfl) (by simp; omega) ⟨rfl, rfl, get_bds 1 he hi8 rfl rfl, rfl, rfl, rfl, trivial⟩) rfl rfl) (by kernel_rfl) rfl rfl rfl rfl ?_
 iterate 2 refine qA ?_
 iterate 7 refine aq_skip rfl rfl rfl ?_
 refine qE ?_
 refine vB ?_
 refine zB ?_
 refine pE ?_
 refine ag_retW (v := .r (.bool false)) tOk Tryz.func12 rfl rfl (by first | trivial | exact ⟨trivial, trivial⟩ | simp) (ent_weakS (S := rmT (rvT R S) es) (n := 40) (g' := [(0, .r (.bool false))]) (h' := rmH 40 (rvT R S) es) [] 1 0 (symOk_rm hl (by omega)) rfl rfl rfl ?_ rfl rfl rfl rfl rfl rfl rfl ?_ rfl) ?_
 ·trivial
 ·exact ⟨⟨rfl, rfl⟩, trivial⟩
 exact ⟨rfl, rfl⟩
theorem w_BidB1 (R S : List UInt8) (es : List EV) (b : BidV) (now : Int) (hl : es.length ≤ 8) (i : Nat) (hf : fixA b.a es = some i) (ea : AskV) (et : Int) (p : BidV) (L : List BidV) (h25 : L.length + 1 ≤ 25) (he : es[i]? = some ⟨ea, et, (p :: L)⟩) (hb : b.ok) (hr : -9223372036854775808 ≤ b.r ∧ b.r ≤ 9223372036854775807) (hlt : ¬ now > b.e) (hdp : (fixR b.r (p :: L)).isSome = false) (hv : valB (rtO R S b.r) b = false)  : Spec Tryz.prog 12 [.ptr 0 0, bidA b, .r (.int .i64 now)] (rmH 40 (rvT R S) es) (fun v h' => v = .r (.bool false) ∧ h' = rmH 40 (rvT R S) es) := by
 have hi := fix_lt hf
 have hi8 : i < 8 := by omega
 have cV := w_bValid b hb (rtO R S b.r)
 rw [hv] at cV
 have cC := w_CBS (p :: L) (L.length + 1) rfl h25 b
 rw [hdp] at cC
 refine spec_of_go (N := 47) Tryz.func12 rfl (by decide) rfl rfl ?_
 refine zB ?_
 refine pM ?_
 refine pG ?_
 iterate 2 refine pA ?_
 refine pB ?_
 refine ar_qd rfl (qop_subH (w_findHit (rv := (rvT R S)) hl hf) (fun _ _ h => h) rfl (rfl) (subH_pre (S := rmT (rvT R S) es) 1 (symOk_rm hl (by show 40 ≤ 40; omega)) rfl rfl rfl (by show 40 ≤ 41; omega)) (blt_of (show i + 10 < 40 by omega))) rfl rfl rfl rfl ?_
 refine pF ?_
 refine ag_seq ?_
 refine qD ?_
 iterate 5 refine qA ?_
 refine qL ?_
 refine aq_pureE tOk (.r (.bool false)) rfl (by show AVal.r (.bool _) = _; exact eqB (decide_eq_false hlt)) rfl (by rfl) trivial ?_
 iterate 5 refine qA ?_
 refine aq_loadAs0 tOk (.sl (i + 20) 0 (L.length + 1) 16) rfl rfl rfl rfl (ha_ptr (β := i + 10) rfl (get_ent 1 he (hi8) rfl rfl)) (by kernel_rfl) rfl rfl (.inl ⟨rfl, rfl⟩) ?_
 refine qA ?_
 refine aq_qd0 (qop_objR [i + 20, 40] (cC) (by rintro _ _ ⟨rfl, rfl⟩; exact ⟨rfl, rfl⟩) rfl rfl (handed_of rfl (by show (Nat.blt (i + 20) 41 && (Nat.blt 40 41 && true)) = true; rw [blt_of (by omega)]; rfl) (by simp; omega) ⟨rfl, rfl, get_bds 1 he hi8 rfl rfl, rfl, rfl, rfl, trivial⟩) rfl rfl) (by kernel_rfl) rfl rfl rfl rfl ?_
 iterate 2 refine qA ?_
 refine qL ?_
 iterate 2 refine qA ?_
 refine qL ?_
 refine aq_qd0 (qop_subH (w_rootS R S es b.r hr) (fun _ _ h => h) rfl (rfl) (subH_rm0 (by show 2 ≤ 41; omega) rfl) (rfl)) (by kernel_rfl) rfl rfl rfl rfl ?_
 refine aq_pur (cV) rfl rfl rfl rfl rfl rfl rfl ?_
 refine qA ?_
 refine qE ?_
 refine vB ?_
 refine zB ?_
 refine pE ?_
 refine ag_retW (v := .r (.bool false)) tOk Tryz.func12 rfl rfl (by first | trivial | exact ⟨trivial, trivial⟩ | simp) (ent_weakS (S := rmT (rvT R S) es) (n := 40) (g' := [(0, .r (.bool false))]) (h' := rmH 40 (rvT R S) es) [] 1 0 (symOk_rm hl (by omega)) rfl rfl rfl ?_ rfl rfl rfl rfl rfl rfl rfl ?_ rfl) ?_
 ·trivial
 ·exact ⟨⟨rfl, rfl⟩, trivial⟩
 exact ⟨rfl, rfl⟩
theorem w_BidO1 (R S : List UInt8) (es : List EV) (b : BidV) (now : Int) (hl : es.length ≤ 8) (i : Nat) (hf : fixA b.a es = some i) (ea : AskV) (et : Int) (p : BidV) (L : List BidV) (h25 : L.length + 1 ≤ 25) (he : es[i]? = some ⟨ea, et, (p :: L)⟩) (hb : b.ok) (hr : -9223372036854775808 ≤ b.r ∧ b.r ≤ 9223372036854775807) (hlt : ¬ now > b.e) (hdp : (fixR b.r (p :: L)).isSome = false) (hv : valB (rtO R S b.r) b = true)  : Spec Tryz.prog 12 [.ptr 0 0, bidA b, .r (.int .i64 now)] (rmH 51 (rvT R S) es) (fun v h' => v = .r (.bool true) ∧ h' = bidH 51 (rvT R S) es i ⟨ea, et, (p :: L)⟩ b) := by
 have hi := fix_lt hf
 have hi8 : i < 8 := by omega
 have cV := w_bValid b hb (rtO R S b.r)
 rw [hv] at cV
 have cC := w_CBS (p :: L) (L.length + 1) rfl h25 b
 rw [hdp] at cC
 refine spec_of_go (N := 47) Tryz.func12 rfl (by decide) rfl rfl ?_
 refine zB ?_
 refine pM ?_
 refine pG ?_
 iterate 2 refine pA ?_
 refine pB ?_
 refine ar_qd rfl (qop_subH (w_findHit (rv := (rvT R S)) hl hf) (fun _ _ h => h) rfl (rfl) (subH_pre (S := rmT (rvT R S) es) 1 (symOk_rm hl (by show 40 ≤ 40; omega)) rfl rfl rfl (by show 40 ≤ 52; omega)) (blt_of (show i + 10 < 40 by omega))) rfl rfl rfl rfl ?_
 refine pF ?_
 refine ag_seq ?_
 refine qD ?_
 iterate 5 refine qA ?_
 refine qL ?_
 refine aq_pureE tOk (.r (.bool false)) rfl (by show AVal.r (.bool _) = _; exact eqB (decide_eq_false hlt)) rfl (by rfl) trivial ?_
 iterate 5 refine qA ?_
 refine aq_loadAs0 tOk (.sl (i + 20) 0 (L.length + 1) 16) rfl rfl rfl rfl (ha_ptr (β := i + 10) rfl (get_ent 1 he (hi8) rfl rfl)) (by kernel_rfl) rfl rfl (.inl ⟨rfl, rfl⟩) ?_
 refine qA ?_
 refine aq_qd0 (qop_objR [i + 20, 51] (cC) (by rintro _ _ ⟨rfl, rfl⟩; exact ⟨rfl, rfl⟩) rfl rfl (handed_of rfl (by show (Nat.blt (i + 20) 52 && (Nat.blt 51 52 && true)) = true; rw [blt_of (by omega)]; rfl) (by simp; omega) ⟨rfl, rfl, get_bds 1 he hi8 rfl rfl, rfl, rfl, rfl, trivial⟩) rfl rfl) (by kernel_rfl) rfl rfl rfl rfl ?_
 iterate 2 refine qA ?_
 refine qL ?_
 iterate 2 refine qA ?_
 refine qL ?_
 refine aq_qd0 (qop_subH (w_rootS R S es b.r hr) (fun _ _ h => h) rfl (rfl) (subH_rm0 (by show 2 ≤ 52; omega) rfl) (rfl)) (by kernel_rfl) rfl rfl rfl rfl ?_
 refine aq_pur (cV) rfl rfl rfl rfl rfl rfl rfl ?_
 refine qA ?_
 refine qE ?_
 refine vC ?_
 refine sS ?_
 refine ag_ent (ent_mvb (n := 51) (S := []) (g' := [(0, .ptr 0 0), (4, .ptr 51 0), (7, .ptr (i + 10) 0)]) hl hi8 (by omega) rfl (bx := .mixed ((bidC b).map .r)) rfl he rfl rfl ?_) ?_
 ·exact ⟨⟨rfl, rfl⟩, ⟨rfl, rfl⟩, ⟨blt_of (by omega), by show AVal.ptr (rhoN _ _ (i + 10)) 0 = _; rw [rhoN_ne (by omega)]; rfl⟩, trivial⟩
 refine ag_draw (Hs := hsL [⟨53, (52, some (.plain (bidsC (p :: L)))) :: (51, some (.mixed ((bidC b).map .r))) :: (i + 20, none) :: (i + 10, some (.mixed (entC ea et (.sl 52 0 (L.length + 1) 16)))) :: rmT (rvT R S) es, false⟩, ⟨54, (53, some (.plain (cutA (bidsC (p :: L)) 0 ((L.length + 1) * 16) ++ bidC b))) :: (52, none) :: (52, some (.plain (bidsC (p :: L)))) :: (51, some (.mixed ((bidC b).map .r))) :: (i + 20, none) :: (i + 10, some (.mixed (entC ea et (.sl 52 0 (L.length + 1) 16)))) :: rmT (rvT R S) es, false⟩, ⟨54, (i + 10, some (.mixed (entC ea et (.sl 53 0 (L.length + 1 + 1) 16)))) :: (53, some (.plain (cutA (bidsC (p :: L)) 0 ((L.length + 1) * 16) ++ bidC b))) :: (52, none) :: (52, some (.plain (bidsC (p :: L)))) :: (51, some (.mixed ((bidC b).map .r))) :: (i + 20, none) :: (i + 10, some (.mixed (entC ea et (.sl 52 0 (L.length + 1) 16)))) :: rmT (rvT R S) es, false⟩]) (K := 2) [44] (by kernel_rfl) (by kernel_rfl) ?_
 iterate 4 refine qA ?_
 refine aq_loadAs0 tOk (.sl 52 0 (L.length + 1) 16) rfl rfl rfl rfl (ha_ptr (β := i + 10) (bd := .mixed (entC ea et (.sl 52 0 (L.length + 1) 16))) rfl ((look_ne (by omega)).trans ((look_ne (by omega)).trans ((look_ne (by omega)).trans look_eq)))) (by kernel_rfl) rfl rfl (.inl ⟨rfl, rfl⟩) ?_
 refine qL ?_
 refine aq_qd (fun _ => qop_buildRoK tOk (v := .ro 1 (bidC b)) (by kernel_rfl) (by kernel_rfl)) rfl rfl rfl rfl ?_
 refine aq_app tOk rfl rfl rfl rfl rfl rfl ?_ ?_
 ·refine ⟨⟨?_, ?_, ?_⟩, ⟨?_, ?_⟩, ⟨?_, ?_⟩, ?_⟩ <;> first | trivial | decide | omega | (simp; done) | (simp; omega) | (show 0 + _ * 16 ≤ List.length (bidsC _); rw [bidsC_len, List.length_cons]; omega) | (simp [bidC]; done)
 iterate 2 refine qA ?_
 refine aq_store tOk rfl (stepStore_told (β := i + 10) (blk := .mixed (entC ea et (.sl 52 0 (L.length + 1) 16))) rfl rfl rfl rfl rfl ((look_ne (by omega)).trans ((look_ne (by omega)).trans ((look_ne (by omega)).trans ((look_ne (by omega)).trans ((look_ne (by omega)).trans look_eq))))) rfl rfl) rfl rfl rfl trivial ?_
 refine aq_nil rfl ?_
 refine ag_ent (g' := []) (h' := ⟨54, (i + 10, some (.mixed (entC ea et (.sl 53 0 (L.length + 1 + 1) 16)))) :: (53, some (.plain (cutA (bidsC (p :: L)) 0 ((L.length + 1) * 16) ++ bidC b))) :: (52, none) :: (52, some (.plain (bidsC (p :: L)))) :: (51, some (.mixed ((bidC b).map .r))) :: (i + 20, none) :: (i + 10, some (.mixed (entC ea et (.sl 52 0 (L.length + 1) 16)))) :: rmT (rvT R S) es, false⟩) (ent_keep (h := ⟨54, (i + 10, some (.mixed (entC ea et (.sl 53 0 (L.length + 1 + 1) 16)))) :: (53, some (.plain (cutA (bidsC (p :: L)) 0 ((L.length + 1) * 16) ++ bidC b))) :: (52, none) :: (52, some (.plain (bidsC (p :: L)))) :: (51, some (.mixed ((bidC b).map .r))) :: (i + 20, none) :: (i + 10, some (.mixed (entC ea et (.sl 52 0 (L.length + 1) 16)))) :: rmT (rvT R S) es, false⟩) trivial) ?_
 refine zB ?_
 refine pE ?_
 refine ag_retW (v := .r (.bool true)) tOk Tryz.func12 rfl rfl (by first | trivial | exact ⟨trivial, trivial⟩ | simp) (ent_bid (n := 51) (K := 53) (e := ⟨ea, et, (p :: L)⟩) (g' := [(0, .r (.bool true))]) hl hi8 (by omega) rfl ⟨by omega, by show 53 < 54; omega⟩ b ?_ look_eq (fun j h1 h2 h3 => Eq.trans (look_ne (Ne.symm h2)) (Eq.trans (look_ne (by omega)) (Eq.trans (look_ne (by omega)) (Eq.trans (look_ne (by omega)) (Eq.trans (look_ne (by omega)) (Eq.trans (look_ne (Ne.symm h3)) (Eq.trans (look_ne (Ne.symm h2)) (rfl)))))))) ⟨⟨rfl, rfl⟩, trivial⟩ rfl) ?_
 ·exact (look_ne (by omega)).trans ((look_eq).trans (congrArg some (congrArg Body.plain (by show cutA (bidsC (p :: L)) 0 ((L.length + 1) * 16) ++ bidC b = bidsC ((p :: L) ++ [b]); rw [bidsC_app, cutA_eq, List.drop_zero, List.take_of_length_le (by rw [bidsC_len]; exact Nat.le_refl _)]; simp [bidsC]))))
 exact ⟨rfl, rfl⟩
end Go.Proofs.YtccdhgmkjakjkaaGreat
