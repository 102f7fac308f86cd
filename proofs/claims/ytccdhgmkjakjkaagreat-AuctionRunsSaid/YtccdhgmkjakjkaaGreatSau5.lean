/-
  WALKS: auctions of any size: Best, and what the law says it is. (Printed by gen.py out of w_sau5.py.)
-/
import Derived.Test.YtccdhgmkjakjkaaGreatSau4
namespace Go.Proofs.YtccdhgmkjakjkaaGreat
open Go
set_option maxRecDepth 20000
set_option linter.unusedVariables false
set_option linter.unusedVariables false
set_option linter.unusedSimpArgs false
def stepB (now : Int) (acc : BidV × Bool) (p : BidV) : BidV × Bool := if now ≤ p.e ∧ (acc.2 = false ∨ betV p acc.1 = true) then (p, true) else acc
def bfold (now : Int) (L : List BidV) : BidV × Bool := L.foldl (stepB now) (bid0, false)
theorem bfold_next {now : Int} {L : List BidV} {k : Nat} {p : BidV} (h : L[k]? = some p) : bfold now (L.take (k + 1)) = stepB now (bfold now (L.take k)) p := by
 rw [List.take_add_one, h]; simp [bfold]
def bestE (now : Int) (e : EV) : BidV × Bool := if now < e.t ∨ now - e.t < 1 then (bid0, false) else bfold now e.L
theorem bids_cell : ∀ {L : List BidV} {i j : Nat} {p : BidV}, L[i]? = some p → j < 16 → (bidsC L)[i * 16 + j]? = (bidC p)[j]?
 | [], _, _, _, h, _ => by simp at h
 | b :: L, 0, j, p, h, hj => by
  simp at h; subst h
  have h1 : bidsC (b :: L) = bidC b ++ bidsC L := rfl
  have h2 : (bidC b).length = 16 := rfl
  rw [h1, Nat.zero_mul, Nat.zero_add, List.getElem?_append_left (by omega)]
 | b :: L, i + 1, j, p, h, hj => by
  have h1 : bidsC (b :: L) = bidC b ++ bidsC L := rfl
  have h2 : (bidC b).length = 16 := rfl
  rw [h1, List.getElem?_append_right (by omega), show (i + 1) * 16 + j - (bidC b).length = i * 16 + j by omega]
  exact bids_cell (by simpa using h) hj
theorem bids_load1 {ty : Ty} {L : List BidV} {i off j : Nat} {p : BidV} {v : RVal} (hL : L[i]? = some p) (ho : off = i * 16 + j) (hj : j < 16) (ha : ty.k.agg = false) (hv : (bidC p)[j]? = some v) : LoadsTo ty (Body.plain (bidsC L)).cells off (.r v) := by
 refine .inl ⟨ha, ?_⟩
 rw [ho, Body.cells, List.getElem?_map, bids_cell hL hj, hv]; rfl
theorem w_BestMiss (rv : RVal) (es : List EV) (a : AskV) (now d : Int) (hl : es.length ≤ 8) (hf : fixA a es = none) : Spec Tryz.prog 13 [.ptr 0 0, askA a, .r (.int .i64 now), .r (.int .i64 d)] (rmH 40 rv es) (fun v h' => v = .tuple [bidA bid0, .r (.bool false)] ∧ h' = rmH 40 rv es) := by
 refine spec_of_go (N := 66) Tryz.func13 rfl (by decide) rfl rfl ?_
 refine zB ?_
 refine pM ?_
 refine pN ?_ ?_
 ·simp
 refine pG ?_
 refine pA ?_
 refine pB ?_
 refine ar_qd rfl (qop_subH (w_findMiss (rv := rv) hl hf) (fun _ _ h => h) rfl (rfl) (subH_pre (S := rmT rv es) 2 (symOk_rm hl (by show 40 ≤ 40; omega)) rfl rfl rfl (by show 40 ≤ 42; omega)) (rfl)) rfl rfl rfl rfl ?_
 refine pF ?_
 refine ag_seq ?_
 refine qD ?_
 iterate 3 refine qA ?_
 iterate 6 refine aq_skip rfl rfl rfl ?_
 iterate 2 refine qA ?_
 iterate 9 refine aq_skip rfl rfl rfl ?_
 refine qE ?_
 refine vB ?_
 refine zB ?_
 refine pC ?_ ?_
 ·simp
 refine ar_store (h' := ⟨42, (41, some (.mixed ((bidC bid0).map .r))) :: (41, some (.mixed ((bidC bid0).map .r))) :: (40, some (.mixed ((askC a).map .r))) :: rmT rv es, false⟩) (c := True) tOk (by kernel_rfl) rfl rfl trivial ?_
 refine pE ?_
 refine ag_retW (v := .tuple [bidA bid0, .r (.bool false)]) tOk Tryz.func13 rfl rfl (by first | trivial | exact ⟨trivial, trivial⟩ | simp) (ent_weakS (S := rmT rv es) (n := 40) (g' := [(0, .tuple [bidA bid0, .r (.bool false)])]) (h' := rmH 40 rv es) [] 3 0 (symOk_rm hl (by omega)) rfl rfl rfl ?_ rfl rfl rfl rfl rfl rfl rfl ?_ rfl) ?_
 ·trivial
 ·exact ⟨⟨rfl, rfl⟩, trivial⟩
 exact ⟨rfl, rfl⟩
theorem w_BestHitA (rv : RVal) (es : List EV) (a : AskV) (now d : Int) (hl : es.length ≤ 8) (i : Nat) (hf : fixA a es = some i) (ea : AskV) (et : Int) (L : List BidV) (he : es[i]? = some ⟨ea, et, L⟩) (het : 0 ≤ et ∧ et ≤ 1099511627776) (hn : -9223372036854775808 ≤ now ∧ now ≤ 9223372036854775807) (hl1 : now < et) : Spec Tryz.prog 13 [.ptr 0 0, askA a, .r (.int .i64 now), .r (.int .i64 d)] (rmH 40 rv es) (fun v h' => v = .tuple [bidA bid0, .r (.bool false)] ∧ h' = rmH 40 rv es) := by
 have hi := fix_lt hf
 have hi8 : i < 8 := by omega
 refine spec_of_go (N := 66) Tryz.func13 rfl (by decide) rfl rfl ?_
 refine zB ?_
 refine pM ?_
 refine pN ?_ ?_
 ·simp
 refine pG ?_
 refine pA ?_
 refine pB ?_
 refine ar_qd rfl (qop_subH (w_findHit (rv := rv) hl hf) (fun _ _ h => h) rfl (rfl) (subH_pre (S := rmT rv es) 2 (symOk_rm hl (by show 40 ≤ 40; omega)) rfl rfl rfl (by show 40 ≤ 42; omega)) (blt_of (show i + 10 < 40 by omega))) rfl rfl rfl rfl ?_
 refine pF ?_
 refine ag_seq ?_
 refine qD ?_
 iterate 7 refine qA ?_
 refine aq_loadAs0 tOk (.r (.int .i64 et)) rfl rfl rfl rfl (ha_ptr (β := i + 10) rfl (get_ent 2 he (hi8) rfl rfl)) (by kernel_rfl) rfl rfl (.inl ⟨rfl, rfl⟩) ?_
 refine aq_pureE tOk (.r (.bool true)) rfl (by show AVal.r (.bool _) = _; exact eqB (decide_eq_true hl1)) rfl (by rfl) trivial ?_
 iterate 2 refine qA ?_
 iterate 9 refine aq_skip rfl rfl rfl ?_
 refine qE ?_
 refine vB ?_
 refine zB ?_
 refine pC ?_ ?_
 ·simp
 refine ar_store (h' := ⟨42, (41, some (.mixed ((bidC bid0).map .r))) :: (41, some (.mixed ((bidC bid0).map .r))) :: (40, some (.mixed ((askC a).map .r))) :: rmT rv es, false⟩) (c := True) tOk (by kernel_rfl) rfl rfl trivial ?_
 refine pE ?_
 refine ag_retW (v := .tuple [bidA bid0, .r (.bool false)]) tOk Tryz.func13 rfl rfl (by first | trivial | exact ⟨trivial, trivial⟩ | simp) (ent_weakS (S := rmT rv es) (n := 40) (g' := [(0, .tuple [bidA bid0, .r (.bool false)])]) (h' := rmH 40 rv es) [] 3 0 (symOk_rm hl (by omega)) rfl rfl rfl ?_ rfl rfl rfl rfl rfl rfl rfl ?_ rfl) ?_
 ·trivial
 ·exact ⟨⟨rfl, rfl⟩, trivial⟩
 exact ⟨rfl, rfl⟩
theorem w_BestHitB (rv : RVal) (es : List EV) (a : AskV) (now d : Int) (hl : es.length ≤ 8) (i : Nat) (hf : fixA a es = some i) (ea : AskV) (et : Int) (L : List BidV) (he : es[i]? = some ⟨ea, et, L⟩) (het : 0 ≤ et ∧ et ≤ 1099511627776) (hn : -9223372036854775808 ≤ now ∧ now ≤ 9223372036854775807) (hl1 : ¬ now < et) (hl2 : now - et < 1) : Spec Tryz.prog 13 [.ptr 0 0, askA a, .r (.int .i64 now), .r (.int .i64 d)] (rmH 40 rv es) (fun v h' => v = .tuple [bidA bid0, .r (.bool false)] ∧ h' = rmH 40 rv es) := by
 have hi := fix_lt hf
 have hi8 : i < 8 := by omega
 refine spec_of_go (N := 66) Tryz.func13 rfl (by decide) rfl rfl ?_
 refine zB ?_
 refine pM ?_
 refine pN ?_ ?_
 ·simp
 refine pG ?_
 refine pA ?_
 refine pB ?_
 refine ar_qd rfl (qop_subH (w_findHit (rv := rv) hl hf) (fun _ _ h => h) rfl (rfl) (subH_pre (S := rmT rv es) 2 (symOk_rm hl (by show 40 ≤ 40; omega)) rfl rfl rfl (by show 40 ≤ 42; omega)) (blt_of (show i + 10 < 40 by omega))) rfl rfl rfl rfl ?_
 refine pF ?_
 refine ag_seq ?_
 refine qD ?_
 iterate 7 refine qA ?_
 refine aq_loadAs0 tOk (.r (.int .i64 et)) rfl rfl rfl rfl (ha_ptr (β := i + 10) rfl (get_ent 2 he (hi8) rfl rfl)) (by kernel_rfl) rfl rfl (.inl ⟨rfl, rfl⟩) ?_
 refine aq_pureE tOk (.r (.bool false)) rfl (by show AVal.r (.bool _) = _; exact eqB (decide_eq_false hl1)) rfl (by rfl) trivial ?_
 iterate 6 refine qA ?_
 refine aq_loadAs0 tOk (.r (.int .i64 et)) rfl rfl rfl rfl (ha_ptr (β := i + 10) rfl (get_ent 2 he (hi8) rfl rfl)) (by kernel_rfl) rfl rfl (.inl ⟨rfl, rfl⟩) ?_
 refine qB ?_ ?_
 ·unfold inI64; omega
 refine qA ?_
 refine aq_pur (w_Window d) rfl rfl rfl rfl rfl rfl rfl ?_
 refine aq_pureE tOk (.r (.bool true)) rfl (by show AVal.r (.bool _) = _; exact eqB (decide_eq_true hl2)) rfl (by rfl) trivial ?_
 refine qE ?_
 refine vB ?_
 refine zB ?_
 refine pC ?_ ?_
 ·simp
 refine ar_store (h' := ⟨42, (41, some (.mixed ((bidC bid0).map .r))) :: (41, some (.mixed ((bidC bid0).map .r))) :: (40, some (.mixed ((askC a).map .r))) :: rmT rv es, false⟩) (c := True) tOk (by kernel_rfl) rfl rfl trivial ?_
 refine pE ?_
 refine ag_retW (v := .tuple [bidA bid0, .r (.bool false)]) tOk Tryz.func13 rfl rfl (by first | trivial | exact ⟨trivial, trivial⟩ | simp) (ent_weakS (S := rmT rv es) (n := 40) (g' := [(0, .tuple [bidA bid0, .r (.bool false)])]) (h' := rmH 40 rv es) [] 3 0 (symOk_rm hl (by omega)) rfl rfl rfl ?_ rfl rfl rfl rfl rfl rfl rfl ?_ rfl) ?_
 ·trivial
 ·exact ⟨⟨rfl, rfl⟩, trivial⟩
 exact ⟨rfl, rfl⟩
theorem w_BestHitC (rv : RVal) (es : List EV) (a : AskV) (now d : Int) (hl : es.length ≤ 8) (i : Nat) (hf : fixA a es = some i) (ea : AskV) (et : Int) (he : es[i]? = some ⟨ea, et, []⟩) (het : 0 ≤ et ∧ et ≤ 1099511627776) (hn : -9223372036854775808 ≤ now ∧ now ≤ 9223372036854775807) (hl1 : ¬ now < et) (hl2 : ¬ now - et < 1) : Spec Tryz.prog 13 [.ptr 0 0, askA a, .r (.int .i64 now), .r (.int .i64 d)] (rmH 40 rv es) (fun v h' => v = .tuple [bidA bid0, .r (.bool false)] ∧ h' = rmH 40 rv es) := by
 have hi := fix_lt hf
 have hi8 : i < 8 := by omega
 refine spec_of_go (N := 66) Tryz.func13 rfl (by decide) rfl rfl ?_
 refine zB ?_
 refine pM ?_
 refine pN ?_ ?_
 ·simp
 refine pG ?_
 refine pA ?_
 refine pB ?_
 refine ar_qd rfl (qop_subH (w_findHit (rv := rv) hl hf) (fun _ _ h => h) rfl (rfl) (subH_pre (S := rmT rv es) 2 (symOk_rm hl (by show 40 ≤ 40; omega)) rfl rfl rfl (by show 40 ≤ 42; omega)) (blt_of (show i + 10 < 40 by omega))) rfl rfl rfl rfl ?_
 refine pF ?_
 refine ag_seq ?_
 refine qD ?_
 iterate 7 refine qA ?_
 refine aq_loadAs0 tOk (.r (.int .i64 et)) rfl rfl rfl rfl (ha_ptr (β := i + 10) rfl (get_ent 2 he (hi8) rfl rfl)) (by kernel_rfl) rfl rfl (.inl ⟨rfl, rfl⟩) ?_
 refine aq_pureE tOk (.r (.bool false)) rfl (by show AVal.r (.bool _) = _; exact eqB (decide_eq_false hl1)) rfl (by rfl) trivial ?_
 iterate 6 refine qA ?_
 refine aq_loadAs0 tOk (.r (.int .i64 et)) rfl rfl rfl rfl (ha_ptr (β := i + 10) rfl (get_ent 2 he (hi8) rfl rfl)) (by kernel_rfl) rfl rfl (.inl ⟨rfl, rfl⟩) ?_
 refine qB ?_ ?_
 ·unfold inI64; omega
 refine qA ?_
 refine aq_pur (w_Window d) rfl rfl rfl rfl rfl rfl rfl ?_
 refine aq_pureE tOk (.r (.bool false)) rfl (by show AVal.r (.bool _) = _; exact eqB (decide_eq_false hl2)) rfl (by rfl) trivial ?_
 refine qE ?_
 refine vC ?_
 refine ag_skip ?_
 refine zB ?_
 refine pN ?_ ?_
 ·simp
 refine zC ?_
 refine pF ?_
 refine zB ?_
 iterate 3 refine pA ?_
 refine ar_loadAs tOk (.r .nil) rfl rfl rfl rfl (ha_ptr (β := i + 10) rfl (get_ent 3 he (hi8) rfl rfl)) rfl rfl (.inl ⟨rfl, rfl⟩) ?_
 refine pA ?_
 refine pE ?_
 refine ag_block ?_
 refine ag_unroll ?_
 refine zB ?_
 refine pF ?_
 refine vD ?_
 refine ag_exit rfl ?_
 refine zB ?_
 refine pB ?_
 refine pA ?_
 refine ar_store (h' := ⟨43, (41, some (.mixed ((bidC bid0).map .r))) :: (42, some (.mixed ((bidC bid0).map .r))) :: (41, some (.mixed ((bidC bid0).map .r))) :: (40, some (.mixed ((askC a).map .r))) :: rmT rv es, false⟩) (c := True) tOk (by kernel_rfl) rfl rfl trivial ?_
 refine pE ?_
 refine ag_retW (v := .tuple [bidA bid0, .r (.bool false)]) tOk Tryz.func13 rfl rfl (by first | trivial | exact ⟨trivial, trivial⟩ | simp) (ent_weakS (S := rmT rv es) (n := 40) (g' := [(0, .tuple [bidA bid0, .r (.bool false)])]) (h' := rmH 40 rv es) [] 4 0 (symOk_rm hl (by omega)) rfl rfl rfl ?_ rfl rfl rfl rfl rfl rfl rfl ?_ rfl) ?_
 ·trivial
 ·exact ⟨⟨rfl, rfl⟩, trivial⟩
 exact ⟨rfl, rfl⟩
def stsTD_0 (rv : RVal) (es : List EV) (a : AskV) (now : Int) (i : Nat) (p0 : BidV) (L : List BidV) : Nat × BidV × Bool → Regs × Hp := fun ⟨k, c, f⟩ => ([(2, .r (.int .i64 now)), (8, .ptr 41 0), (11, .ptr 42 0), (12, .r (.bool f)), (43, .sl (i + 20) 0 (L.length + 1) 16), (44, .r (.int .i64 ((L.length + 1 : Nat) : Int))), (45, .r (.int .i64 (k : Int)))], ⟨43, (42, some (.mixed ((bidC c).map .r))) :: (41, some (.mixed ((bidC bid0).map .r))) :: (40, some (.mixed ((askC a).map .r))) :: rmT rv es, false⟩)
def prsTD_0 (rv : RVal) (es : List EV) (a : AskV) (now : Int) (i : Nat) (p0 : BidV) (L : List BidV) : Nat × BidV × Bool → Prop := fun ⟨k, c, f⟩ => k ≤ L.length + 1 ∧ (c, f) = bfold now ((p0 :: L).take k)
theorem w_BestHitD (rv : RVal) (es : List EV) (a : AskV) (now d : Int) (hl : es.length ≤ 8) (i : Nat) (hf : fixA a es = some i) (ea : AskV) (et : Int) (p0 : BidV) (L : List BidV) (h25 : L.length + 1 ≤ 25) (he : es[i]? = some ⟨ea, et, (p0 :: L)⟩) (het : 0 ≤ et ∧ et ≤ 1099511627776) (hn : -9223372036854775808 ≤ now ∧ now ≤ 9223372036854775807) (hl1 : ¬ now < et) (hl2 : ¬ now - et < 1) : Spec Tryz.prog 13 [.ptr 0 0, askA a, .r (.int .i64 now), .r (.int .i64 d)] (rmH 40 rv es) (fun v h' => v = .tuple [bidA (bfold now (p0 :: L)).1, .r (.bool (bfold now (p0 :: L)).2)] ∧ h' = rmH 40 rv es) := by
 have hi := fix_lt hf
 have hi8 : i < 8 := by omega
 refine spec_of_go (N := 66) Tryz.func13 rfl (by decide) rfl rfl ?_
 refine zB ?_
 refine pM ?_
 refine pN ?_ ?_
 ·simp
 refine pG ?_
 refine pA ?_
 refine pB ?_
 refine ar_qd rfl (qop_subH (w_findHit (rv := rv) hl hf) (fun _ _ h => h) rfl (rfl) (subH_pre (S := rmT rv es) 2 (symOk_rm hl (by show 40 ≤ 40; omega)) rfl rfl rfl (by show 40 ≤ 42; omega)) (blt_of (show i + 10 < 40 by omega))) rfl rfl rfl rfl ?_
 refine pF ?_
 refine ag_seq ?_
 refine qD ?_
 iterate 7 refine qA ?_
 refine aq_loadAs0 tOk (.r (.int .i64 et)) rfl rfl rfl rfl (ha_ptr (β := i + 10) rfl (get_ent 2 he (hi8) rfl rfl)) (by kernel_rfl) rfl rfl (.inl ⟨rfl, rfl⟩) ?_
 refine aq_pureE tOk (.r (.bool false)) rfl (by show AVal.r (.bool _) = _; exact eqB (decide_eq_false hl1)) rfl (by rfl) trivial ?_
 iterate 6 refine qA ?_
 refine aq_loadAs0 tOk (.r (.int .i64 et)) rfl rfl rfl rfl (ha_ptr (β := i + 10) rfl (get_ent 2 he (hi8) rfl rfl)) (by kernel_rfl) rfl rfl (.inl ⟨rfl, rfl⟩) ?_
 refine qB ?_ ?_
 ·unfold inI64; omega
 refine qA ?_
 refine aq_pur (w_Window d) rfl rfl rfl rfl rfl rfl rfl ?_
 refine aq_pureE tOk (.r (.bool false)) rfl (by show AVal.r (.bool _) = _; exact eqB (decide_eq_false hl2)) rfl (by rfl) trivial ?_
 refine qE ?_
 refine vC ?_
 refine ag_skip ?_
 refine zB ?_
 refine pN ?_ ?_
 ·simp
 refine zC ?_
 refine pF ?_
 refine zB ?_
 iterate 3 refine pA ?_
 refine ar_loadAs tOk (.sl (i + 20) 0 (L.length + 1) 16) rfl rfl rfl rfl (ha_ptr (β := i + 10) rfl (get_ent 3 he (hi8) rfl rfl)) rfl rfl (.inl ⟨rfl, rfl⟩) ?_
 refine pA ?_
 refine pE ?_
 refine ag_block ?_
 refine ag_loopS (stsTD_0 rv es a now i p0 L) (prsTD_0 rv es a now i p0 L) (fun ⟨k, c, f⟩ => L.length + 1 - k) (0, bid0, false) (ent_keep ?_) (show prsTD_0 rv es a now i p0 L (0, bid0, false) from ?_) ?_
 ·exact ⟨rfl, rfl, rfl, rfl, rfl, rfl, rfl, trivial⟩
 ·exact ⟨Nat.zero_le _, rfl⟩
 rintro ⟨k, c, f⟩ hp hrec
 obtain ⟨hk, hbf⟩ : _ := hp
 refine zB ?_
 refine pF ?_
 refine ag_if rfl ?_ ?_
 ·intro h46
  have hk2 : k < (p0 :: L).length := by simp; omega
  obtain ⟨p, hp⟩ : ∃ p, (p0 :: L)[k]? = some p := ⟨_, List.getElem?_eq_getElem hk2⟩
  refine sS ?_
  refine bX ?_
  refine pC ?_ ?_
  ·exact ⟨by omega, by omega⟩
  refine ar_loadAs tOk (bidA p) rfl rfl rfl rfl (ha_ptr (β := i + 20) rfl (get_bds 3 he hi8 rfl rfl)) rfl rfl (bids_loads hp (by simp [addo_eq, mulz_eq]) rfl rfl) ?_
  refine pN ?_ ?_
  ·simp
  refine ar_store (h' := ⟨44, (43, some (.mixed ((bidC p).map .r))) :: (43, some (.mixed ((bidC bid0).map .r))) :: (42, some (.mixed ((bidC c).map .r))) :: (41, some (.mixed ((bidC bid0).map .r))) :: (40, some (.mixed ((askC a).map .r))) :: rmT rv es, false⟩) (c := True) tOk (by kernel_rfl) rfl rfl trivial ?_
  refine zA ?_
  cases f
  ·skip
   refine ag_reg ?_
   iterate 2 refine pA ?_
   refine pB ?_
   iterate 2 refine pA ?_
   refine ar_guard (t := decide (now ≤ p.e)) (fun ht => ?_) (fun ht => ?_)
   ·refine ar_ent (ent_reg 53 (.r (.bool true)) (by show AVal.r (.bool _) = _; exact eqB ht)) ?_
    iterate 3 refine pA ?_
    refine ar_ent (ent_reg 56 (.r (.bool true)) (rfl)) ?_
    iterate 3 refine ar_skip rfl rfl rfl ?_
    refine pA ?_
    refine pE ?_
    refine vB ?_
    refine ag_reg ?_
    refine pB ?_
    refine ar_store (h' := ⟨44, (42, some (.mixed ((bidC p).map .r))) :: (43, some (.mixed ((bidC p).map .r))) :: (43, some (.mixed ((bidC bid0).map .r))) :: (42, some (.mixed ((bidC c).map .r))) :: (41, some (.mixed ((bidC bid0).map .r))) :: (40, some (.mixed ((askC a).map .r))) :: rmT rv es, false⟩) (c := True) tOk (by kernel_rfl) rfl rfl trivial ?_
    refine pE ?_
    refine iR ?_
    refine pC ?_ ?_
    ·unfold inI64; omega
    refine pE ?_
    refine ag_ent (ent_weakS (S := rmT rv es) (n := 40) (g' := (stsTD_0 rv es a now i p0 L (k + 1, p, true)).1) (h' := (stsTD_0 rv es a now i p0 L (k + 1, p, true)).2) [40, 41, 42] 6 3 (symOk_rm hl (by omega)) rfl rfl rfl ?_ rfl rfl rfl rfl rfl rfl rfl ?_ rfl) ?_
    ·exact ⟨⟨rfl, rfl, rfl⟩, ⟨rfl, rfl, rfl⟩, ⟨rfl, rfl, rfl⟩, trivial⟩
    ·exact ⟨⟨rfl, rfl⟩, ⟨rfl, rfl⟩, ⟨rfl, rfl⟩, ⟨rfl, rfl⟩, ⟨by exact blt_of (show i + 20 < 43 by omega), by show AVal.sl (rhoS 40 _ (i + 20)) 0 _ 16 = _; rw [rhoS_lt (by omega)]; rfl⟩, ⟨rfl, rfl⟩, ⟨rfl, by exact eqI (by omega)⟩, trivial⟩
    have hnx := hrec (k + 1, p, true)
    refine hnx ?_ ?_
    ·exact ⟨by omega, by rw [bfold_next hp, ← hbf, stepB]; exact (if_pos ⟨of_decide_eq_true ht, .inl rfl⟩).symm⟩
    ·show L.length + 1 - (k + 1) < L.length + 1 - k; omega
   ·refine ar_ent (ent_reg 53 (.r (.bool false)) (by show AVal.r (.bool _) = _; exact eqB ht)) ?_
    repeat (first | refine ar_skip rfl rfl rfl ?_ | refine ar_pure tOk rfl rfl rfl trivial ?_)
    refine ar_nil ?_
    refine vC ?_
    refine ag_skip ?_
    refine iR ?_
    refine pC ?_ ?_
    ·unfold inI64; omega
    refine pE ?_
    refine ag_ent (ent_weakS (S := rmT rv es) (n := 40) (g' := (stsTD_0 rv es a now i p0 L (k + 1, c, false)).1) (h' := (stsTD_0 rv es a now i p0 L (k + 1, c, false)).2) [40, 41, 42] 5 3 (symOk_rm hl (by omega)) rfl rfl rfl ?_ rfl rfl rfl rfl rfl rfl rfl ?_ rfl) ?_
    ·exact ⟨⟨rfl, rfl, rfl⟩, ⟨rfl, rfl, rfl⟩, ⟨rfl, rfl, rfl⟩, trivial⟩
    ·exact ⟨⟨rfl, rfl⟩, ⟨rfl, rfl⟩, ⟨rfl, rfl⟩, ⟨rfl, rfl⟩, ⟨by exact blt_of (show i + 20 < 43 by omega), by show AVal.sl (rhoS 40 _ (i + 20)) 0 _ 16 = _; rw [rhoS_lt (by omega)]; rfl⟩, ⟨rfl, rfl⟩, ⟨rfl, by exact eqI (by omega)⟩, trivial⟩
    have hnx := hrec (k + 1, c, false)
    refine hnx ?_ ?_
    ·exact ⟨by omega, by rw [bfold_next hp, ← hbf, stepB]; exact (if_neg (fun q => absurd q.1 (of_decide_eq_false ht))).symm⟩
    ·show L.length + 1 - (k + 1) < L.length + 1 - k; omega
  ·skip
   refine ag_reg ?_
   iterate 2 refine pA ?_
   refine pB ?_
   iterate 2 refine pA ?_
   refine ar_guard (t := decide (now ≤ p.e)) (fun ht => ?_) (fun ht => ?_)
   ·refine ar_ent (ent_reg 53 (.r (.bool true)) (by show AVal.r (.bool _) = _; exact eqB ht)) ?_
    iterate 3 refine pA ?_
    refine ar_ent (ent_reg 56 (.r (.bool false)) (rfl)) ?_
    iterate 2 refine pB ?_
    refine ar_pur (w_bBetter p c) rfl rfl rfl rfl rfl rfl rfl ?_
    refine pA ?_
    refine pE ?_
    refine ag_cond rfl ?_ ?_
    ·intro h61
     have h61 : betV p c = true := h61
     refine ag_reg ?_
     refine pB ?_
     refine ar_store (h' := ⟨44, (42, some (.mixed ((bidC p).map .r))) :: (43, some (.mixed ((bidC p).map .r))) :: (43, some (.mixed ((bidC bid0).map .r))) :: (42, some (.mixed ((bidC c).map .r))) :: (41, some (.mixed ((bidC bid0).map .r))) :: (40, some (.mixed ((askC a).map .r))) :: rmT rv es, false⟩) (c := True) tOk (by kernel_rfl) rfl rfl trivial ?_
     refine pE ?_
     refine iR ?_
     refine pC ?_ ?_
     ·unfold inI64; omega
     refine pE ?_
     refine ag_ent (ent_weakS (S := rmT rv es) (n := 40) (g' := (stsTD_0 rv es a now i p0 L (k + 1, p, true)).1) (h' := (stsTD_0 rv es a now i p0 L (k + 1, p, true)).2) [40, 41, 42] 6 3 (symOk_rm hl (by omega)) rfl rfl rfl ?_ rfl rfl rfl rfl rfl rfl rfl ?_ rfl) ?_
     ·exact ⟨⟨rfl, rfl, rfl⟩, ⟨rfl, rfl, rfl⟩, ⟨rfl, rfl, rfl⟩, trivial⟩
     ·exact ⟨⟨rfl, rfl⟩, ⟨rfl, rfl⟩, ⟨rfl, rfl⟩, ⟨rfl, rfl⟩, ⟨by exact blt_of (show i + 20 < 43 by omega), by show AVal.sl (rhoS 40 _ (i + 20)) 0 _ 16 = _; rw [rhoS_lt (by omega)]; rfl⟩, ⟨rfl, rfl⟩, ⟨rfl, by exact eqI (by omega)⟩, trivial⟩
     have hnx := hrec (k + 1, p, true)
     refine hnx ?_ ?_
     ·exact ⟨by omega, by rw [bfold_next hp, ← hbf, stepB]; exact (if_pos ⟨of_decide_eq_true ht, .inr h61⟩).symm⟩
     ·show L.length + 1 - (k + 1) < L.length + 1 - k; omega
    ·intro h61
     have h61 : betV p c = false := h61
     refine ag_skip ?_
     refine iR ?_
     refine pC ?_ ?_
     ·unfold inI64; omega
     refine pE ?_
     refine ag_ent (ent_weakS (S := rmT rv es) (n := 40) (g' := (stsTD_0 rv es a now i p0 L (k + 1, c, true)).1) (h' := (stsTD_0 rv es a now i p0 L (k + 1, c, true)).2) [40, 41, 42] 5 3 (symOk_rm hl (by omega)) rfl rfl rfl ?_ rfl rfl rfl rfl rfl rfl rfl ?_ rfl) ?_
     ·exact ⟨⟨rfl, rfl, rfl⟩, ⟨rfl, rfl, rfl⟩, ⟨rfl, rfl, rfl⟩, trivial⟩
     ·exact ⟨⟨rfl, rfl⟩, ⟨rfl, rfl⟩, ⟨rfl, rfl⟩, ⟨rfl, rfl⟩, ⟨by exact blt_of (show i + 20 < 43 by omega), by show AVal.sl (rhoS 40 _ (i + 20)) 0 _ 16 = _; rw [rhoS_lt (by omega)]; rfl⟩, ⟨rfl, rfl⟩, ⟨rfl, by exact eqI (by omega)⟩, trivial⟩
     have hnx := hrec (k + 1, c, true)
     refine hnx ?_ ?_
     ·exact ⟨by omega, by rw [bfold_next hp, ← hbf, stepB]; exact (if_neg (fun q => by rcases q.2 with q | q; cases q; rw [h61] at q; cases q)).symm⟩
     ·show L.length + 1 - (k + 1) < L.length + 1 - k; omega
   ·refine ar_ent (ent_reg 53 (.r (.bool false)) (by show AVal.r (.bool _) = _; exact eqB ht)) ?_
    repeat (first | refine ar_skip rfl rfl rfl ?_ | refine ar_pure tOk rfl rfl rfl trivial ?_)
    refine ar_nil ?_
    refine vC ?_
    refine ag_skip ?_
    refine iR ?_
    refine pC ?_ ?_
    ·unfold inI64; omega
    refine pE ?_
    refine ag_ent (ent_weakS (S := rmT rv es) (n := 40) (g' := (stsTD_0 rv es a now i p0 L (k + 1, c, true)).1) (h' := (stsTD_0 rv es a now i p0 L (k + 1, c, true)).2) [40, 41, 42] 5 3 (symOk_rm hl (by omega)) rfl rfl rfl ?_ rfl rfl rfl rfl rfl rfl rfl ?_ rfl) ?_
    ·exact ⟨⟨rfl, rfl, rfl⟩, ⟨rfl, rfl, rfl⟩, ⟨rfl, rfl, rfl⟩, trivial⟩
    ·exact ⟨⟨rfl, rfl⟩, ⟨rfl, rfl⟩, ⟨rfl, rfl⟩, ⟨rfl, rfl⟩, ⟨by exact blt_of (show i + 20 < 43 by omega), by show AVal.sl (rhoS 40 _ (i + 20)) 0 _ 16 = _; rw [rhoS_lt (by omega)]; rfl⟩, ⟨rfl, rfl⟩, ⟨rfl, by exact eqI (by omega)⟩, trivial⟩
    have hnx := hrec (k + 1, c, true)
    refine hnx ?_ ?_
    ·exact ⟨by omega, by rw [bfold_next hp, ← hbf, stepB]; exact (if_neg (fun q => absurd q.1 (of_decide_eq_false ht))).symm⟩
    ·show L.length + 1 - (k + 1) < L.length + 1 - k; omega
 ·intro h46
  refine ag_exit rfl ?_
  refine zB ?_
  refine pB ?_
  refine pA ?_
  refine ar_store (h' := ⟨43, (41, some (.mixed ((bidC c).map .r))) :: (42, some (.mixed ((bidC c).map .r))) :: (41, some (.mixed ((bidC bid0).map .r))) :: (40, some (.mixed ((askC a).map .r))) :: rmT rv es, false⟩) (c := True) tOk (by kernel_rfl) rfl rfl trivial ?_
  refine pE ?_
  have hk3 : k = L.length + 1 := by omega
  have e1 : bfold now (p0 :: L) = (c, f) := by rw [hbf, hk3, List.take_of_length_le (by simp)]
  refine ag_retW (v := .tuple [bidA c, .r (.bool f)]) tOk Tryz.func13 rfl rfl (by first | trivial | exact ⟨trivial, trivial⟩ | simp) (ent_weakS (S := rmT rv es) (n := 40) (g' := [(0, .tuple [bidA (bfold now (p0 :: L)).1, .r (.bool (bfold now (p0 :: L)).2)])]) (h' := rmH 40 rv es) [] 4 0 (symOk_rm hl (by omega)) rfl rfl rfl ?_ rfl rfl rfl rfl rfl rfl rfl ?_ rfl) ?_
  ·trivial
  ·exact ⟨⟨rfl, by rw [e1]; rfl⟩, trivial⟩
  exact ⟨rfl, rfl⟩
theorem w_BestHit {rv : RVal} {es : List EV} {a : AskV} (now d : Int) (hl : es.length ≤ 8) {i : Nat} {e : EV} (hf : fixA a es = some i) (he : es[i]? = some e) (h25 : e.L.length ≤ 25) (het : 0 ≤ e.t ∧ e.t ≤ 1099511627776) (hn : -9223372036854775808 ≤ now ∧ now ≤ 9223372036854775807) : Spec Tryz.prog 13 [.ptr 0 0, askA a, .r (.int .i64 now), .r (.int .i64 d)] (rmH 40 rv es) (fun v h' => v = .tuple [bidA (bestE now e).1, .r (.bool (bestE now e).2)] ∧ h' = rmH 40 rv es) := by
 obtain ⟨ea, et, L⟩ := e
 by_cases h1 : now < et
 ·rw [bestE, if_pos (.inl h1)]; exact w_BestHitA rv es a now d hl i hf ea et L he het hn h1
 ·by_cases h2 : now - et < 1
  ·rw [bestE, if_pos (.inr h2)]; exact w_BestHitB rv es a now d hl i hf ea et L he het hn h1 h2
  ·rw [bestE, if_neg (by rintro (q | q); exact h1 q; exact h2 q)]
   cases L with
   | nil => exact w_BestHitC rv es a now d hl i hf ea et he het hn h1 h2
   | cons p0 L => exact w_BestHitD rv es a now d hl i hf ea et p0 L h25 he het hn h1 h2
end Go.Proofs.YtccdhgmkjakjkaaGreat
