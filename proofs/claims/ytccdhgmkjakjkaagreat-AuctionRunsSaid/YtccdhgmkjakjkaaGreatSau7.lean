/-
  WALKS: auctions of any size: the law's own find, better, best. (Printed by gen.py out of w_sau7.py.)
-/
import Derived.Test.YtccdhgmkjakjkaaGreatSau6
namespace Go.Proofs.YtccdhgmkjakjkaaGreat
open Go
set_option maxRecDepth 20000
set_option linter.unusedVariables false
set_option linter.unusedVariables false
set_option linter.unusedSimpArgs false
def ownC : Nat → List EV → List AVal
 | _, [] => []
 | k, e :: es => entC e.a e.t (bslot (k + 41) e.L) ++ ownC (k + 1) es
def ownV : List EV → AVal
 | [] => .r .nil
 | _ :: l => .sl 40 0 (l.length + 1) 11
def ownB : List EV → Option ABlk
 | [] => none
 | e :: l => some (.mixed (ownC 0 (e :: l)))
def own0H (es : List EV) : Hp := ⟨50, [(40, ownB es)], false⟩
def own0A (es : List EV) (a : AskV) : Hp := ⟨51, [(50, some (.mixed ((askC a).map .r))), (40, ownB es)], false⟩
theorem entC_len (a : AskV) (t : Int) (v : AVal) : (entC a t v).length = 11 := rfl
theorem ownC_len : ∀ (es : List EV) (k : Nat), (ownC k es).length = es.length * 11
 | [], _ => rfl
 | e :: es, k => by rw [ownC, List.length_append, entC_len, ownC_len es, List.length_cons]; omega
theorem ownC_drop : ∀ {es : List EV} {k i : Nat} {e : EV}, es[i]? = some e → (ownC k es).drop (i * 11) = entC e.a e.t (bslot (k + i + 41) e.L) ++ ownC (k + i + 1) (es.drop (i + 1))
 | [], _, _, _, h => by simp at h
 | x :: es, k, 0, e, h => by simp at h; subst h; rfl
 | x :: es, k, i + 1, e, h => by
  rw [ownC, show (i + 1) * 11 = (entC x.a x.t (bslot (k + 41) x.L)).length + i * 11 by rw [entC_len]; omega, List.drop_length_add_append]
  rw [ownC_drop (es := es) (k := k + 1) (i := i) (e := e) (by simpa using h)]
  rw [show k + 1 + i = k + (i + 1) by omega]; rfl
theorem own_drop {es : List EV} {i : Nat} {e : EV} (h : es[i]? = some e) : (ownC 0 es).drop (i * 11) = entC e.a e.t (bslot (i + 41) e.L) ++ ownC (i + 1) (es.drop (i + 1)) := by
 have := ownC_drop (k := 0) h
 simpa only [Nat.zero_add] using this
theorem own_ask {ty : Ty} {es : List EV} {i off : Nat} {e : EV} (h : es[i]? = some e) (ho : off = i * 11) (ha : ty.k.agg = true) (hs : ty.size = 9) : LoadsTo ty (Body.mixed (ownC 0 es)).cells off (askA e.a) := by
 refine .inr ⟨ha, (askC e.a).map .r, rfl, ?_, by rw [hs]; rfl⟩
 show ((ownC 0 es).drop off).take ty.size = _
 rw [ho, hs, own_drop h]; rfl
theorem own_ent {ty : Ty} {es : List EV} {i off : Nat} {e : EV} (h : es[i]? = some e) (ho : off = i * 11) (ha : ty.k.agg = true) (hs : ty.size = 11) : LoadsTo ty (Body.mixed (ownC 0 es)).cells off (.agg (entC e.a e.t (bslot (i + 41) e.L))) := by
 refine .inr ⟨ha, entC e.a e.t (bslot (i + 41) e.L), rfl, ?_, by rw [hs]; rfl⟩
 show ((ownC 0 es).drop off).take ty.size = _
 rw [ho, hs, own_drop h]; rfl
theorem own_cell {es : List EV} {i : Nat} {e : EV} (h : es[i]? = some e) : (ownC 0 es)[i * 11 + 10]? = some (bslot (i + 41) e.L) := by
 have h1 := congrArg (fun l => l[10]?) (own_drop h)
 simp only [List.getElem?_drop] at h1
 rw [h1]; rfl
theorem own_slot {ty : Ty} {es : List EV} {i off : Nat} {e : EV} (h : es[i]? = some e) (ho : off = i * 11 + 10) (ha : ty.k.agg = false) : LoadsTo ty (Body.mixed (ownC 0 es)).cells off (bslot (i + 41) e.L) := by
 refine .inl ⟨ha, ?_⟩
 show (ownC 0 es)[off]? = _
 rw [ho]; exact own_cell h
theorem ownC_nb {m : Nat} : ∀ {es : List EV} {k : Nat}, k + es.length + 41 ≤ m → AVal.nbs m (ownC k es) = true
 | [], _, _ => rfl
 | e :: es, k, h => by
  simp only [List.length_cons] at h
  rw [ownC, nbs_app, entC_nb (bslot_nb (by omega)), ownC_nb (by omega)]; rfl
theorem ownC_one : ∀ (es : List EV) (k : Nat), (ownC k es).all oneA = true
 | [], _ => rfl
 | e :: es, k => by
  rw [ownC, List.all_append, ownC_one es, Bool.and_true]
  have : oneA (bslot (k + 41) e.L) = true := by cases e.L <;> rfl
  show (true && (true && (true && (true && (true && (true && (true && (true && (true && (true && (oneA (bslot (k + 41) e.L) && true))))))))))) = true
  rw [this]; rfl
theorem symOk_own {es : List EV} {n : Nat} (hl : es.length ≤ 8) (hn : 50 ≤ n) : SymOk [(40, ownB es)] n := by
 intro i blk h
 rw [look_kill] at h
 split at h
 ·rename_i e
  cases es with
  | nil => cases h
  | cons x l => cases h; exact ⟨by omega, ownC_nb (by omega)⟩
 ·simp [Hp.look] at h
theorem w_lfind0 (a : AskV) : Spec Tryz.prog 8 [.r .nil, askA a] (own0H []) (fun v h' => v = .r (.int .i64 (-1)) ∧ h' = own0H []) := by
 refine spec_of_go (N := 20) Tryz.func8 rfl (by decide) rfl rfl ?_
 refine zB ?_
 refine pM ?_
 refine pF ?_
 refine zB ?_
 refine pE ?_
 refine ag_block ?_
 refine ag_unroll ?_
 refine sZ ?_
 iterate 3 refine pA ?_
 refine pE ?_
 refine vD ?_
 refine ag_exit rfl ?_
 refine zB ?_
 refine pE ?_
 refine ag_retW (v := .r (.int .i64 (-1))) tOk Tryz.func8 rfl rfl (by first | trivial | exact ⟨trivial, trivial⟩ | simp) (ent_weakS (S := [(40, ownB [])]) (n := 50) (g' := [(0, .r (.int .i64 (-1)))]) (h' := own0H []) [] 1 0 (symOk_own (by decide) (by decide)) rfl rfl rfl ?_ rfl rfl rfl rfl rfl rfl rfl ?_ rfl) ?_
 ·trivial
 ·exact ⟨⟨rfl, rfl⟩, trivial⟩
 exact ⟨rfl, rfl⟩
def stlF1_0 (e0 : EV) (l : List EV) (a : AskV) : Nat → Regs × Hp := fun i => ([(0, .sl 40 0 (l.length + 1) 11), (3, .ptr 50 0), (5, .r (.int .i64 (i : Int)))], own0A (e0 :: l) a)
def prlF1_0 (e0 : EV) (l : List EV) (a : AskV) : Nat → Prop := fun i => i ≤ l.length + 1 ∧ ∀ (j : Nat) e, j < i → (e0 :: l)[j]? = some e → aeq e.a a = false
theorem w_lfind1 (e0 : EV) (l : List EV) (a : AskV) (hl : (e0 :: l).length ≤ 8) : Spec Tryz.prog 8 [.sl 40 0 (l.length + 1) 11, askA a] (own0H (e0 :: l)) (fun v h' => v = .r (.int .i64 (ixI a (e0 :: l))) ∧ h' = own0H (e0 :: l)) := by
 have hl2 : l.length + 1 ≤ 8 := hl
 refine spec_of_go (N := 20) Tryz.func8 rfl (by decide) rfl rfl ?_
 refine zB ?_
 refine pM ?_
 refine pF ?_
 refine zB ?_
 refine pE ?_
 refine ag_block ?_
 refine ag_loopS (stlF1_0 e0 l a) (prlF1_0 e0 l a) (fun (i : Nat) => l.length + 1 - i) 0 (ent_keep ?_) (show prlF1_0 e0 l a 0 from ?_) ?_
 ·exact ⟨rfl, rfl, rfl, trivial⟩
 ·exact ⟨Nat.zero_le _, fun j e hj => absurd hj (Nat.not_lt_zero _)⟩
 rintro i hp hrec
 obtain ⟨hi, hno⟩ : _ := hp
 refine sZ ?_
 iterate 3 refine pA ?_
 refine pE ?_
 refine ag_if rfl ?_ ?_
 ·intro h9
  have hi2 : i < (e0 :: l).length := by simp; omega
  obtain ⟨e, he⟩ : ∃ e, (e0 :: l)[i]? = some e := ⟨_, List.getElem?_eq_getElem hi2⟩
  refine sS ?_
  refine ag_block ?_
  refine ag_seq ?_
  refine qD ?_
  iterate 2 refine qA ?_
  refine qB ?_ ?_
  ·exact ⟨by omega, by omega⟩
  refine qA ?_
  refine aq_loadAs0 tOk (askA e.a) rfl rfl rfl rfl rfl (by kernel_rfl) rfl rfl (own_ask he (by simp [addo_eq, mulz_eq]) rfl rfl) ?_
  refine qL ?_
  refine aq_pureE tOk (.r (.bool (aeq e.a a))) rfl (by show AVal.r (.bool _) = _; exact eqB (rfl)) rfl (by rfl) trivial ?_
  refine aq_nil rfl ?_
  refine ag_cond rfl ?_ ?_
  ·intro h18
   refine zB ?_
   refine pA ?_
   refine pE ?_
   refine ag_retW (v := .r (.int .i64 (i : Int))) tOk Tryz.func8 rfl rfl (by first | trivial | exact ⟨trivial, trivial⟩ | simp) (ent_weakS (S := [(40, ownB (e0 :: l))]) (n := 50) (g' := [(0, .r (.int .i64 (ixI a (e0 :: l))))]) (h' := own0H (e0 :: l)) [] 1 0 (symOk_own hl (by decide)) rfl rfl rfl ?_ rfl rfl rfl rfl rfl rfl rfl ?_ rfl) ?_
   ·trivial
   ·exact ⟨⟨rfl, eqI (by rw [ixI_hit (fix_hit he h18 hno)])⟩, trivial⟩
   exact ⟨rfl, rfl⟩
  ·intro h18
   have hq : aeq e.a a = false := h18
   refine ag_skip ?_
   refine iR ?_
   refine pA ?_
   refine pC ?_ ?_
   ·unfold inI64; omega
   refine pE ?_
   refine ag_ent (ent_keep (g' := (stlF1_0 e0 l a (i + 1)).1) ?_) ?_
   ·exact ⟨rfl, rfl, by exact eqI (by omega), trivial⟩
   have hnx := hrec (i + 1)
   refine hnx ?_ ?_
   ·exact ⟨by omega, fun j e hj hje => (by
     rcases Nat.lt_or_ge j i with q | q
     ·exact hno j e q hje
     ·obtain rfl : j = i := by omega
      rw [he] at hje; cases hje; exact hq)⟩
   ·show l.length + 1 - (i + 1) < l.length + 1 - i; omega
 ·intro h9
  refine ag_exit rfl ?_
  refine zB ?_
  refine pE ?_
  refine ag_retW (v := .r (.int .i64 (-1))) tOk Tryz.func8 rfl rfl (by first | trivial | exact ⟨trivial, trivial⟩ | simp) (ent_weakS (S := [(40, ownB (e0 :: l))]) (n := 50) (g' := [(0, .r (.int .i64 (ixI a (e0 :: l))))]) (h' := own0H (e0 :: l)) [] 1 0 (symOk_own hl (by decide)) rfl rfl rfl ?_ rfl rfl rfl rfl rfl rfl rfl ?_ rfl) ?_
  ·trivial
  ·exact ⟨⟨rfl, eqI (by rw [ixI_miss (fix_miss fun j e hj => hno j e (by have := (List.getElem?_eq_some_iff.1 hj).1; simp at this; omega) hj)])⟩, trivial⟩
  exact ⟨rfl, rfl⟩
theorem w_lfind {es : List EV} (a : AskV) (hl : es.length ≤ 8) : Spec Tryz.prog 8 [ownV es, askA a] (own0H es) (fun v h' => v = .r (.int .i64 (ixI a es)) ∧ h' = own0H es) := by
 cases es with
 | nil => exact w_lfind0 a
 | cons e0 l => exact w_lfind1 e0 l a hl
theorem w_lbetter (a b : BidV) : Pur Tryz.prog 33 [bidA a, bidA b] (.r (.bool (betV a b))) := by
 refine spec_of_go (N := 8) Tryz.func33 rfl (by decide) rfl rfl ?_
 refine zB ?_
 iterate 2 refine pM ?_
 refine pG ?_
 iterate 2 refine pB ?_
 refine ar_pur (w_bBetter a b) rfl rfl rfl rfl rfl rfl rfl ?_
 refine pE ?_
 refine ag_ret tOk Tryz.func33 rfl rfl (by simp) ?_
 rfl
theorem w_lbestA0 (ea : AskV) (et now : Int) (het : 0 ≤ et ∧ et ≤ 1099511627776) (hn : -9223372036854775808 ≤ now ∧ now ≤ 9223372036854775807) (hl1 : now < et) : Spec Tryz.prog 14 [.agg (entC ea et (.r .nil)), .r (.int .i64 now)] (⟨0, [], false⟩) (fun v h' => v = .tuple [bidA bid0, .r (.bool false)] ∧ h' = ⟨0, [], false⟩) := by
 refine spec_of_go (N := 57) Tryz.func14 rfl (by decide) rfl rfl ?_
 refine zB ?_
 refine pM ?_
 refine pN ?_ ?_
 ·simp
 refine pG ?_
 refine pN ?_ ?_
 ·simp
 refine zC ?_
 refine pF ?_
 refine zB ?_
 refine pE ?_
 refine ag_block ?_
 refine ag_unroll ?_
 refine sZ ?_
 iterate 2 refine pA ?_
 refine pB ?_
 iterate 3 refine pA ?_
 refine ar_ent (ent_reg 14 (.r (.bool false)) (by show AVal.r (.bool _) = _; exact eqB (by decide))) ?_
 iterate 4 refine ar_skip rfl rfl rfl ?_
 iterate 2 refine pA ?_
 refine ar_ent (ent_reg 20 (.r (.bool false)) (by show AVal.r (.bool _) = _; exact eqB (by rfl))) ?_
 iterate 5 refine ar_skip rfl rfl rfl ?_
 refine pE ?_
 refine vC ?_
 refine ag_exit rfl ?_
 refine zB ?_
 refine pB ?_
 refine pA ?_
 refine ar_store (h' := ⟨3, [(1, some (.mixed ((bidC bid0).map .r))), (2, some (.mixed ((bidC bid0).map .r))), (1, some (.mixed ((bidC bid0).map .r))), (0, some (.mixed (entC ea et (.r .nil))))], false⟩) (c := True) tOk (by kernel_rfl) rfl rfl trivial ?_
 refine pE ?_
 refine ag_retW (v := .tuple [bidA bid0, .r (.bool false)]) tOk Tryz.func14 rfl rfl (by first | trivial | exact ⟨trivial, trivial⟩ | simp) (ent_weak (g' := [(0, .tuple [bidA bid0, .r (.bool false)])]) (h' := ⟨0, [], false⟩) [] rfl rfl rfl rfl ?_ ?_ rfl) ?_
 ·exact ⟨⟨rfl, by rfl⟩, trivial⟩
 ·trivial
 exact ⟨rfl, rfl⟩
theorem w_lbestA1 (ea : AskV) (et now : Int) (p0 : BidV) (L : List BidV) (h25 : L.length + 1 ≤ 25) (het : 0 ≤ et ∧ et ≤ 1099511627776) (hn : -9223372036854775808 ≤ now ∧ now ≤ 9223372036854775807) (hl1 : now < et) : Spec Tryz.prog 14 [.agg (entC ea et (.sl 0 0 (L.length + 1) 16)), .r (.int .i64 now)] (⟨1, [(0, some (.plain (bidsC (p0 :: L))))], false⟩) (fun v h' => v = .tuple [bidA bid0, .r (.bool false)] ∧ h' = ⟨1, [(0, some (.plain (bidsC (p0 :: L))))], false⟩) := by
 refine spec_of_go (N := 57) Tryz.func14 rfl (by decide) rfl rfl ?_
 refine zB ?_
 refine pM ?_
 refine pN ?_ ?_
 ·simp
 refine pG ?_
 refine pN ?_ ?_
 ·simp
 refine zC ?_
 refine pF ?_
 refine zB ?_
 refine pE ?_
 refine ag_block ?_
 refine ag_unroll ?_
 refine sZ ?_
 iterate 2 refine pA ?_
 refine pB ?_
 iterate 3 refine pA ?_
 refine ar_ent (ent_reg 14 (.r (.bool true)) (by show AVal.r (.bool _) = _; exact eqB (decide_eq_true (show ((0 : Nat) : Int) < ((L.length + 1 : Nat) : Int) by omega)))) ?_
 iterate 2 refine pA ?_
 refine pB ?_
 iterate 3 refine pA ?_
 refine ar_ent (ent_reg 20 (.r (.bool false)) (by show AVal.r (.bool _) = _; exact eqB (decide_eq_false (show ¬ now ≥ et by omega)))) ?_
 iterate 5 refine ar_skip rfl rfl rfl ?_
 refine pE ?_
 refine vC ?_
 refine ag_exit rfl ?_
 refine zB ?_
 refine pB ?_
 refine pA ?_
 refine ar_store (h' := ⟨4, [(2, some (.mixed ((bidC bid0).map .r))), (3, some (.mixed ((bidC bid0).map .r))), (2, some (.mixed ((bidC bid0).map .r))), (1, some (.mixed (entC ea et (.sl 0 0 (L.length + 1) 16)))), (0, some (.plain (bidsC (p0 :: L))))], false⟩) (c := True) tOk (by kernel_rfl) rfl rfl trivial ?_
 refine pE ?_
 refine ag_retW (v := .tuple [bidA bid0, .r (.bool false)]) tOk Tryz.func14 rfl rfl (by first | trivial | exact ⟨trivial, trivial⟩ | simp) (ent_weak (g' := [(0, .tuple [bidA bid0, .r (.bool false)])]) (h' := ⟨1, [(0, some (.plain (bidsC (p0 :: L))))], false⟩) [0] rfl rfl rfl rfl ?_ ?_ rfl) ?_
 ·exact ⟨⟨rfl, by rfl⟩, trivial⟩
 ·exact ⟨⟨rfl, rfl, rfl⟩, trivial⟩
 exact ⟨rfl, rfl⟩
theorem w_lbestB0 (ea : AskV) (et now : Int) (het : 0 ≤ et ∧ et ≤ 1099511627776) (hn : -9223372036854775808 ≤ now ∧ now ≤ 9223372036854775807) (hl1 : ¬ now < et) (hl2 : now - et < 1) : Spec Tryz.prog 14 [.agg (entC ea et (.r .nil)), .r (.int .i64 now)] (⟨0, [], false⟩) (fun v h' => v = .tuple [bidA bid0, .r (.bool false)] ∧ h' = ⟨0, [], false⟩) := by
 refine spec_of_go (N := 57) Tryz.func14 rfl (by decide) rfl rfl ?_
 refine zB ?_
 refine pM ?_
 refine pN ?_ ?_
 ·simp
 refine pG ?_
 refine pN ?_ ?_
 ·simp
 refine zC ?_
 refine pF ?_
 refine zB ?_
 refine pE ?_
 refine ag_block ?_
 refine ag_unroll ?_
 refine sZ ?_
 iterate 2 refine pA ?_
 refine pB ?_
 iterate 3 refine pA ?_
 refine ar_ent (ent_reg 14 (.r (.bool false)) (by show AVal.r (.bool _) = _; exact eqB (by decide))) ?_
 iterate 4 refine ar_skip rfl rfl rfl ?_
 iterate 2 refine pA ?_
 refine ar_ent (ent_reg 20 (.r (.bool false)) (by show AVal.r (.bool _) = _; exact eqB (by rfl))) ?_
 iterate 5 refine ar_skip rfl rfl rfl ?_
 refine pE ?_
 refine vC ?_
 refine ag_exit rfl ?_
 refine zB ?_
 refine pB ?_
 refine pA ?_
 refine ar_store (h' := ⟨3, [(1, some (.mixed ((bidC bid0).map .r))), (2, some (.mixed ((bidC bid0).map .r))), (1, some (.mixed ((bidC bid0).map .r))), (0, some (.mixed (entC ea et (.r .nil))))], false⟩) (c := True) tOk (by kernel_rfl) rfl rfl trivial ?_
 refine pE ?_
 refine ag_retW (v := .tuple [bidA bid0, .r (.bool false)]) tOk Tryz.func14 rfl rfl (by first | trivial | exact ⟨trivial, trivial⟩ | simp) (ent_weak (g' := [(0, .tuple [bidA bid0, .r (.bool false)])]) (h' := ⟨0, [], false⟩) [] rfl rfl rfl rfl ?_ ?_ rfl) ?_
 ·exact ⟨⟨rfl, by rfl⟩, trivial⟩
 ·trivial
 exact ⟨rfl, rfl⟩
theorem w_lbestB1 (ea : AskV) (et now : Int) (p0 : BidV) (L : List BidV) (h25 : L.length + 1 ≤ 25) (het : 0 ≤ et ∧ et ≤ 1099511627776) (hn : -9223372036854775808 ≤ now ∧ now ≤ 9223372036854775807) (hl1 : ¬ now < et) (hl2 : now - et < 1) : Spec Tryz.prog 14 [.agg (entC ea et (.sl 0 0 (L.length + 1) 16)), .r (.int .i64 now)] (⟨1, [(0, some (.plain (bidsC (p0 :: L))))], false⟩) (fun v h' => v = .tuple [bidA bid0, .r (.bool false)] ∧ h' = ⟨1, [(0, some (.plain (bidsC (p0 :: L))))], false⟩) := by
 refine spec_of_go (N := 57) Tryz.func14 rfl (by decide) rfl rfl ?_
 refine zB ?_
 refine pM ?_
 refine pN ?_ ?_
 ·simp
 refine pG ?_
 refine pN ?_ ?_
 ·simp
 refine zC ?_
 refine pF ?_
 refine zB ?_
 refine pE ?_
 refine ag_block ?_
 refine ag_unroll ?_
 refine sZ ?_
 iterate 2 refine pA ?_
 refine pB ?_
 iterate 3 refine pA ?_
 refine ar_ent (ent_reg 14 (.r (.bool true)) (by show AVal.r (.bool _) = _; exact eqB (decide_eq_true (show ((0 : Nat) : Int) < ((L.length + 1 : Nat) : Int) by omega)))) ?_
 iterate 2 refine pA ?_
 refine pB ?_
 iterate 3 refine pA ?_
 refine ar_ent (ent_reg 20 (.r (.bool true)) (by show AVal.r (.bool _) = _; exact eqB (decide_eq_true (show now ≥ et by omega)))) ?_
 iterate 2 refine pA ?_
 refine pB ?_
 refine pC ?_ ?_
 ·unfold inI64; omega
 refine pA ?_
 refine pE ?_
 refine ag_false rfl (decide_eq_false (show ¬ now - et ≥ 1 by omega)) ?_
 refine ag_exit rfl ?_
 refine zB ?_
 refine pB ?_
 refine pA ?_
 refine ar_store (h' := ⟨4, [(2, some (.mixed ((bidC bid0).map .r))), (3, some (.mixed ((bidC bid0).map .r))), (2, some (.mixed ((bidC bid0).map .r))), (1, some (.mixed (entC ea et (.sl 0 0 (L.length + 1) 16)))), (0, some (.plain (bidsC (p0 :: L))))], false⟩) (c := True) tOk (by kernel_rfl) rfl rfl trivial ?_
 refine pE ?_
 refine ag_retW (v := .tuple [bidA bid0, .r (.bool false)]) tOk Tryz.func14 rfl rfl (by first | trivial | exact ⟨trivial, trivial⟩ | simp) (ent_weak (g' := [(0, .tuple [bidA bid0, .r (.bool false)])]) (h' := ⟨1, [(0, some (.plain (bidsC (p0 :: L))))], false⟩) [0] rfl rfl rfl rfl ?_ ?_ rfl) ?_
 ·exact ⟨⟨rfl, by rfl⟩, trivial⟩
 ·exact ⟨⟨rfl, rfl, rfl⟩, trivial⟩
 exact ⟨rfl, rfl⟩
theorem w_lbestC0 (ea : AskV) (et now : Int) (het : 0 ≤ et ∧ et ≤ 1099511627776) (hn : -9223372036854775808 ≤ now ∧ now ≤ 9223372036854775807) (hl1 : ¬ now < et) (hl2 : ¬ now - et < 1) : Spec Tryz.prog 14 [.agg (entC ea et (.r .nil)), .r (.int .i64 now)] (⟨0, [], false⟩) (fun v h' => v = .tuple [bidA bid0, .r (.bool false)] ∧ h' = ⟨0, [], false⟩) := by
 refine spec_of_go (N := 57) Tryz.func14 rfl (by decide) rfl rfl ?_
 refine zB ?_
 refine pM ?_
 refine pN ?_ ?_
 ·simp
 refine pG ?_
 refine pN ?_ ?_
 ·simp
 refine zC ?_
 refine pF ?_
 refine zB ?_
 refine pE ?_
 refine ag_block ?_
 refine ag_unroll ?_
 refine sZ ?_
 iterate 2 refine pA ?_
 refine pB ?_
 iterate 3 refine pA ?_
 refine ar_ent (ent_reg 14 (.r (.bool false)) (by show AVal.r (.bool _) = _; exact eqB (by decide))) ?_
 iterate 4 refine ar_skip rfl rfl rfl ?_
 iterate 2 refine pA ?_
 refine ar_ent (ent_reg 20 (.r (.bool false)) (by show AVal.r (.bool _) = _; exact eqB (by rfl))) ?_
 iterate 5 refine ar_skip rfl rfl rfl ?_
 refine pE ?_
 refine vC ?_
 refine ag_exit rfl ?_
 refine zB ?_
 refine pB ?_
 refine pA ?_
 refine ar_store (h' := ⟨3, [(1, some (.mixed ((bidC bid0).map .r))), (2, some (.mixed ((bidC bid0).map .r))), (1, some (.mixed ((bidC bid0).map .r))), (0, some (.mixed (entC ea et (.r .nil))))], false⟩) (c := True) tOk (by kernel_rfl) rfl rfl trivial ?_
 refine pE ?_
 refine ag_retW (v := .tuple [bidA bid0, .r (.bool false)]) tOk Tryz.func14 rfl rfl (by first | trivial | exact ⟨trivial, trivial⟩ | simp) (ent_weak (g' := [(0, .tuple [bidA bid0, .r (.bool false)])]) (h' := ⟨0, [], false⟩) [] rfl rfl rfl rfl ?_ ?_ rfl) ?_
 ·exact ⟨⟨rfl, by rfl⟩, trivial⟩
 ·trivial
 exact ⟨rfl, rfl⟩
def stlBC1_0 (ea : AskV) (et now : Int) (p0 : BidV) (L : List BidV) : Nat × BidV × Bool → Regs × Hp := fun ⟨k, c, f⟩ => ([(1, .r (.int .i64 now)), (2, .ptr 1 0), (4, .ptr 2 0), (6, .ptr 3 0), (7, .r (.bool f)), (8, .r (.int .i64 (k : Int)))], ⟨4, [(3, some (.mixed ((bidC c).map .r))), (2, some (.mixed ((bidC bid0).map .r))), (1, some (.mixed (entC ea et (.sl 0 0 (L.length + 1) 16)))), (0, some (.plain (bidsC (p0 :: L))))], false⟩)
def prlBC1_0 (ea : AskV) (et now : Int) (p0 : BidV) (L : List BidV) : Nat × BidV × Bool → Prop := fun ⟨k, c, f⟩ => k ≤ L.length + 1 ∧ (c, f) = bfold now ((p0 :: L).take k)
theorem w_lbestC1 (ea : AskV) (et now : Int) (p0 : BidV) (L : List BidV) (h25 : L.length + 1 ≤ 25) (het : 0 ≤ et ∧ et ≤ 1099511627776) (hn : -9223372036854775808 ≤ now ∧ now ≤ 9223372036854775807) (hl1 : ¬ now < et) (hl2 : ¬ now - et < 1) : Spec Tryz.prog 14 [.agg (entC ea et (.sl 0 0 (L.length + 1) 16)), .r (.int .i64 now)] (⟨1, [(0, some (.plain (bidsC (p0 :: L))))], false⟩) (fun v h' => v = .tuple [bidA (bfold now (p0 :: L)).1, .r (.bool (bfold now (p0 :: L)).2)] ∧ h' = ⟨1, [(0, some (.plain (bidsC (p0 :: L))))], false⟩) := by
 refine spec_of_go (N := 57) Tryz.func14 rfl (by decide) rfl rfl ?_
 refine zB ?_
 refine pM ?_
 refine pN ?_ ?_
 ·simp
 refine pG ?_
 refine pN ?_ ?_
 ·simp
 refine zC ?_
 refine pF ?_
 refine zB ?_
 refine pE ?_
 refine ag_block ?_
 refine ag_loopS (stlBC1_0 ea et now p0 L) (prlBC1_0 ea et now p0 L) (fun ⟨k, c, f⟩ => L.length + 1 - k) (0, bid0, false) (ent_weak [0, 1, 2, 3] rfl rfl rfl rfl ?_ ?_ rfl) (show prlBC1_0 ea et now p0 L (0, bid0, false) from ?_) ?_
 ·exact ⟨⟨rfl, rfl⟩, ⟨rfl, rfl⟩, ⟨rfl, rfl⟩, ⟨rfl, rfl⟩, ⟨rfl, rfl⟩, ⟨rfl, rfl⟩, trivial⟩
 ·exact ⟨⟨rfl, rfl, rfl⟩, ⟨rfl, rfl, rfl⟩, ⟨rfl, rfl, rfl⟩, ⟨rfl, rfl, rfl⟩, trivial⟩
 ·exact ⟨Nat.zero_le _, rfl⟩
 rintro ⟨k, c, f⟩ hp hrec
 obtain ⟨hk, hbf⟩ : _ := hp
 refine sZ ?_
 iterate 2 refine pA ?_
 refine pB ?_
 iterate 3 refine pA ?_
 refine ar_guard (t := decide ((k : Int) < ((L.length + 1 : Nat) : Int))) (fun ht => ?_) (fun ht => ?_)
 ·refine ar_ent (ent_reg 14 (.r (.bool true)) (by show AVal.r (.bool _) = _; exact eqB ht)) ?_
  have hk2 : k < L.length + 1 := by have := of_decide_eq_true ht; omega
  obtain ⟨p, hp⟩ : ∃ p, (p0 :: L)[k]? = some p := ⟨_, List.getElem?_eq_getElem (by simpa using hk2)⟩
  iterate 2 refine pA ?_
  refine pB ?_
  iterate 3 refine pA ?_
  refine ar_ent (ent_reg 20 (.r (.bool true)) (by show AVal.r (.bool _) = _; exact eqB (decide_eq_true (show now ≥ et by omega)))) ?_
  iterate 2 refine pA ?_
  refine pB ?_
  refine pC ?_ ?_
  ·unfold inI64; omega
  refine pA ?_
  refine pE ?_
  refine ag_true rfl (decide_eq_true (show now - et ≥ 1 by omega)) ?_
  refine sS ?_
  refine ag_block ?_
  refine ag_seq ?_
  rcases hq : decide (now ≤ p.e) with _ | _ <;> cases f
  ·skip
   refine qD ?_
   iterate 2 refine qA ?_
   refine qL ?_
   refine qA ?_
   refine qB ?_ ?_
   ·exact ⟨by omega, by omega⟩
   refine qA ?_
   refine aq_loadAs0 tOk (.r (.int .i64 p.e)) rfl rfl rfl rfl rfl (by kernel_rfl) rfl rfl (bids_load1 (j := 14) hp (by simp [addo_eq, mulz_eq]) (by omega) rfl rfl) ?_
   refine aq_pureE tOk (.r (.bool false)) rfl (by show AVal.r (.bool _) = _; exact eqB (hq)) rfl (by rfl) trivial ?_
   refine qA ?_
   iterate 11 refine aq_skip rfl rfl rfl ?_
   refine qE ?_
   refine vC ?_
   refine ag_skip ?_
   refine iR ?_
   refine pA ?_
   refine pC ?_ ?_
   ·unfold inI64; omega
   refine pE ?_
   refine ag_ent (ent_weak (g' := (stlBC1_0 ea et now p0 L (k + 1, c, false)).1) (h' := (stlBC1_0 ea et now p0 L (k + 1, c, false)).2) [0, 1, 2, 3] rfl rfl rfl rfl ?_ ?_ rfl) ?_
   ·exact ⟨⟨rfl, rfl⟩, ⟨rfl, rfl⟩, ⟨rfl, rfl⟩, ⟨rfl, rfl⟩, ⟨rfl, rfl⟩, ⟨rfl, by exact eqI (by omega)⟩, trivial⟩
   ·exact ⟨⟨rfl, rfl, rfl⟩, ⟨rfl, rfl, rfl⟩, ⟨rfl, rfl, rfl⟩, ⟨rfl, rfl, rfl⟩, trivial⟩
   have hnx := hrec (k + 1, c, false)
   refine hnx ?_ ?_
   ·exact ⟨by omega, by rw [bfold_next hp, ← hbf, stepB]; exact (if_neg (fun q => absurd q.1 (of_decide_eq_false hq))).symm⟩
   ·show L.length + 1 - (k + 1) < L.length + 1 - k; omega
  ·skip
   refine qD ?_
   iterate 2 refine qA ?_
   refine qL ?_
   refine qA ?_
   refine qB ?_ ?_
   ·exact ⟨by omega, by omega⟩
   refine qA ?_
   refine aq_loadAs0 tOk (.r (.int .i64 p.e)) rfl rfl rfl rfl rfl (by kernel_rfl) rfl rfl (bids_load1 (j := 14) hp (by simp [addo_eq, mulz_eq]) (by omega) rfl rfl) ?_
   refine aq_pureE tOk (.r (.bool false)) rfl (by show AVal.r (.bool _) = _; exact eqB (hq)) rfl (by rfl) trivial ?_
   refine qA ?_
   iterate 11 refine aq_skip rfl rfl rfl ?_
   refine qE ?_
   refine vC ?_
   refine ag_skip ?_
   refine iR ?_
   refine pA ?_
   refine pC ?_ ?_
   ·unfold inI64; omega
   refine pE ?_
   refine ag_ent (ent_weak (g' := (stlBC1_0 ea et now p0 L (k + 1, c, true)).1) (h' := (stlBC1_0 ea et now p0 L (k + 1, c, true)).2) [0, 1, 2, 3] rfl rfl rfl rfl ?_ ?_ rfl) ?_
   ·exact ⟨⟨rfl, rfl⟩, ⟨rfl, rfl⟩, ⟨rfl, rfl⟩, ⟨rfl, rfl⟩, ⟨rfl, rfl⟩, ⟨rfl, by exact eqI (by omega)⟩, trivial⟩
   ·exact ⟨⟨rfl, rfl, rfl⟩, ⟨rfl, rfl, rfl⟩, ⟨rfl, rfl, rfl⟩, ⟨rfl, rfl, rfl⟩, trivial⟩
   have hnx := hrec (k + 1, c, true)
   refine hnx ?_ ?_
   ·exact ⟨by omega, by rw [bfold_next hp, ← hbf, stepB]; exact (if_neg (fun q => absurd q.1 (of_decide_eq_false hq))).symm⟩
   ·show L.length + 1 - (k + 1) < L.length + 1 - k; omega
  ·skip
   refine qD ?_
   iterate 2 refine qA ?_
   refine qL ?_
   refine qA ?_
   refine qB ?_ ?_
   ·exact ⟨by omega, by omega⟩
   refine qA ?_
   refine aq_loadAs0 tOk (.r (.int .i64 p.e)) rfl rfl rfl rfl rfl (by kernel_rfl) rfl rfl (bids_load1 (j := 14) hp (by simp [addo_eq, mulz_eq]) (by omega) rfl rfl) ?_
   refine aq_pureE tOk (.r (.bool true)) rfl (by show AVal.r (.bool _) = _; exact eqB (hq)) rfl (by rfl) trivial ?_
   iterate 4 refine qA ?_
   iterate 7 refine aq_skip rfl rfl rfl ?_
   refine qA ?_
   refine qE ?_
   refine vB ?_
   refine ag_reg ?_
   refine pA ?_
   refine pB ?_
   refine pA ?_
   refine pC ?_ ?_
   ·exact ⟨by omega, by omega⟩
   refine ar_loadAs tOk (bidA p) rfl rfl rfl rfl rfl rfl rfl (bids_loads hp (by simp [addo_eq, mulz_eq]) rfl rfl) ?_
   refine ar_store (h' := ⟨4, [(3, some (.mixed ((bidC p).map .r))), (3, some (.mixed ((bidC c).map .r))), (2, some (.mixed ((bidC bid0).map .r))), (1, some (.mixed (entC ea et (.sl 0 0 (L.length + 1) 16)))), (0, some (.plain (bidsC (p0 :: L))))], false⟩) (c := True) tOk (by kernel_rfl) rfl rfl trivial ?_
   refine pE ?_
   refine iR ?_
   refine pA ?_
   refine pC ?_ ?_
   ·unfold inI64; omega
   refine pE ?_
   refine ag_ent (ent_weak (g' := (stlBC1_0 ea et now p0 L (k + 1, p, true)).1) (h' := (stlBC1_0 ea et now p0 L (k + 1, p, true)).2) [0, 1, 2, 3] rfl rfl rfl rfl ?_ ?_ rfl) ?_
   ·exact ⟨⟨rfl, rfl⟩, ⟨rfl, rfl⟩, ⟨rfl, rfl⟩, ⟨rfl, rfl⟩, ⟨rfl, rfl⟩, ⟨rfl, by exact eqI (by omega)⟩, trivial⟩
   ·exact ⟨⟨rfl, rfl, rfl⟩, ⟨rfl, rfl, rfl⟩, ⟨rfl, rfl, rfl⟩, ⟨rfl, rfl, rfl⟩, trivial⟩
   have hnx := hrec (k + 1, p, true)
   refine hnx ?_ ?_
   ·exact ⟨by omega, by rw [bfold_next hp, ← hbf, stepB]; exact (if_pos ⟨of_decide_eq_true hq, .inl rfl⟩).symm⟩
   ·show L.length + 1 - (k + 1) < L.length + 1 - k; omega
  ·skip
   refine qD ?_
   iterate 2 refine qA ?_
   refine qL ?_
   refine qA ?_
   refine qB ?_ ?_
   ·exact ⟨by omega, by omega⟩
   refine qA ?_
   refine aq_loadAs0 tOk (.r (.int .i64 p.e)) rfl rfl rfl rfl rfl (by kernel_rfl) rfl rfl (bids_load1 (j := 14) hp (by simp [addo_eq, mulz_eq]) (by omega) rfl rfl) ?_
   refine aq_pureE tOk (.r (.bool true)) rfl (by show AVal.r (.bool _) = _; exact eqB (hq)) rfl (by rfl) trivial ?_
   iterate 5 refine qA ?_
   refine qL ?_
   refine qA ?_
   refine qB ?_ ?_
   ·exact ⟨by omega, by omega⟩
   refine aq_loadAs0 tOk (bidA p) rfl rfl rfl rfl rfl (by kernel_rfl) rfl rfl (bids_loads hp (by simp [addo_eq, mulz_eq]) rfl rfl) ?_
   refine qL ?_
   refine aq_pur (w_lbetter p c) rfl rfl rfl rfl rfl rfl rfl ?_
   refine qA ?_
   refine qE ?_
   refine ag_cond rfl ?_ ?_
   ·intro h49
    have h49 : betV p c = true := h49
    refine ag_reg ?_
    refine pA ?_
    refine pB ?_
    refine pA ?_
    refine pC ?_ ?_
    ·exact ⟨by omega, by omega⟩
    refine ar_loadAs tOk (bidA p) rfl rfl rfl rfl rfl rfl rfl (bids_loads hp (by simp [addo_eq, mulz_eq]) rfl rfl) ?_
    refine ar_store (h' := ⟨4, [(3, some (.mixed ((bidC p).map .r))), (3, some (.mixed ((bidC c).map .r))), (2, some (.mixed ((bidC bid0).map .r))), (1, some (.mixed (entC ea et (.sl 0 0 (L.length + 1) 16)))), (0, some (.plain (bidsC (p0 :: L))))], false⟩) (c := True) tOk (by kernel_rfl) rfl rfl trivial ?_
    refine pE ?_
    refine iR ?_
    refine pA ?_
    refine pC ?_ ?_
    ·unfold inI64; omega
    refine pE ?_
    refine ag_ent (ent_weak (g' := (stlBC1_0 ea et now p0 L (k + 1, p, true)).1) (h' := (stlBC1_0 ea et now p0 L (k + 1, p, true)).2) [0, 1, 2, 3] rfl rfl rfl rfl ?_ ?_ rfl) ?_
    ·exact ⟨⟨rfl, rfl⟩, ⟨rfl, rfl⟩, ⟨rfl, rfl⟩, ⟨rfl, rfl⟩, ⟨rfl, rfl⟩, ⟨rfl, by exact eqI (by omega)⟩, trivial⟩
    ·exact ⟨⟨rfl, rfl, rfl⟩, ⟨rfl, rfl, rfl⟩, ⟨rfl, rfl, rfl⟩, ⟨rfl, rfl, rfl⟩, trivial⟩
    have hnx := hrec (k + 1, p, true)
    refine hnx ?_ ?_
    ·exact ⟨by omega, by rw [bfold_next hp, ← hbf, stepB]; exact (if_pos ⟨of_decide_eq_true hq, .inr h49⟩).symm⟩
    ·show L.length + 1 - (k + 1) < L.length + 1 - k; omega
   ·intro h49
    have h49 : betV p c = false := h49
    refine ag_skip ?_
    refine iR ?_
    refine pA ?_
    refine pC ?_ ?_
    ·unfold inI64; omega
    refine pE ?_
    refine ag_ent (ent_weak (g' := (stlBC1_0 ea et now p0 L (k + 1, c, true)).1) (h' := (stlBC1_0 ea et now p0 L (k + 1, c, true)).2) [0, 1, 2, 3] rfl rfl rfl rfl ?_ ?_ rfl) ?_
    ·exact ⟨⟨rfl, rfl⟩, ⟨rfl, rfl⟩, ⟨rfl, rfl⟩, ⟨rfl, rfl⟩, ⟨rfl, rfl⟩, ⟨rfl, by exact eqI (by omega)⟩, trivial⟩
    ·exact ⟨⟨rfl, rfl, rfl⟩, ⟨rfl, rfl, rfl⟩, ⟨rfl, rfl, rfl⟩, ⟨rfl, rfl, rfl⟩, trivial⟩
    have hnx := hrec (k + 1, c, true)
    refine hnx ?_ ?_
    ·exact ⟨by omega, by rw [bfold_next hp, ← hbf, stepB]; exact (if_neg (fun q => by rcases q.2 with q | q; cases q; rw [h49] at q; cases q)).symm⟩
    ·show L.length + 1 - (k + 1) < L.length + 1 - k; omega
 ·refine ar_ent (ent_reg 14 (.r (.bool false)) (by show AVal.r (.bool _) = _; exact eqB ht)) ?_
  have hk2 : ¬ ((k : Int) < ((L.length + 1 : Nat) : Int)) := of_decide_eq_false ht
  repeat (first | refine ar_skip rfl rfl rfl ?_ | refine ar_pure tOk rfl rfl rfl trivial ?_)
  refine ar_nil ?_
  refine vC ?_
  refine ag_exit rfl ?_
  refine zB ?_
  refine pB ?_
  refine pA ?_
  refine ar_store (h' := ⟨4, [(2, some (.mixed ((bidC c).map .r))), (3, some (.mixed ((bidC c).map .r))), (2, some (.mixed ((bidC bid0).map .r))), (1, some (.mixed (entC ea et (.sl 0 0 (L.length + 1) 16)))), (0, some (.plain (bidsC (p0 :: L))))], false⟩) (c := True) tOk (by kernel_rfl) rfl rfl trivial ?_
  refine pE ?_
  have hk3 : k = L.length + 1 := by omega
  have e1 : bfold now (p0 :: L) = (c, f) := by rw [hbf, hk3, List.take_of_length_le (by simp)]
  refine ag_retW (v := .tuple [bidA c, .r (.bool f)]) tOk Tryz.func14 rfl rfl (by first | trivial | exact ⟨trivial, trivial⟩ | simp) (ent_weak (g' := [(0, .tuple [bidA (bfold now (p0 :: L)).1, .r (.bool (bfold now (p0 :: L)).2)])]) (h' := ⟨1, [(0, some (.plain (bidsC (p0 :: L))))], false⟩) [0] rfl rfl rfl rfl ?_ ?_ rfl) ?_
  ·exact ⟨⟨rfl, by rw [e1]; rfl⟩, trivial⟩
  ·exact ⟨⟨rfl, rfl, rfl⟩, trivial⟩
  exact ⟨rfl, rfl⟩
theorem w_lbest0 (ea : AskV) (et now : Int) (het : 0 ≤ et ∧ et ≤ 1099511627776) (hn : -9223372036854775808 ≤ now ∧ now ≤ 9223372036854775807) : Spec Tryz.prog 14 [.agg (entC ea et (.r .nil)), .r (.int .i64 now)] (⟨0, [], false⟩) (fun v h' => v = .tuple [bidA (bestE now ⟨ea, et, []⟩).1, .r (.bool (bestE now ⟨ea, et, []⟩).2)] ∧ h' = ⟨0, [], false⟩) := by
 by_cases h1 : now < et
 ·rw [bestE, if_pos (.inl h1)]; exact w_lbestA0 ea et now het hn h1
 ·by_cases h2 : now - et < 1
  ·rw [bestE, if_pos (.inr h2)]; exact w_lbestB0 ea et now het hn h1 h2
  ·rw [bestE, if_neg (by rintro (q | q); exact h1 q; exact h2 q)]; exact w_lbestC0 ea et now het hn h1 h2
theorem w_lbest1 (ea : AskV) (et now : Int) (p0 : BidV) (L : List BidV) (h25 : L.length + 1 ≤ 25) (het : 0 ≤ et ∧ et ≤ 1099511627776) (hn : -9223372036854775808 ≤ now ∧ now ≤ 9223372036854775807) : Spec Tryz.prog 14 [.agg (entC ea et (.sl 0 0 (L.length + 1) 16)), .r (.int .i64 now)] (⟨1, [(0, some (.plain (bidsC (p0 :: L))))], false⟩) (fun v h' => v = .tuple [bidA (bestE now ⟨ea, et, (p0 :: L)⟩).1, .r (.bool (bestE now ⟨ea, et, (p0 :: L)⟩).2)] ∧ h' = ⟨1, [(0, some (.plain (bidsC (p0 :: L))))], false⟩) := by
 by_cases h1 : now < et
 ·rw [bestE, if_pos (.inl h1)]; exact w_lbestA1 ea et now p0 L h25 het hn h1
 ·by_cases h2 : now - et < 1
  ·rw [bestE, if_pos (.inr h2)]; exact w_lbestB1 ea et now p0 L h25 het hn h1 h2
  ·rw [bestE, if_neg (by rintro (q | q); exact h1 q; exact h2 q)]; exact w_lbestC1 ea et now p0 L h25 het hn h1 h2
end Go.Proofs.YtccdhgmkjakjkaaGreat
