/-
  WALKS: the law AuctionRuns. (Printed by gen.py out of w_law19.py.)
-/
import Derived.Test.YtccdhgmkjakjkaaGreatLw3
namespace Go.Proofs.YtccdhgmkjakjkaaGreat
open Go
set_option maxRecDepth 20000
set_option linter.unusedVariables false
set_option linter.unusedVariables false
set_option linter.unusedSimpArgs false
structure OpV where
 k : Int
 b : BidV
 now : Int
def opC19 (o : OpV) : List RVal := .int .i64 o.k :: (bidC o.b ++ [.int .i64 o.now])
def op0 : OpV := ⟨0, bid0, 0⟩
structure OpV.ok (o : OpV) : Prop where
 b : o.b.ok
 k : -9223372036854775808 ≤ o.k ∧ o.k ≤ 9223372036854775807
 r : -9223372036854775808 ≤ o.b.r ∧ o.b.r ≤ 9223372036854775807
 now : -9223372036854775808 ≤ o.now ∧ o.now ≤ 9223372036854775807
def opsC19 (l : List OpV) : List RVal := l.flatMap opC19
theorem opsC19_get : ∀ {L : List OpV} {i : Nat} {p : OpV}, L[i]? = some p → ((opsC19 L).drop (i * 18)).take 18 = opC19 p
 | [], _, _, h => by simp at h
 | b :: L, 0, p, h => by
  simp at h; subst h
  have h1 : opsC19 (b :: L) = opC19 b ++ opsC19 L := rfl
  have h2 : (opC19 b).length = 18 := rfl
  rw [h1, Nat.zero_mul, List.drop_zero, ← h2, List.take_left]
 | b :: L, i + 1, p, h => by
  have h1 : opsC19 (b :: L) = opC19 b ++ opsC19 L := rfl
  have h2 : (opC19 b).length = 18 := rfl
  rw [h1, show (i + 1) * 18 = (opC19 b).length + i * 18 by omega, List.drop_length_add_append]
  exact opsC19_get (by simpa using h)
theorem ops19_loads {ty : Ty} {L : List OpV} {i off : Nat} {p : OpV} (hL : L[i]? = some p) (ho : off = i * 18) (ha : ty.k.agg = true) (hs : ty.size = 18) : LoadsTo ty (Body.plain (opsC19 L)).cells off (.agg ((opC19 p).map .r)) := by
 refine .inr ⟨ha, (opC19 p).map .r, rfl, ?_, ?_⟩
 ·rw [ho, hs, Body.cells, ← List.map_drop, ← List.map_take, opsC19_get hL]
 ·rw [hs]; rfl
theorem opsC19_ne {L : List OpV} {i : Nat} {o : OpV} (h : L[i]? = some o) : opsC19 L ≠ [] := by
 intro c
 cases L with
 | nil => simp at h
 | cons x l => exact absurd (congrArg List.length c) (by simp [opsC19, opC19])
def opB (o : OpV) : Body := .mixed ((opC19 o).map .r)
def lwH (R S : List UInt8) (es : List EV) (o : OpV) : Hp := ⟨51, (50, some (opB o)) :: lwT (rvT R S) es, false⟩
def lwInv (i : Nat) (es : List EV) : Prop := es.length ≤ 8 ∧ ∀ (j : Nat) e, es[j]? = some e → e.L.length ≤ i ∧ (0 ≤ e.t ∧ e.t ≤ 1099511627776)
theorem lwInv_next {i : Nat} {es : List EV} (h : lwInv i es) : lwInv (i + 1) es := ⟨h.1, fun j e he => ⟨Nat.le_succ_of_le (h.2 j e he).1, (h.2 j e he).2⟩⟩
theorem lwInv_snoc {i : Nat} {es : List EV} (h : lwInv i es) (h8 : es.length < 8) (a : AskV) {t : Int} (ht : 0 ≤ t ∧ t ≤ 1099511627776) : lwInv (i + 1) (es ++ [⟨a, t, []⟩]) := by
 refine ⟨by simp; omega, fun j e he => ?_⟩
 rcases Nat.lt_or_ge j es.length with q | q
 ·rw [List.getElem?_append_left q] at he; exact (lwInv_next h).2 j e he
 ·rw [List.getElem?_append_right q] at he
  have h1 := (List.getElem?_eq_some_iff.1 he).1
  simp at h1
  have : j - es.length = 0 := by omega
  rw [this] at he; simp at he; subst he
  exact ⟨Nat.zero_le _, ht⟩
theorem lwInv_set {i : Nat} {es : List EV} (h : lwInv i es) {q : Nat} {e : EV} (he : es[q]? = some e) (b : BidV) : lwInv (i + 1) (es.set q ⟨e.a, e.t, e.L ++ [b]⟩) := by
 have hq := (List.getElem?_eq_some_iff.1 he).1
 refine ⟨by simp; exact h.1, fun j e' hj => ?_⟩
 by_cases c : j = q
 ·subst c; rw [List.getElem?_set_self hq] at hj; cases hj
  have := h.2 j e he
  exact ⟨by simp; exact this.1, this.2⟩
 ·rw [List.getElem?_set_ne (Ne.symm c)] at hj; exact (lwInv_next h).2 j e' hj
theorem es_cases (es : List EV) (a : AskV) : es = [] ∨ (∃ e0 l, es = e0 :: l ∧ fixA a es = none) ∨ (∃ e0 l q ea et, es = e0 :: l ∧ fixA a es = some q ∧ es[q]? = some ⟨ea, et, []⟩) ∨ (∃ e0 l q ea et p L, es = e0 :: l ∧ fixA a es = some q ∧ es[q]? = some ⟨ea, et, p :: L⟩) := by
 cases es with
 | nil => exact .inl rfl
 | cons e0 l =>
  cases hf : fixA a (e0 :: l) with
  | none => exact .inr (.inl ⟨e0, l, rfl, rfl⟩)
  | some q =>
   obtain ⟨⟨ea, et, L⟩, he⟩ := fix_inv hf
   cases L with
   | nil => exact .inr (.inr (.inl ⟨e0, l, q, ea, et, rfl, rfl, he⟩))
   | cons p L => exact .inr (.inr (.inr ⟨e0, l, q, ea, et, p, L, rfl, rfl, he⟩))
theorem val_cases (R S : List UInt8) (b : BidV) : (b.r = 2 ∧ valB R b = false ∧ valB (rtO R S b.r) b = false) ∨ (b.r = 2 ∧ valB R b = true ∧ valB (rtO R S b.r) b = true) ∨ (b.r = 3 ∧ valB S b = false ∧ valB (rtO R S b.r) b = false) ∨ (b.r = 3 ∧ valB S b = true ∧ valB (rtO R S b.r) b = true) ∨ (b.r ≠ 2 ∧ b.r ≠ 3 ∧ valB (rtO R S b.r) b = false) := by
 by_cases h2 : b.r = 2
 ·rw [h2]
  have : rtO R S 2 = R := rfl
  rw [this]
  cases valB R b
  ·exact .inl ⟨rfl, rfl, rfl⟩
  ·exact .inr (.inl ⟨rfl, rfl, rfl⟩)
 ·by_cases h3 : b.r = 3
  ·rw [h3]
   have : rtO R S 3 = S := rfl
   rw [this]
   cases valB S b
   ·exact .inr (.inr (.inl ⟨rfl, rfl, rfl⟩))
   ·exact .inr (.inr (.inr (.inl ⟨rfl, rfl, rfl⟩)))
  ·refine .inr (.inr (.inr (.inr ⟨h2, h3, ?_⟩)))
   refine decide_eq_false ?_
   rintro ⟨q, _⟩
   unfold bidE at q
   split at q
   ·cases q
   ·rw [invE, if_pos (by unfold invBad; simp only [stI]; omega)] at q; cases q
theorem askE_39 {a : AskV} (h : askE a ≠ 0) : askE a = 39 := by rw [askE, if_pos (askE_ne h)]
theorem ownV_ren {ρ : Nat → Nat} (h : ρ 40 = 40) (es : List EV) : AVal.ren ρ (ownV es) = ownV es := by
 cases es with
 | nil => rfl
 | cons x l => simp only [ownV, AVal.ren, h]
theorem lwO_lt {rv : RVal} {es : List EV} {a : AskV} {t : Int} {bx b : Body} (hl : es.length ≤ 8) {j : Nat} (hg : (lwO rv es a t bx).get j = some b) : j < 53 := by
 rcases lwO_inv hg with ⟨rfl, _⟩ | ⟨rfl, _⟩ | ⟨rfl, _⟩ | ⟨rfl, _⟩ | ⟨rfl, _⟩ | ⟨i, e, h1, h2⟩ <;> try omega
 have h3 := (List.getElem?_eq_some_iff.1 h1).1
 rcases h2 with ⟨rfl, _⟩ | ⟨rfl, _⟩ | ⟨rfl, _⟩ <;> omega
theorem lwB_lt {rv : RVal} {es : List EV} {q : Nat} {e : EV} {b : BidV} {bx x : Body} (hl : es.length ≤ 8) (hq : q < 8) {j : Nat} (hg : (lwB rv es q e b bx).get j = some x) : j < 52 := by
 rcases lwB_inv hl hg with ⟨rfl, _⟩ | ⟨rfl, _⟩ | ⟨rfl, _⟩ | ⟨rfl, _⟩ | ⟨i, e', h1, rfl, _⟩ | ⟨_, _, h, _⟩ <;> try omega
 have h3 := (List.getElem?_eq_some_iff.1 h1).1
 omega
section
variable {P : Program} {T : TTab} {f N : Nat} {m : Md} {ops : Array Oper} {o : Oper} {rest : List Oper} {k : List Item} {g : Regs} {h : Hp} {Post : AVal → Hp → Prop}
theorem ar_move (hTO : TOk P T) {t : Bool} {d : Nat} {x : Operand} (hd : o.dst = some d) (hN : Nat.blt d N = true) (hop : o.op = .move x) (hg : guardB ops g o = some t) (ht : t = true) (hk : AReg P f N m ops rest k ((d, evA g x) :: g) h Post) : AReg P f N m ops (o :: rest) k g h Post := by
 refine ar_pure hTO (v := evA g x) (c := True) ?_ hg ht trivial hk
 rw [stepPure_eq, hd]
 simp only [hN, cond_true, hop, pureOp]
theorem stepApp_plain {T : TTab} {N : Nat} {g : Regs} {h : Hp} {o : Oper} {d : Nat} {c : Call} {s x : Operand} {t t2 e e2 : TypeId} {ty ty2 te : Ty} (hd : o.dst = some d) (hop : o.op = .call c) (hN : Nat.blt d N = true) (hcal : c.callee = .builtin .append) (hargs : c.args.toList = [s, x]) (hty : c.argTypes.toList = [t, t2])
  (hT : T.look t = some ty) (hk : ty.k = .slice e) (hT2 : T.look t2 = some ty2) (hk2 : ty2.k = .slice e2) (hE : T.look e = some te) {β n k z : Nat} {xs ys : List RVal} (hz : te.size = z) (hs : evA g s = .sl β 0 n z) (hβ : h.get β = some (.plain xs))
  (hx : evA g x = .r (.ro k ys)) : stepApp T N g h o = some (d, (n + k, te.size), some β, .plain (cutA xs 0 (n * z) ++ ys), (0 + n * z ≤ xs.length ∧ ys.length = k * z ∧ True) ∧ ((n + k) * te.bytes ≤ 140737488355328 ∧ n + k ≤ 9223372036854775807) ∧ (te.zero ≠ [] ∧ te.zero.length = te.size) ∧ appPos (some β) (n + k)) := by
 obtain ⟨tk, _, _, _⟩ := ty
 simp only at hk
 subst hk
 have hb : baseA te.size h (evA g s) = some (n, .plain (cutA xs 0 (n * z)), some β, 0 + n * z ≤ xs.length) := by
  rw [hs]; simp only [baseA, hβ, hz, Nat.beq_refl, cond_true, cutBody, Option.map_some]
 have hsr : srcA te.size h (evA g x) = some (k, .plain ys, ys.length = k * z) := by
  rw [hx]; simp only [srcA, hz]
 have hq : appQ (some β) (.plain (cutA xs 0 (n * z))) (.plain ys) = some (.plain (cutA xs 0 (n * z) ++ ys), True) := by simp only [appQ, appB]
 unfold stepApp
 rw [hd, hop]
 simp only [hN, cond_true, hcal, hargs, hty, hT, hT2, hE, hb, hsr, hq, hk2]
theorem storeF_one {cs : List AVal} {off : Nat} {v : AVal} (ho : off < cs.length) (hv : oneA v = true) : storeF (.mixed cs) off [v] = some (.mixed (cs.set off v), True) := by
 have h1 : ([v].all oneA && Nat.ble (off + [v].length) cs.length) = true := by
  simp only [List.all_cons, hv, List.all_nil, Bool.and_true, List.length_cons, List.length_nil, Bool.true_and]
  exact Nat.ble_eq_true_of_le (by omega)
 simp only [storeF, h1, cond_true, forceL_eq, setsL]
end
def stLAR_0 (R S : List UInt8) (ops : List OpV) : Nat × List EV → Regs × Hp := fun ⟨i, es⟩ => ([(0, .r (.ro ops.length (opsC19 ops))), (3, .r (.ro 2 [.str R, .str S])), (4, .ptr 0 0), (5, ownV es), (6, .r (.int .i64 (i : Int)))], ⟨50, lwT (rvT R S) es, false⟩)
def prLAR_0 (R S : List UInt8) (ops : List OpV) : Nat × List EV → Prop := fun ⟨i, es⟩ => i ≤ 25 ∧ i ≤ ops.length ∧ lwInv i es
def stLAR_4 (R S : List UInt8) (ops : List OpV) (o : OpV) (i : Nat) (e0 : EV) (l : List EV) (q : Nat) (p : BidV) (L : List BidV) : Nat × Bool → Regs × Hp := fun ⟨k, ok⟩ => ([(0, .r (.ro ops.length (opsC19 ops))), (3, .r (.ro 2 [.str R, .str S])), (4, .ptr 0 0), (5, ownV (e0 :: l)), (6, .r (.int .i64 (i : Int))), (7, .ptr 50 0), (8, .r (.int .i64 (q : Int))), (11, .r (.bool ok)), (12, .r (.int .i64 (k : Int)))], lwH R S (e0 :: l) o)
def prLAR_4 (R S : List UInt8) (ops : List OpV) (o : OpV) (i : Nat) (e0 : EV) (l : List EV) (q : Nat) (p : BidV) (L : List BidV) : Nat × Bool → Prop := fun ⟨k, ok⟩ => (ok = true ∧ k ≤ L.length + 1 ∧ ∀ (j : Nat) p', j < k → (p :: L)[j]? = some p' → decide (p'.r = o.b.r) = false) ∨ (ok = false ∧ (fixR o.b.r (p :: L)).isSome = true)
def stLAR_6 (R S : List UInt8) (ops : List OpV) (o : OpV) (i : Nat) (e1 : EV) (l1 : List EV) (q : Nat) (p : BidV) (L : List BidV) : Nat → Regs × Hp := fun k => ([(0, .r (.ro ops.length (opsC19 ops))), (3, .r (.ro 2 [.str R, .str S])), (4, .ptr 0 0), (5, ownV (e1 :: l1)), (6, .r (.int .i64 (i : Int))), (7, .ptr 50 0), (8, .r (.int .i64 (q : Int))), (18, .r (.ro (L.length + 1) (bidsC (p :: L)))), (19, .r (.int .i64 ((L.length + 1 : Nat) : Int))), (20, .r (.int .i64 (k : Int)))], lwH R S (e1 :: l1) o)
def prLAR_6 (R S : List UInt8) (ops : List OpV) (o : OpV) (i : Nat) (e1 : EV) (l1 : List EV) (q : Nat) (p : BidV) (L : List BidV) : Nat → Prop := fun k => k ≤ L.length + 1
set_option maxHeartbeats 8000000 in
theorem w_AuctionRuns (ops : List OpV) (hops : ∀ o ∈ ops, o.ok) : Pur Tryz.prog 3 [.r (.ro ops.length (opsC19 ops))] (.r (.bool true)) := by
 obtain ⟨R, hR⟩ : ∃ r, r = rootL (seedL 2) := ⟨_, rfl⟩
 obtain ⟨S, hS⟩ : ∃ r, r = rootL (seedL 3) := ⟨_, rfl⟩
 have cR := w_Root (seedL 2) (by rw [seedL_length]; decide)
 have cS := w_Root (seedL 3) (by rw [seedL_length]; decide)
 rw [← hR] at cR
 rw [← hS] at cS
 clear hR hS
 refine spec_of_go (N := 265) Tryz.func3 rfl (by decide) rfl rfl ?_
 refine zB ?_
 refine pF ?_
 refine zB ?_
 refine ar_pur (w_alive19) rfl rfl rfl rfl rfl rfl rfl ?_
 refine pE ?_
 refine vC ?_
 refine ag_skip ?_
 refine zB ?_
 refine ar_pur (w_bSeed 2) rfl rfl rfl rfl rfl rfl rfl ?_
 refine ar_pur (cR) rfl rfl rfl rfl rfl rfl rfl ?_
 refine ar_pur (w_bSeed 3) rfl rfl rfl rfl rfl rfl rfl ?_
 refine ar_pur (cS) rfl rfl rfl rfl rfl rfl rfl ?_
 refine ar_qd rfl (qop_buildRo tOk rfl ?_ rfl) rfl rfl rfl rfl ?_
 ·repeat any_goals (first | trivial | decide | omega | (simp; done) | (rw [wu8]; omega) | refine ⟨?_, ?_⟩)
 refine pG ?_
 refine pA ?_
 refine ar_obj [] (w_New2 R S) rfl rfl (handed_of rfl rfl (by decide) trivial) rfl rfl rfl rfl ?_
 rintro _ _ ⟨rfl, rfl⟩
 refine ⟨_, _, rfl, ?_⟩
 refine pG ?_
 refine pF ?_
 refine zB ?_
 refine pE ?_
 refine ag_block ?_
 refine ag_loopS (stLAR_0 R S ops) (prLAR_0 R S ops) (fun ⟨i, es⟩ => ops.length - i) (0, []) (ent_lw0 rfl ?_) (show prLAR_0 R S ops (0, []) from ?_) ?_
 ·exact ⟨⟨rfl, rfl⟩, ⟨rfl, rfl⟩, ⟨rfl, rfl⟩, ⟨rfl, rfl⟩, ⟨rfl, rfl⟩, trivial⟩
 ·exact ⟨by omega, Nat.zero_le _, by decide, fun j e he => by simp at he⟩
 rintro ⟨i, es⟩ hp hrec
 obtain ⟨hi25, hin0, hin⟩ : _ := hp
 refine sZ ?_
 iterate 5 refine pA ?_
 refine ar_guard (t := decide ((i : Int) < ((ops.length : Nat) : Int))) (fun ht => ?_) (fun ht => ?_)
 ·refine ar_ent (ent_reg 34 (.r (.bool true)) (by show AVal.r (.bool _) = _; exact eqB ht)) ?_
  have hi2 : i < ops.length := by have := of_decide_eq_true ht; omega
  iterate 2 refine pA ?_
  refine pE ?_
  refine ag_cond rfl ?_ ?_
  ·intro h37
   have hi3 : i < 25 := by have : (i : Int) < 25 := of_decide_eq_true h37; omega
   obtain ⟨o, ho0⟩ : ∃ o, ops[i]? = some o := ⟨_, List.getElem?_eq_getElem hi2⟩
   have ho := hops o (List.mem_of_getElem? ho0)
   refine sS ?_
   refine bX ?_
   iterate 2 refine pA ?_
   refine pC ?_ ?_
   ·exact ⟨⟨by omega, by omega⟩, opsC19_ne ho0⟩
   refine ar_loadAs tOk (.agg ((opC19 o).map .r)) rfl rfl rfl rfl rfl rfl rfl (ops19_loads ho0 (by simp [addo_eq, mulz_eq]) rfl rfl) ?_
   refine pN ?_ ?_
   ·simp
   refine ar_store (h' := ⟨51, (50, some (opB o)) :: (50, some (opB op0)) :: lwT (rvT R S) es, false⟩) (c := True) tOk (by kernel_rfl) rfl rfl trivial ?_
   refine ar_nil ?_
   refine ag_ent (ent_weakS (S := lwT (rvT R S) es) (n := 50) (g' := [(0, .r (.ro ops.length (opsC19 ops))), (3, .r (.ro 2 [.str R, .str S])), (4, .ptr 0 0), (5, ownV es), (6, .r (.int .i64 (i : Int))), (7, .ptr 50 0)]) (h' := lwH R S es o) [50] 2 1 (symOk_lw hin.1 (by omega)) rfl rfl rfl ?_ rfl rfl rfl rfl rfl rfl rfl ?_ rfl) ?_
   ·exact ⟨⟨rfl, rfl, rfl⟩, trivial⟩
   ·exact ⟨⟨rfl, rfl⟩, ⟨rfl, rfl⟩, ⟨rfl, rfl⟩, ⟨by exact ownV_nb (n := 51) (by decide) _, by exact ownV_ren rfl _⟩, ⟨rfl, rfl⟩, ⟨rfl, rfl⟩, trivial⟩
   refine zB ?_
   refine ar_move tOk rfl rfl rfl rfl rfl ?_
   refine ar_ent (ent_reg 44 (ownV es) rfl) ?_
   iterate 2 refine pA ?_
   refine pB ?_
   refine ar_qd rfl (qop_subH (w_lfind o.b.a hin.1) (fun _ _ h => h) rfl (by show (AVal.nb 50 (ownV es) && (true && true)) = true; rw [ownV_nb (by omega)]; rfl) (subH_own hin.1 (by show 50 ≤ 51; omega) rfl) (rfl)) rfl rfl rfl rfl ?_
   refine pF ?_
   refine zB ?_
   refine pA ?_
   refine pB ?_
   refine pC ?_ ?_
   ·decide
   refine pC ?_ ?_
   ·have h1 := Int.lt_tmod_of_pos o.k (show (0 : Int) < 3 by decide); have h2 := Int.tmod_lt_of_pos o.k (show (0 : Int) < 3 by decide); unfold inI64; omega
   refine pC ?_ ?_
   ·decide
   refine ar_nil ?_
   refine ag_join (fun (es2 : List EV) => ([(0, .r (.ro ops.length (opsC19 ops))), (3, .r (.ro 2 [.str R, .str S])), (4, .ptr 0 0), (5, ownV es2), (6, .r (.int .i64 (i : Int))), (7, .ptr 50 0)], lwH R S es2 o)) (fun es2 => lwInv (i + 1) es2) ?_ ?_
   ·intro hjn
    refine ag_block ?_
    refine ag_seq ?_
    rcases es_cases es o.b.a with rfl | ⟨e0, l, rfl, hf⟩ | ⟨e0, l, q, ea, et, rfl, hf, he⟩ | ⟨e0, l, q, ea, et, p, L, rfl, hf, he⟩
    ·skip
     have hl : [].length ≤ 8 := hin.1
     have hf : fixA o.b.a [] = none := rfl
     refine ag_ent (ent_reg 8 (.r (.int .i64 (-1))) (by show AVal.r (.int _ _) = _; exact eqI (ixI_miss hf))) ?_
     refine ag_reg ?_
     refine pA ?_
     refine pE ?_
     refine ag_if rfl ?_ ?_
     ·intro h85
      refine ag_seq ?_
      by_cases hb : askE o.b.a = 0
      ·skip
       have h8 : ([] : List EV).length < 8 := by decide
       have cA39 := w_rAsk o.b.a
       rw [hb] at cA39
       refine ag_reg ?_
       iterate 3 refine pA ?_
       refine pB ?_
       refine pA ?_
       refine pB ?_
       refine ar_over (w_OpenOk (rv := rvT R S) (es := []) o.now hb h8 hf) rfl rfl (subH_lw (es := []) 51 1 hl (by omega) rfl rfl (by show 51 ≤ 51; omega)) rfl rfl rfl rfl rfl ?_
       rintro _ _ ⟨rfl, rfl⟩
       refine ar_ent (ent_lwO hl rfl) ?_
       skip
       refine pE ?_
       refine bX ?_
       iterate 2 refine pA ?_
       refine pB ?_
       refine ar_pur (cA39) rfl rfl rfl rfl rfl rfl rfl ?_
       refine pA ?_
       refine pE ?_
       refine vC ?_
       refine zB ?_
       iterate 2 refine pA ?_
       refine pE ?_
       refine vC ?_
       refine zB ?_
       iterate 3 refine pA ?_
       refine pE ?_
       refine vC ?_
       refine zB ?_
       refine pA ?_
       refine pB ?_
       refine pF ?_
       refine zB ?_
       iterate 3 refine pA ?_
       refine ar_guard (t := decide (o.now < 0)) (fun ht => ?_) (fun ht => ?_)
       ·refine ar_ent (ent_reg 98 (.r (.bool true)) (by show AVal.r (.bool _) = _; exact eqB ht)) ?_
        have hc1 : o.now < 0 := of_decide_eq_true ht
        repeat (first | refine ar_skip rfl rfl rfl ?_ | refine ar_pure tOk rfl rfl rfl trivial ?_)
        refine ar_nil ?_
        refine ag_join (fun (t : Int) => ([(0, .r (.ro ops.length (opsC19 ops))), (3, .r (.ro 2 [.str R, .str S])), (4, .ptr 0 0), (5, ownV []), (6, .r (.int .i64 (i : Int))), (7, .ptr 50 0), (9, .r (.int .i64 0)), (10, .r (.int .i64 t))], lwO (rvT R S) [] o.b.a (clampT o.now) (opB o))) (fun t => t = clampT o.now) ?_ ?_
        ·intro hjn
         refine vB ?_
         refine ag_reg ?_
         refine pE ?_
         refine ag_ent (ent_keep (g' := (((fun (t : Int) => ([(0, .r (.ro ops.length (opsC19 ops))), (3, .r (.ro 2 [.str R, .str S])), (4, .ptr 0 0), (5, ownV []), (6, .r (.int .i64 (i : Int))), (7, .ptr 50 0), (9, .r (.int .i64 0)), (10, .r (.int .i64 t))], lwO (rvT R S) [] o.b.a (clampT o.now) (opB o))) 0) : Regs × Hp).1) ?_) (hjn 0 ?_)
         ·exact ⟨rfl, rfl, rfl, rfl, rfl, rfl, rfl, rfl, trivial⟩
         ·show (0 : Int) = clampT o.now; rw [clampT, if_pos (.inl hc1)]
        ·rintro t hjp
         subst hjp
         refine zB ?_
         iterate 3 refine pA ?_
         refine pB ?_
         refine pA ?_
         refine pC ?_ ?_
         ·simp
         refine pN ?_ ?_
         ·simp
         refine pP ?_ ?_
         ·refine ⟨⟨?_, ?_, ?_⟩, ⟨?_, ?_⟩, ⟨?_, ?_⟩, ?_⟩ <;> first | trivial | decide | omega | (simp; done) | (simp; omega) | (show 0 + _ * 16 ≤ List.length (bidsC _); rw [bidsC_len, List.length_cons]; omega) | (simp [bidC]; done)
         refine pG ?_
         refine pA ?_
         refine pE ?_
         refine vC ?_
         refine ag_skip ?_
         iterate 2 refine ag_inBlock ?_
         refine ag_ent (ent_body 54 _ (.mixed (ownC 0 [] ++ entC o.b.a (clampT o.now) (.r .nil))) rfl rfl) ?_
         refine ag_ent (ent_lwOpen (rv := rvT R S) (es := []) (a := o.b.a) (t := clampT o.now) (bx := opB o) (g' := (((fun (es2 : List EV) => ([(0, .r (.ro ops.length (opsC19 ops))), (3, .r (.ro 2 [.str R, .str S])), (4, .ptr 0 0), (5, ownV es2), (6, .r (.int .i64 (i : Int))), (7, .ptr 50 0)], lwH R S es2 o)) ([] ++ [⟨o.b.a, clampT o.now, []⟩])) : Regs × Hp).1) rfl h8 rfl rfl rfl rfl ?_ ?_) (hjn ([] ++ [⟨o.b.a, clampT o.now, []⟩]) ?_)
         ·exact fun j x h40 hg => (look_ne (show 54 ≠ j by have := lwO_lt hl hg; omega)).trans ((look_ne (show 54 ≠ j by have := lwO_lt hl hg; omega)).trans ((look_ne (show 53 ≠ j by have := lwO_lt hl hg; omega)).trans hg))
         ·exact ⟨⟨rfl, rfl⟩, ⟨rfl, rfl⟩, ⟨rfl, by show AVal.ptr (rhoO2 _ 0) 0 = _; rw [rhoO2_ne (by omega) (by omega) (by first | omega | (simp only [List.length_cons, List.length_nil]; omega))]; rfl⟩, ⟨ownV_nb (n := 51) (by decide) _, by rw [ownV_snoc]; rfl⟩, ⟨rfl, rfl⟩, ⟨rfl, by show AVal.ptr (rhoO2 _ 50) 0 = _; rw [rhoO2_ne (by omega) (by omega) (by first | omega | (simp only [List.length_cons, List.length_nil]; omega))]; rfl⟩, trivial⟩
         ·exact lwInv_snoc hin h8 _ (clampT_ok _)
       ·refine ar_ent (ent_reg 98 (.r (.bool false)) (by show AVal.r (.bool _) = _; exact eqB ht)) ?_
        have hc1 : ¬ o.now < 0 := of_decide_eq_false ht
        iterate 2 refine pA ?_
        refine pE ?_
        refine ag_join (fun (t : Int) => ([(0, .r (.ro ops.length (opsC19 ops))), (3, .r (.ro 2 [.str R, .str S])), (4, .ptr 0 0), (5, ownV []), (6, .r (.int .i64 (i : Int))), (7, .ptr 50 0), (9, .r (.int .i64 0)), (10, .r (.int .i64 t))], lwO (rvT R S) [] o.b.a (clampT o.now) (opB o))) (fun t => t = clampT o.now) ?_ ?_
        ·intro hjn
         refine ag_cond rfl ?_ ?_
         ·intro h101
          have hc2 : o.now > 1099511627776 := of_decide_eq_true h101
          refine ag_reg ?_
          refine pE ?_
          refine ag_ent (ent_keep (g' := (((fun (t : Int) => ([(0, .r (.ro ops.length (opsC19 ops))), (3, .r (.ro 2 [.str R, .str S])), (4, .ptr 0 0), (5, ownV []), (6, .r (.int .i64 (i : Int))), (7, .ptr 50 0), (9, .r (.int .i64 0)), (10, .r (.int .i64 t))], lwO (rvT R S) [] o.b.a (clampT o.now) (opB o))) 0) : Regs × Hp).1) ?_) (hjn 0 ?_)
          ·exact ⟨rfl, rfl, rfl, rfl, rfl, rfl, rfl, rfl, trivial⟩
          ·show (0 : Int) = clampT o.now; rw [clampT, if_pos (.inr hc2)]
         ·intro h101
          have hc2 : ¬ o.now > 1099511627776 := of_decide_eq_false h101
          refine ag_skip ?_
          refine ag_ent (ent_keep (g' := (((fun (t : Int) => ([(0, .r (.ro ops.length (opsC19 ops))), (3, .r (.ro 2 [.str R, .str S])), (4, .ptr 0 0), (5, ownV []), (6, .r (.int .i64 (i : Int))), (7, .ptr 50 0), (9, .r (.int .i64 0)), (10, .r (.int .i64 t))], lwO (rvT R S) [] o.b.a (clampT o.now) (opB o))) o.now) : Regs × Hp).1) ?_) (hjn o.now ?_)
          ·exact ⟨rfl, rfl, rfl, rfl, rfl, rfl, rfl, rfl, trivial⟩
          ·show o.now = clampT o.now; rw [clampT, if_neg (by rintro (c | c); exact hc1 c; exact hc2 c)]
        ·rintro t hjp
         subst hjp
         refine zB ?_
         iterate 3 refine pA ?_
         refine pB ?_
         refine pA ?_
         refine pC ?_ ?_
         ·simp
         refine pN ?_ ?_
         ·simp
         refine pP ?_ ?_
         ·refine ⟨⟨?_, ?_, ?_⟩, ⟨?_, ?_⟩, ⟨?_, ?_⟩, ?_⟩ <;> first | trivial | decide | omega | (simp; done) | (simp; omega) | (show 0 + _ * 16 ≤ List.length (bidsC _); rw [bidsC_len, List.length_cons]; omega) | (simp [bidC]; done)
         refine pG ?_
         refine pA ?_
         refine pE ?_
         refine vC ?_
         refine ag_skip ?_
         iterate 2 refine ag_inBlock ?_
         refine ag_ent (ent_body 54 _ (.mixed (ownC 0 [] ++ entC o.b.a (clampT o.now) (.r .nil))) rfl rfl) ?_
         refine ag_ent (ent_lwOpen (rv := rvT R S) (es := []) (a := o.b.a) (t := clampT o.now) (bx := opB o) (g' := (((fun (es2 : List EV) => ([(0, .r (.ro ops.length (opsC19 ops))), (3, .r (.ro 2 [.str R, .str S])), (4, .ptr 0 0), (5, ownV es2), (6, .r (.int .i64 (i : Int))), (7, .ptr 50 0)], lwH R S es2 o)) ([] ++ [⟨o.b.a, clampT o.now, []⟩])) : Regs × Hp).1) rfl h8 rfl rfl rfl rfl ?_ ?_) (hjn ([] ++ [⟨o.b.a, clampT o.now, []⟩]) ?_)
         ·exact fun j x h40 hg => (look_ne (show 54 ≠ j by have := lwO_lt hl hg; omega)).trans ((look_ne (show 54 ≠ j by have := lwO_lt hl hg; omega)).trans ((look_ne (show 53 ≠ j by have := lwO_lt hl hg; omega)).trans hg))
         ·exact ⟨⟨rfl, rfl⟩, ⟨rfl, rfl⟩, ⟨rfl, by show AVal.ptr (rhoO2 _ 0) 0 = _; rw [rhoO2_ne (by omega) (by omega) (by first | omega | (simp only [List.length_cons, List.length_nil]; omega))]; rfl⟩, ⟨ownV_nb (n := 51) (by decide) _, by rw [ownV_snoc]; rfl⟩, ⟨rfl, rfl⟩, ⟨rfl, by show AVal.ptr (rhoO2 _ 50) 0 = _; rw [rhoO2_ne (by omega) (by omega) (by first | omega | (simp only [List.length_cons, List.length_nil]; omega))]; rfl⟩, trivial⟩
         ·exact lwInv_snoc hin h8 _ (clampT_ok _)
      ·skip
       have cA39 := w_rAsk o.b.a
       rw [askE_39 hb] at cA39
       refine ag_reg ?_
       iterate 3 refine pA ?_
       refine pB ?_
       refine pA ?_
       refine pB ?_
       refine ar_qd rfl (qop_subH (w_OpenBad (rvT R S) [] o.b.a o.now hl hb) (fun _ _ h => h) rfl (rfl) (subH_lw (es := []) 40 1 hl (by omega) rfl rfl (by show 40 ≤ 51; omega)) (rfl)) rfl rfl rfl rfl ?_
       refine ar_ent (ent_reg 93 (.r (.int .i64 (39))) (by show AVal.r (.int _ _) = _; exact eqI (askE_39 hb))) ?_
       refine pE ?_
       refine bX ?_
       iterate 2 refine pA ?_
       refine pB ?_
       refine ar_pur (cA39) rfl rfl rfl rfl rfl rfl rfl ?_
       refine pA ?_
       refine pE ?_
       refine vB ?_
       refine zB ?_
       refine pA ?_
       refine pE ?_
       refine vC ?_
       refine ag_skip ?_
       iterate 2 refine ag_inBlock ?_
       refine ag_ent (ent_keep (g' := (((fun (es2 : List EV) => ([(0, .r (.ro ops.length (opsC19 ops))), (3, .r (.ro 2 [.str R, .str S])), (4, .ptr 0 0), (5, ownV es2), (6, .r (.int .i64 (i : Int))), (7, .ptr 50 0)], lwH R S es2 o)) []) : Regs × Hp).1) ?_) (hjn [] ?_)
       ·exact ⟨rfl, rfl, rfl, rfl, rfl, rfl, trivial⟩
       ·exact lwInv_next hin
     ·intro h85
      refine zB ?_
      refine pA ?_
      refine pE ?_
      refine ag_if rfl ?_ ?_
      ·intro h131
       refine zB ?_
       iterate 3 refine pA ?_
       refine ar_ent (ent_reg 135 (.r (.bool false)) (by show AVal.r (.bool _) = _; exact eqB (by rfl))) ?_
       iterate 6 refine ar_skip rfl rfl rfl ?_
       refine pA ?_
       refine pF ?_
       refine ag_seq ?_
       refine ag_ent (ent_reg 11 (.r (.bool false)) (rfl)) ?_
       refine ag_reg ?_
       refine pE ?_
       refine ag_block ?_
       refine ag_unroll ?_
       refine sZ ?_
       iterate 2 refine pA ?_
       refine ar_ent (ent_reg 144 (.r (.bool false)) (by show AVal.r (.bool _) = _; exact eqB (by rfl))) ?_
       iterate 8 refine ar_skip rfl rfl rfl ?_
       refine pE ?_
       refine vC ?_
       refine ag_exit rfl ?_
       refine ag_seq ?_
       refine qD ?_
       iterate 2 refine qA ?_
       iterate 10 refine aq_skip rfl rfl rfl ?_
       iterate 2 refine qA ?_
       iterate 10 refine aq_skip rfl rfl rfl ?_
       refine qA ?_
       refine qE ?_
       refine sZ ?_
       iterate 2 refine pA ?_
       refine pB ?_
       refine pA ?_
       refine pB ?_
       refine ar_qd rfl (qop_subH (w_BidMiss R S [] o.b o.now hl hf) (fun _ _ h => h) rfl (rfl) (subH_lw (es := []) 40 1 hl (by omega) rfl rfl (by show 40 ≤ 51; omega)) (rfl)) rfl rfl rfl rfl ?_
       refine pA ?_
       refine pE ?_
       refine vC ?_
       refine ag_skip ?_
       refine zB ?_
       refine pE ?_
       refine vC ?_
       refine ag_skip ?_
       refine ag_inBlock ?_
       refine ag_ent (ent_keep (g' := (((fun (es2 : List EV) => ([(0, .r (.ro ops.length (opsC19 ops))), (3, .r (.ro 2 [.str R, .str S])), (4, .ptr 0 0), (5, ownV es2), (6, .r (.int .i64 (i : Int))), (7, .ptr 50 0)], lwH R S es2 o)) []) : Regs × Hp).1) ?_) (hjn [] ?_)
       ·exact ⟨rfl, rfl, rfl, rfl, rfl, rfl, trivial⟩
       ·exact lwInv_next hin
      ·intro h131
       refine ag_seq ?_
       skip
       refine ag_reg ?_
       iterate 3 refine pA ?_
       refine pB ?_
       refine pA ?_
       refine pB ?_
       refine pA ?_
       refine ar_qd rfl (qop_subH (w_BestMiss (rvT R S) [] o.b.a o.now (i : Int) hl hf) (fun _ _ h => h) rfl (rfl) (subH_lw (es := []) 40 1 hl (by omega) rfl rfl (by show 40 ≤ 51; omega)) (rfl)) rfl rfl rfl rfl ?_
       iterate 3 refine pA ?_
       refine pN ?_ ?_
       ·simp
       refine ar_store (h' := ⟨52, (51, some (.mixed ((bidC bid0).map .r))) :: (51, some (.mixed ((bidC bid0).map .r))) :: (50, some (opB o)) :: lwT (rvT R S) [], false⟩) (c := True) tOk (by kernel_rfl) rfl rfl trivial ?_
       refine pG ?_
       refine pN ?_ ?_
       ·simp
       refine zC ?_
       refine pF ?_
       refine zB ?_
       refine pA ?_
       refine pE ?_
       refine vC ?_
       refine ag_skip ?_
       refine zB ?_
       iterate 4 refine pA ?_
       refine ar_ent (ent_reg 80 (.r (.bool false)) (by show AVal.r (.bool _) = _; exact eqB (by rfl))) ?_
       iterate 2 refine pB ?_
       refine pA ?_
       refine pE ?_
       refine ag_false rfl (by first | rfl | simp) ?_
       refine ag_skip ?_
       refine ag_inBlock ?_
       refine ag_ent (ent_weakS (S := lwT (rvT R S) []) (n := 50) (g' := (((fun (es2 : List EV) => ([(0, .r (.ro ops.length (opsC19 ops))), (3, .r (.ro 2 [.str R, .str S])), (4, .ptr 0 0), (5, ownV es2), (6, .r (.int .i64 (i : Int))), (7, .ptr 50 0)], lwH R S es2 o)) []) : Regs × Hp).1) (h' := (((fun (es2 : List EV) => ([(0, .r (.ro ops.length (opsC19 ops))), (3, .r (.ro 2 [.str R, .str S])), (4, .ptr 0 0), (5, ownV es2), (6, .r (.int .i64 (i : Int))), (7, .ptr 50 0)], lwH R S es2 o)) []) : Regs × Hp).2) [50] 4 1 (symOk_lw hl (by omega)) rfl rfl rfl ?_ rfl rfl rfl rfl rfl rfl rfl ?_ rfl) (hjn [] ?_)
       ·exact ⟨⟨rfl, rfl, rfl⟩, trivial⟩
       ·exact ⟨⟨rfl, rfl⟩, ⟨rfl, rfl⟩, ⟨rfl, rfl⟩, ⟨ownV_nb (n := 51) (by decide) _, ownV_ren rfl _⟩, ⟨rfl, rfl⟩, ⟨rfl, rfl⟩, trivial⟩
       ·exact lwInv_next hin
    ·skip
     have hl : (e0 :: l).length ≤ 8 := hin.1
     have hl2 : l.length + 1 ≤ 8 := hl
     refine ag_ent (ent_reg 8 (.r (.int .i64 (-1))) (by show AVal.r (.int _ _) = _; exact eqI (ixI_miss hf))) ?_
     refine ag_reg ?_
     refine pA ?_
     refine pE ?_
     refine ag_if rfl ?_ ?_
     ·intro h85
      refine ag_seq ?_
      rcases (show (askE o.b.a = 0 ∧ l.length + 1 < 8) ∨ (askE o.b.a = 0 ∧ l.length + 1 = 8) ∨ askE o.b.a ≠ 0 by omega) with ⟨hb, h8⟩ | ⟨hb, h8⟩ | hb
      ·skip
       have cA39 := w_rAsk o.b.a
       rw [hb] at cA39
       refine ag_reg ?_
       iterate 3 refine pA ?_
       refine pB ?_
       refine pA ?_
       refine pB ?_
       refine ar_over (w_OpenOk (rv := rvT R S) (es := (e0 :: l)) o.now hb h8 hf) rfl rfl (subH_lw (es := (e0 :: l)) 51 1 hl (by omega) rfl rfl (by show 51 ≤ 51; omega)) rfl rfl rfl rfl rfl ?_
       rintro _ _ ⟨rfl, rfl⟩
       refine ar_ent (ent_lwO hl rfl) ?_
       skip
       refine pE ?_
       refine bX ?_
       iterate 2 refine pA ?_
       refine pB ?_
       refine ar_pur (cA39) rfl rfl rfl rfl rfl rfl rfl ?_
       refine pA ?_
       refine pE ?_
       refine vC ?_
       refine zB ?_
       iterate 2 refine pA ?_
       refine pE ?_
       refine vC ?_
       refine zB ?_
       iterate 3 refine pA ?_
       refine pE ?_
       refine ag_false rfl (decide_eq_false (show ¬ ((l.length + 1 : Nat) : Int) ≥ 8 by omega)) ?_
       refine zB ?_
       refine pA ?_
       refine pB ?_
       refine pF ?_
       refine zB ?_
       iterate 3 refine pA ?_
       refine ar_guard (t := decide (o.now < 0)) (fun ht => ?_) (fun ht => ?_)
       ·refine ar_ent (ent_reg 98 (.r (.bool true)) (by show AVal.r (.bool _) = _; exact eqB ht)) ?_
        have hc1 : o.now < 0 := of_decide_eq_true ht
        repeat (first | refine ar_skip rfl rfl rfl ?_ | refine ar_pure tOk rfl rfl rfl trivial ?_)
        refine ar_nil ?_
        refine ag_join (fun (t : Int) => ([(0, .r (.ro ops.length (opsC19 ops))), (3, .r (.ro 2 [.str R, .str S])), (4, .ptr 0 0), (5, ownV (e0 :: l)), (6, .r (.int .i64 (i : Int))), (7, .ptr 50 0), (9, .r (.int .i64 0)), (10, .r (.int .i64 t))], lwO (rvT R S) (e0 :: l) o.b.a (clampT o.now) (opB o))) (fun t => t = clampT o.now) ?_ ?_
        ·intro hjn
         refine vB ?_
         refine ag_reg ?_
         refine pE ?_
         refine ag_ent (ent_keep (g' := (((fun (t : Int) => ([(0, .r (.ro ops.length (opsC19 ops))), (3, .r (.ro 2 [.str R, .str S])), (4, .ptr 0 0), (5, ownV (e0 :: l)), (6, .r (.int .i64 (i : Int))), (7, .ptr 50 0), (9, .r (.int .i64 0)), (10, .r (.int .i64 t))], lwO (rvT R S) (e0 :: l) o.b.a (clampT o.now) (opB o))) 0) : Regs × Hp).1) ?_) (hjn 0 ?_)
         ·exact ⟨rfl, rfl, rfl, rfl, rfl, rfl, rfl, rfl, trivial⟩
         ·show (0 : Int) = clampT o.now; rw [clampT, if_pos (.inl hc1)]
        ·rintro t hjp
         subst hjp
         refine zB ?_
         iterate 3 refine pA ?_
         refine pB ?_
         refine pA ?_
         refine pC ?_ ?_
         ·simp
         refine pN ?_ ?_
         ·simp
         refine ar_app tOk (stepApp_mixed (β := 40) (γ := 53) rfl rfl rfl rfl rfl rfl rfl rfl rfl rfl rfl rfl rfl rfl (by rw [ownC_len]; rfl) (ownC_one _ _) rfl rfl rfl rfl) rfl rfl ?_ ?_
         ·refine ⟨⟨?_, ?_, ?_⟩, ⟨?_, ?_⟩, ⟨?_, ?_⟩, ?_⟩ <;> first | trivial | decide | omega | (simp; done) | (simp; omega) | (show 0 + _ * 16 ≤ List.length (bidsC _); rw [bidsC_len, List.length_cons]; omega) | (simp [bidC]; done)
         refine pG ?_
         refine pA ?_
         refine pE ?_
         refine vC ?_
         refine ag_skip ?_
         iterate 2 refine ag_inBlock ?_
         refine ag_ent (ent_lwOpen (rv := rvT R S) (es := (e0 :: l)) (a := o.b.a) (t := clampT o.now) (bx := opB o) (g' := (((fun (es2 : List EV) => ([(0, .r (.ro ops.length (opsC19 ops))), (3, .r (.ro 2 [.str R, .str S])), (4, .ptr 0 0), (5, ownV es2), (6, .r (.int .i64 (i : Int))), (7, .ptr 50 0)], lwH R S es2 o)) ((e0 :: l) ++ [⟨o.b.a, clampT o.now, []⟩])) : Regs × Hp).1) rfl h8 rfl rfl rfl rfl ?_ ?_) (hjn ((e0 :: l) ++ [⟨o.b.a, clampT o.now, []⟩]) ?_)
         ·exact fun j x h40 hg => (look_ne (show 54 ≠ j by have := lwO_lt hl hg; omega)).trans ((look_ne (show 40 ≠ j by have := lwO_lt hl hg; omega)).trans ((look_ne (show 53 ≠ j by have := lwO_lt hl hg; omega)).trans hg))
         ·exact ⟨⟨rfl, rfl⟩, ⟨rfl, rfl⟩, ⟨rfl, by show AVal.ptr (rhoO2 _ 0) 0 = _; rw [rhoO2_ne (by omega) (by omega) (by first | omega | (simp only [List.length_cons, List.length_nil]; omega))]; rfl⟩, ⟨ownV_nb (n := 51) (by decide) _, by rw [ownV_snoc]; rfl⟩, ⟨rfl, rfl⟩, ⟨rfl, by show AVal.ptr (rhoO2 _ 50) 0 = _; rw [rhoO2_ne (by omega) (by omega) (by first | omega | (simp only [List.length_cons, List.length_nil]; omega))]; rfl⟩, trivial⟩
         ·exact lwInv_snoc hin h8 _ (clampT_ok _)
       ·refine ar_ent (ent_reg 98 (.r (.bool false)) (by show AVal.r (.bool _) = _; exact eqB ht)) ?_
        have hc1 : ¬ o.now < 0 := of_decide_eq_false ht
        iterate 2 refine pA ?_
        refine pE ?_
        refine ag_join (fun (t : Int) => ([(0, .r (.ro ops.length (opsC19 ops))), (3, .r (.ro 2 [.str R, .str S])), (4, .ptr 0 0), (5, ownV (e0 :: l)), (6, .r (.int .i64 (i : Int))), (7, .ptr 50 0), (9, .r (.int .i64 0)), (10, .r (.int .i64 t))], lwO (rvT R S) (e0 :: l) o.b.a (clampT o.now) (opB o))) (fun t => t = clampT o.now) ?_ ?_
        ·intro hjn
         refine ag_cond rfl ?_ ?_
         ·intro h101
          have hc2 : o.now > 1099511627776 := of_decide_eq_true h101
          refine ag_reg ?_
          refine pE ?_
          refine ag_ent (ent_keep (g' := (((fun (t : Int) => ([(0, .r (.ro ops.length (opsC19 ops))), (3, .r (.ro 2 [.str R, .str S])), (4, .ptr 0 0), (5, ownV (e0 :: l)), (6, .r (.int .i64 (i : Int))), (7, .ptr 50 0), (9, .r (.int .i64 0)), (10, .r (.int .i64 t))], lwO (rvT R S) (e0 :: l) o.b.a (clampT o.now) (opB o))) 0) : Regs × Hp).1) ?_) (hjn 0 ?_)
          ·exact ⟨rfl, rfl, rfl, rfl, rfl, rfl, rfl, rfl, trivial⟩
          ·show (0 : Int) = clampT o.now; rw [clampT, if_pos (.inr hc2)]
         ·intro h101
          have hc2 : ¬ o.now > 1099511627776 := of_decide_eq_false h101
          refine ag_skip ?_
          refine ag_ent (ent_keep (g' := (((fun (t : Int) => ([(0, .r (.ro ops.length (opsC19 ops))), (3, .r (.ro 2 [.str R, .str S])), (4, .ptr 0 0), (5, ownV (e0 :: l)), (6, .r (.int .i64 (i : Int))), (7, .ptr 50 0), (9, .r (.int .i64 0)), (10, .r (.int .i64 t))], lwO (rvT R S) (e0 :: l) o.b.a (clampT o.now) (opB o))) o.now) : Regs × Hp).1) ?_) (hjn o.now ?_)
          ·exact ⟨rfl, rfl, rfl, rfl, rfl, rfl, rfl, rfl, trivial⟩
          ·show o.now = clampT o.now; rw [clampT, if_neg (by rintro (c | c); exact hc1 c; exact hc2 c)]
        ·rintro t hjp
         subst hjp
         refine zB ?_
         iterate 3 refine pA ?_
         refine pB ?_
         refine pA ?_
         refine pC ?_ ?_
         ·simp
         refine pN ?_ ?_
         ·simp
         refine ar_app tOk (stepApp_mixed (β := 40) (γ := 53) rfl rfl rfl rfl rfl rfl rfl rfl rfl rfl rfl rfl rfl rfl (by rw [ownC_len]; rfl) (ownC_one _ _) rfl rfl rfl rfl) rfl rfl ?_ ?_
         ·refine ⟨⟨?_, ?_, ?_⟩, ⟨?_, ?_⟩, ⟨?_, ?_⟩, ?_⟩ <;> first | trivial | decide | omega | (simp; done) | (simp; omega) | (show 0 + _ * 16 ≤ List.length (bidsC _); rw [bidsC_len, List.length_cons]; omega) | (simp [bidC]; done)
         refine pG ?_
         refine pA ?_
         refine pE ?_
         refine vC ?_
         refine ag_skip ?_
         iterate 2 refine ag_inBlock ?_
         refine ag_ent (ent_lwOpen (rv := rvT R S) (es := (e0 :: l)) (a := o.b.a) (t := clampT o.now) (bx := opB o) (g' := (((fun (es2 : List EV) => ([(0, .r (.ro ops.length (opsC19 ops))), (3, .r (.ro 2 [.str R, .str S])), (4, .ptr 0 0), (5, ownV es2), (6, .r (.int .i64 (i : Int))), (7, .ptr 50 0)], lwH R S es2 o)) ((e0 :: l) ++ [⟨o.b.a, clampT o.now, []⟩])) : Regs × Hp).1) rfl h8 rfl rfl rfl rfl ?_ ?_) (hjn ((e0 :: l) ++ [⟨o.b.a, clampT o.now, []⟩]) ?_)
         ·exact fun j x h40 hg => (look_ne (show 54 ≠ j by have := lwO_lt hl hg; omega)).trans ((look_ne (show 40 ≠ j by have := lwO_lt hl hg; omega)).trans ((look_ne (show 53 ≠ j by have := lwO_lt hl hg; omega)).trans hg))
         ·exact ⟨⟨rfl, rfl⟩, ⟨rfl, rfl⟩, ⟨rfl, by show AVal.ptr (rhoO2 _ 0) 0 = _; rw [rhoO2_ne (by omega) (by omega) (by first | omega | (simp only [List.length_cons, List.length_nil]; omega))]; rfl⟩, ⟨ownV_nb (n := 51) (by decide) _, by rw [ownV_snoc]; rfl⟩, ⟨rfl, rfl⟩, ⟨rfl, by show AVal.ptr (rhoO2 _ 50) 0 = _; rw [rhoO2_ne (by omega) (by omega) (by first | omega | (simp only [List.length_cons, List.length_nil]; omega))]; rfl⟩, trivial⟩
         ·exact lwInv_snoc hin h8 _ (clampT_ok _)
      ·skip
       have cA39 := w_rAsk o.b.a
       rw [hb] at cA39
       refine ag_reg ?_
       iterate 3 refine pA ?_
       refine pB ?_
       refine pA ?_
       refine pB ?_
       refine ar_qd rfl (qop_subH (w_OpenFullV (rv := rvT R S) (es := (e0 :: l)) o.now hb h8 hf) (fun _ _ h => h) rfl (rfl) (subH_lw (es := (e0 :: l)) 40 1 hl (by omega) rfl rfl (by show 40 ≤ 51; omega)) (rfl)) rfl rfl rfl rfl ?_
       skip
       refine pE ?_
       refine bX ?_
       iterate 2 refine pA ?_
       refine pB ?_
       refine ar_pur (cA39) rfl rfl rfl rfl rfl rfl rfl ?_
       refine pA ?_
       refine pE ?_
       refine vC ?_
       refine zB ?_
       iterate 2 refine pA ?_
       refine pE ?_
       refine vC ?_
       refine zB ?_
       iterate 3 refine pA ?_
       refine pE ?_
       refine ag_true rfl (decide_eq_true (show ((l.length + 1 : Nat) : Int) ≥ 8 by omega)) ?_
       refine zB ?_
       refine pA ?_
       refine pE ?_
       refine vC ?_
       refine ag_skip ?_
       iterate 2 refine ag_inBlock ?_
       refine ag_ent (ent_keep (g' := (((fun (es2 : List EV) => ([(0, .r (.ro ops.length (opsC19 ops))), (3, .r (.ro 2 [.str R, .str S])), (4, .ptr 0 0), (5, ownV es2), (6, .r (.int .i64 (i : Int))), (7, .ptr 50 0)], lwH R S es2 o)) (e0 :: l)) : Regs × Hp).1) ?_) (hjn (e0 :: l) ?_)
       ·exact ⟨rfl, rfl, rfl, rfl, rfl, rfl, trivial⟩
       ·exact lwInv_next hin
      ·skip
       have cA39 := w_rAsk o.b.a
       rw [askE_39 hb] at cA39
       refine ag_reg ?_
       iterate 3 refine pA ?_
       refine pB ?_
       refine pA ?_
       refine pB ?_
       refine ar_qd rfl (qop_subH (w_OpenBad (rvT R S) (e0 :: l) o.b.a o.now hl hb) (fun _ _ h => h) rfl (rfl) (subH_lw (es := (e0 :: l)) 40 1 hl (by omega) rfl rfl (by show 40 ≤ 51; omega)) (rfl)) rfl rfl rfl rfl ?_
       refine ar_ent (ent_reg 93 (.r (.int .i64 (39))) (by show AVal.r (.int _ _) = _; exact eqI (askE_39 hb))) ?_
       refine pE ?_
       refine bX ?_
       iterate 2 refine pA ?_
       refine pB ?_
       refine ar_pur (cA39) rfl rfl rfl rfl rfl rfl rfl ?_
       refine pA ?_
       refine pE ?_
       refine vB ?_
       refine zB ?_
       refine pA ?_
       refine pE ?_
       refine vC ?_
       refine ag_skip ?_
       iterate 2 refine ag_inBlock ?_
       refine ag_ent (ent_keep (g' := (((fun (es2 : List EV) => ([(0, .r (.ro ops.length (opsC19 ops))), (3, .r (.ro 2 [.str R, .str S])), (4, .ptr 0 0), (5, ownV es2), (6, .r (.int .i64 (i : Int))), (7, .ptr 50 0)], lwH R S es2 o)) (e0 :: l)) : Regs × Hp).1) ?_) (hjn (e0 :: l) ?_)
       ·exact ⟨rfl, rfl, rfl, rfl, rfl, rfl, trivial⟩
       ·exact lwInv_next hin
     ·intro h85
      refine zB ?_
      refine pA ?_
      refine pE ?_
      refine ag_if rfl ?_ ?_
      ·intro h131
       refine zB ?_
       iterate 3 refine pA ?_
       refine ar_ent (ent_reg 135 (.r (.bool false)) (by show AVal.r (.bool _) = _; exact eqB (by rfl))) ?_
       iterate 6 refine ar_skip rfl rfl rfl ?_
       refine pA ?_
       refine pF ?_
       refine ag_seq ?_
       refine ag_ent (ent_reg 11 (.r (.bool false)) (rfl)) ?_
       refine ag_reg ?_
       refine pE ?_
       refine ag_block ?_
       refine ag_unroll ?_
       refine sZ ?_
       iterate 2 refine pA ?_
       refine ar_ent (ent_reg 144 (.r (.bool false)) (by show AVal.r (.bool _) = _; exact eqB (by rfl))) ?_
       iterate 8 refine ar_skip rfl rfl rfl ?_
       refine pE ?_
       refine vC ?_
       refine ag_exit rfl ?_
       refine ag_seq ?_
       refine qD ?_
       iterate 2 refine qA ?_
       iterate 10 refine aq_skip rfl rfl rfl ?_
       iterate 2 refine qA ?_
       iterate 10 refine aq_skip rfl rfl rfl ?_
       refine qA ?_
       refine qE ?_
       refine sZ ?_
       iterate 2 refine pA ?_
       refine pB ?_
       refine pA ?_
       refine pB ?_
       refine ar_qd rfl (qop_subH (w_BidMiss R S (e0 :: l) o.b o.now hl hf) (fun _ _ h => h) rfl (rfl) (subH_lw (es := (e0 :: l)) 40 1 hl (by omega) rfl rfl (by show 40 ≤ 51; omega)) (rfl)) rfl rfl rfl rfl ?_
       refine pA ?_
       refine pE ?_
       refine vC ?_
       refine ag_skip ?_
       refine zB ?_
       refine pE ?_
       refine vC ?_
       refine ag_skip ?_
       refine ag_inBlock ?_
       refine ag_ent (ent_keep (g' := (((fun (es2 : List EV) => ([(0, .r (.ro ops.length (opsC19 ops))), (3, .r (.ro 2 [.str R, .str S])), (4, .ptr 0 0), (5, ownV es2), (6, .r (.int .i64 (i : Int))), (7, .ptr 50 0)], lwH R S es2 o)) (e0 :: l)) : Regs × Hp).1) ?_) (hjn (e0 :: l) ?_)
       ·exact ⟨rfl, rfl, rfl, rfl, rfl, rfl, trivial⟩
       ·exact lwInv_next hin
      ·intro h131
       refine ag_seq ?_
       skip
       refine ag_reg ?_
       iterate 3 refine pA ?_
       refine pB ?_
       refine pA ?_
       refine pB ?_
       refine pA ?_
       refine ar_qd rfl (qop_subH (w_BestMiss (rvT R S) (e0 :: l) o.b.a o.now (i : Int) hl hf) (fun _ _ h => h) rfl (rfl) (subH_lw (es := (e0 :: l)) 40 1 hl (by omega) rfl rfl (by show 40 ≤ 51; omega)) (rfl)) rfl rfl rfl rfl ?_
       iterate 3 refine pA ?_
       refine pN ?_ ?_
       ·simp
       refine ar_store (h' := ⟨52, (51, some (.mixed ((bidC bid0).map .r))) :: (51, some (.mixed ((bidC bid0).map .r))) :: (50, some (opB o)) :: lwT (rvT R S) (e0 :: l), false⟩) (c := True) tOk (by kernel_rfl) rfl rfl trivial ?_
       refine pG ?_
       refine pN ?_ ?_
       ·simp
       refine zC ?_
       refine pF ?_
       refine zB ?_
       refine pA ?_
       refine pE ?_
       refine vC ?_
       refine ag_skip ?_
       refine zB ?_
       iterate 4 refine pA ?_
       refine ar_ent (ent_reg 80 (.r (.bool false)) (by show AVal.r (.bool _) = _; exact eqB (by rfl))) ?_
       iterate 2 refine pB ?_
       refine pA ?_
       refine pE ?_
       refine ag_false rfl (by first | rfl | simp) ?_
       refine ag_skip ?_
       refine ag_inBlock ?_
       refine ag_ent (ent_weakS (S := lwT (rvT R S) (e0 :: l)) (n := 50) (g' := (((fun (es2 : List EV) => ([(0, .r (.ro ops.length (opsC19 ops))), (3, .r (.ro 2 [.str R, .str S])), (4, .ptr 0 0), (5, ownV es2), (6, .r (.int .i64 (i : Int))), (7, .ptr 50 0)], lwH R S es2 o)) (e0 :: l)) : Regs × Hp).1) (h' := (((fun (es2 : List EV) => ([(0, .r (.ro ops.length (opsC19 ops))), (3, .r (.ro 2 [.str R, .str S])), (4, .ptr 0 0), (5, ownV es2), (6, .r (.int .i64 (i : Int))), (7, .ptr 50 0)], lwH R S es2 o)) (e0 :: l)) : Regs × Hp).2) [50] 4 1 (symOk_lw hl (by omega)) rfl rfl rfl ?_ rfl rfl rfl rfl rfl rfl rfl ?_ rfl) (hjn (e0 :: l) ?_)
       ·exact ⟨⟨rfl, rfl, rfl⟩, trivial⟩
       ·exact ⟨⟨rfl, rfl⟩, ⟨rfl, rfl⟩, ⟨rfl, rfl⟩, ⟨ownV_nb (n := 51) (by decide) _, ownV_ren rfl _⟩, ⟨rfl, rfl⟩, ⟨rfl, rfl⟩, trivial⟩
       ·exact lwInv_next hin
    ·skip
     have hl : (e0 :: l).length ≤ 8 := hin.1
     have hl2 : l.length + 1 ≤ 8 := hl
     have hq := fix_lt hf
     have hq8 : q < 8 := by omega
     have hq2 : q < l.length + 1 := by simpa using hq
     obtain ⟨hLi, het⟩ := hin.2 q _ he
     simp only at hLi het
     refine ag_ent (ent_reg 8 (.r (.int .i64 (q))) (by show AVal.r (.int _ _) = _; exact eqI (ixI_hit hf))) ?_
     refine ag_reg ?_
     refine pA ?_
     refine pE ?_
     refine ag_if rfl ?_ ?_
     ·intro h85
      refine ag_seq ?_
      by_cases hb : askE o.b.a = 0
      ·skip
       have cA39 := w_rAsk o.b.a
       rw [hb] at cA39
       refine ag_reg ?_
       iterate 3 refine pA ?_
       refine pB ?_
       refine pA ?_
       refine pB ?_
       refine ar_qd rfl (qop_subH (w_OpenDup (rvT R S) (e0 :: l) o.b.a o.now hl hb q hf) (fun _ _ h => h) rfl (rfl) (subH_lw (es := (e0 :: l)) 40 1 hl (by omega) rfl rfl (by show 40 ≤ 51; omega)) (rfl)) rfl rfl rfl rfl ?_
       skip
       refine pE ?_
       refine bX ?_
       iterate 2 refine pA ?_
       refine pB ?_
       refine ar_pur (cA39) rfl rfl rfl rfl rfl rfl rfl ?_
       refine pA ?_
       refine pE ?_
       refine vC ?_
       refine zB ?_
       iterate 2 refine pA ?_
       refine pE ?_
       refine ag_true rfl (decide_eq_true (by omega)) ?_
       refine zB ?_
       refine pA ?_
       refine pE ?_
       refine vC ?_
       refine ag_skip ?_
       iterate 2 refine ag_inBlock ?_
       refine ag_ent (ent_keep (g' := (((fun (es2 : List EV) => ([(0, .r (.ro ops.length (opsC19 ops))), (3, .r (.ro 2 [.str R, .str S])), (4, .ptr 0 0), (5, ownV es2), (6, .r (.int .i64 (i : Int))), (7, .ptr 50 0)], lwH R S es2 o)) (e0 :: l)) : Regs × Hp).1) ?_) (hjn (e0 :: l) ?_)
       ·exact ⟨rfl, rfl, rfl, rfl, rfl, rfl, trivial⟩
       ·exact lwInv_next hin
      ·skip
       have cA39 := w_rAsk o.b.a
       rw [askE_39 hb] at cA39
       refine ag_reg ?_
       iterate 3 refine pA ?_
       refine pB ?_
       refine pA ?_
       refine pB ?_
       refine ar_qd rfl (qop_subH (w_OpenBad (rvT R S) (e0 :: l) o.b.a o.now hl hb) (fun _ _ h => h) rfl (rfl) (subH_lw (es := (e0 :: l)) 40 1 hl (by omega) rfl rfl (by show 40 ≤ 51; omega)) (rfl)) rfl rfl rfl rfl ?_
       refine ar_ent (ent_reg 93 (.r (.int .i64 (39))) (by show AVal.r (.int _ _) = _; exact eqI (askE_39 hb))) ?_
       refine pE ?_
       refine bX ?_
       iterate 2 refine pA ?_
       refine pB ?_
       refine ar_pur (cA39) rfl rfl rfl rfl rfl rfl rfl ?_
       refine pA ?_
       refine pE ?_
       refine vB ?_
       refine zB ?_
       refine pA ?_
       refine pE ?_
       refine vC ?_
       refine ag_skip ?_
       iterate 2 refine ag_inBlock ?_
       refine ag_ent (ent_keep (g' := (((fun (es2 : List EV) => ([(0, .r (.ro ops.length (opsC19 ops))), (3, .r (.ro 2 [.str R, .str S])), (4, .ptr 0 0), (5, ownV es2), (6, .r (.int .i64 (i : Int))), (7, .ptr 50 0)], lwH R S es2 o)) (e0 :: l)) : Regs × Hp).1) ?_) (hjn (e0 :: l) ?_)
       ·exact ⟨rfl, rfl, rfl, rfl, rfl, rfl, trivial⟩
       ·exact lwInv_next hin
     ·intro h85
      refine zB ?_
      refine pA ?_
      refine pE ?_
      refine ag_if rfl ?_ ?_
      ·intro h131
       refine zB ?_
       iterate 3 refine pA ?_
       refine ar_ent (ent_reg 135 (.r (.bool true)) (by show AVal.r (.bool _) = _; exact eqB (decide_eq_true (by omega)))) ?_
       refine pA ?_
       refine pB ?_
       iterate 2 refine pA ?_
       refine pB ?_
       iterate 2 refine pA ?_
       refine pF ?_
       refine ag_seq ?_
       by_cases hle : o.now ≤ o.b.e
       ·skip
        refine ag_ent (ent_reg 11 (.r (.bool true)) (by show AVal.r (.bool _) = _; exact eqB (decide_eq_true hle))) ?_
        have hle : ¬ o.now > o.b.e := by omega
        skip
        refine ag_reg ?_
        refine pE ?_
        refine ag_block ?_
        refine ag_unroll ?_
        refine sZ ?_
        iterate 2 refine pA ?_
        refine ar_ent (ent_reg 144 (.r (.bool true)) (by show AVal.r (.bool _) = _; exact eqB (by rfl))) ?_
        iterate 3 refine pA ?_
        refine pC ?_ ?_
        ·exact ⟨by omega, by omega⟩
        refine pA ?_
        refine ar_loadAs tOk (.r .nil) rfl rfl rfl rfl rfl rfl rfl (own_slot he (by simp [addo_eq, mulz_eq]) rfl) ?_
        iterate 2 refine pA ?_
        refine pE ?_
        refine vC ?_
        refine ag_exit rfl ?_
        refine ag_seq ?_
        rcases val_cases R S o.b with ⟨hr2, hvr, hv⟩ | ⟨hr2, hvr, hv⟩ | ⟨hr3, hvr, hv⟩ | ⟨hr3, hvr, hv⟩ | ⟨hr2, hr3, hv⟩
        ·skip
         have cV := w_rValid o.b ho.b R
         rw [hvr] at cV
         refine qD ?_
         iterate 4 refine qA ?_
         refine qL ?_
         refine aq_pureE tOk (.r (.bool true)) rfl (by show AVal.r (.bool _) = _; exact eqB (decide_eq_true hr2)) rfl (by rfl) trivial ?_
         refine qA ?_
         iterate 4 refine aq_skip rfl rfl rfl ?_
         iterate 4 refine qA ?_
         refine qL ?_
         iterate 3 refine qA ?_
         refine qL ?_
         refine qB ?_ ?_
         ·unfold inI64; omega
         refine qB ?_ ?_
         ·exact ⟨by omega, by simp⟩
         refine aq_loadAs tOk (.r (.str R)) rfl rfl rfl rfl (fun _ => rfl) rfl rfl (.inl ⟨rfl, by simp [Body.cells, addo_eq, mulz_eq, hr2]⟩) ?_
         refine aq_pur (cV) rfl rfl rfl rfl rfl rfl rfl ?_
         refine qA ?_
         refine qE ?_
         refine sZ ?_
         iterate 2 refine pA ?_
         refine pB ?_
         refine pA ?_
         refine pB ?_
         refine ar_qd rfl (qop_subH (w_BidB0 R S (e0 :: l) o.b o.now hl q hf ea et he ho.b ho.r hle hv) (fun _ _ h => h) rfl (rfl) (subH_lw (es := (e0 :: l)) 40 1 hl (by omega) rfl rfl (by show 40 ≤ 51; omega)) (rfl)) rfl rfl rfl rfl ?_
         refine pA ?_
         refine pE ?_
         refine vC ?_
         refine ag_skip ?_
         refine zB ?_
         refine pE ?_
         refine vC ?_
         refine ag_skip ?_
         refine ag_inBlock ?_
         refine ag_ent (ent_keep (g' := (((fun (es2 : List EV) => ([(0, .r (.ro ops.length (opsC19 ops))), (3, .r (.ro 2 [.str R, .str S])), (4, .ptr 0 0), (5, ownV es2), (6, .r (.int .i64 (i : Int))), (7, .ptr 50 0)], lwH R S es2 o)) (e0 :: l)) : Regs × Hp).1) ?_) (hjn (e0 :: l) ?_)
         ·exact ⟨rfl, rfl, rfl, rfl, rfl, rfl, trivial⟩
         ·exact lwInv_next hin
        ·skip
         have cV := w_rValid o.b ho.b R
         rw [hvr] at cV
         refine qD ?_
         iterate 4 refine qA ?_
         refine qL ?_
         refine aq_pureE tOk (.r (.bool true)) rfl (by show AVal.r (.bool _) = _; exact eqB (decide_eq_true hr2)) rfl (by rfl) trivial ?_
         refine qA ?_
         iterate 4 refine aq_skip rfl rfl rfl ?_
         iterate 4 refine qA ?_
         refine qL ?_
         iterate 3 refine qA ?_
         refine qL ?_
         refine qB ?_ ?_
         ·unfold inI64; omega
         refine qB ?_ ?_
         ·exact ⟨by omega, by simp⟩
         refine aq_loadAs tOk (.r (.str R)) rfl rfl rfl rfl (fun _ => rfl) rfl rfl (.inl ⟨rfl, by simp [Body.cells, addo_eq, mulz_eq, hr2]⟩) ?_
         refine aq_pur (cV) rfl rfl rfl rfl rfl rfl rfl ?_
         refine qA ?_
         refine qE ?_
         refine sZ ?_
         iterate 2 refine pA ?_
         refine pB ?_
         refine pA ?_
         refine pB ?_
         refine ar_over (w_BidO0 R S (e0 :: l) o.b o.now hl q hf ea et he ho.b ho.r hle hv) rfl rfl (subH_lw (es := (e0 :: l)) 51 1 hl (by omega) rfl rfl (by show 51 ≤ 51; omega)) rfl rfl rfl rfl rfl ?_
         rintro _ _ ⟨rfl, rfl⟩
         refine ar_ent (ent_lwB hl hq8 rfl) ?_
         refine pA ?_
         refine pE ?_
         refine vC ?_
         refine ag_skip ?_
         refine zB ?_
         refine pE ?_
         refine vB ?_
         refine ag_draw (Hs := hsL [lwB (rvT R S) (e0 :: l) q ⟨ea, et, []⟩ o.b (opB o), ⟨53, (52, some (.plain (bidC o.b))) :: (lwB (rvT R S) (e0 :: l) q ⟨ea, et, []⟩ o.b (opB o)).tab, false⟩, ⟨53, (40, some (.mixed ((ownC 0 (e0 :: l)).set (q * 11 + 10) (.sl 52 0 (0 + 1) 16)))) :: (52, some (.plain (bidC o.b))) :: (lwB (rvT R S) (e0 :: l) q ⟨ea, et, []⟩ o.b (opB o)).tab, false⟩]) (K := 2) [213] (by kernel_rfl) (by kernel_rfl) ?_
         iterate 4 refine qA ?_
         refine qB ?_ ?_
         ·exact ⟨by omega, by omega⟩
         refine qA ?_
         refine aq_loadAs0 tOk (.r .nil) rfl rfl rfl rfl rfl (by kernel_rfl) rfl rfl (own_slot he (by simp [addo_eq, mulz_eq]) rfl) ?_
         refine qA ?_
         refine qL ?_
         refine aq_qd (fun _ => qop_buildRoK tOk (v := .ro 1 (bidC o.b)) (by kernel_rfl) (by kernel_rfl)) rfl rfl rfl rfl ?_
         refine aq_app tOk rfl rfl rfl rfl rfl rfl ?_ ?_
         ·refine ⟨⟨?_, ?_, ?_⟩, ⟨?_, ?_⟩, ⟨?_, ?_⟩, ?_⟩ <;> first | trivial | decide | omega | (simp; done) | (simp; omega) | (show 0 + _ * 16 ≤ List.length (bidsC _); rw [bidsC_len, List.length_cons]; omega) | (simp [bidC]; done)
         refine qB ?_ ?_
         ·exact ⟨by omega, by omega⟩
         refine qA ?_
         refine aq_store tOk rfl (stepStore_told (β := 40) (off := q * 11 + 10) (blk := .mixed (ownC 0 (e0 :: l))) rfl rfl rfl (by show AVal.ptr 40 _ = _; simp [addo_eq, mulz_eq]) rfl (rfl) rfl (storeF_one (by rw [ownC_len]; omega) rfl)) rfl rfl rfl trivial ?_
         refine aq_nil rfl ?_
         refine ag_inBlock ?_
         refine ag_ent (ent_lwBid (rv := rvT R S) (es := (e0 :: l)) (q := q) (e := ⟨ea, et, []⟩) (b := o.b) (bx := opB o) (g' := (((fun (es2 : List EV) => ([(0, .r (.ro ops.length (opsC19 ops))), (3, .r (.ro 2 [.str R, .str S])), (4, .ptr 0 0), (5, ownV es2), (6, .r (.int .i64 (i : Int))), (7, .ptr 50 0)], lwH R S es2 o)) ((e0 :: l).set q ⟨ea, et, [] ++ [o.b]⟩)) : Regs × Hp).1) rfl hl he rfl rfl rfl ((look_ne (by omega)).trans (look_eq.trans (congrArg some (congrArg Body.plain (by show bidC o.b = bidsC ([] ++ [o.b]); simp [bidsC]))))) look_eq ?_ ?_) (hjn ((e0 :: l).set q ⟨ea, et, [] ++ [o.b]⟩) ?_)
         ·exact fun j x h40 h41 hg => (look_ne (Ne.symm h40)).trans ((look_ne (by have := lwB_lt hl hq8 hg; omega)).trans (hg))
         ·exact ⟨⟨rfl, rfl⟩, ⟨rfl, rfl⟩, ⟨rfl, by show AVal.ptr (rhoB2 q 0) 0 = _; rw [rhoB2_ne (by omega) (by omega)]; rfl⟩, ⟨ownV_nb (n := 51) (by decide) _, by rw [ownV_set, ownV_ren (rhoB2_ne (by omega) (by omega))]; rfl⟩, ⟨rfl, rfl⟩, ⟨rfl, by show AVal.ptr (rhoB2 q 50) 0 = _; rw [rhoB2_ne (by omega) (by omega)]; rfl⟩, trivial⟩
         ·exact lwInv_set hin he o.b
        ·skip
         have cV := w_rValid o.b ho.b S
         rw [hvr] at cV
         refine qD ?_
         iterate 4 refine qA ?_
         refine qL ?_
         refine aq_pureE tOk (.r (.bool false)) rfl (by show AVal.r (.bool _) = _; exact eqB (decide_eq_false (by omega))) rfl (by rfl) trivial ?_
         iterate 3 refine qA ?_
         refine qL ?_
         refine aq_pureE tOk (.r (.bool true)) rfl (by show AVal.r (.bool _) = _; exact eqB (decide_eq_true hr3)) rfl (by rfl) trivial ?_
         iterate 4 refine qA ?_
         refine qL ?_
         iterate 3 refine qA ?_
         refine qL ?_
         refine qB ?_ ?_
         ·unfold inI64; omega
         refine qB ?_ ?_
         ·exact ⟨by omega, by simp⟩
         refine aq_loadAs tOk (.r (.str S)) rfl rfl rfl rfl (fun _ => rfl) rfl rfl (.inl ⟨rfl, by simp [Body.cells, addo_eq, mulz_eq, hr3]⟩) ?_
         refine aq_pur (cV) rfl rfl rfl rfl rfl rfl rfl ?_
         refine qA ?_
         refine qE ?_
         refine sZ ?_
         iterate 2 refine pA ?_
         refine pB ?_
         refine pA ?_
         refine pB ?_
         refine ar_qd rfl (qop_subH (w_BidB0 R S (e0 :: l) o.b o.now hl q hf ea et he ho.b ho.r hle hv) (fun _ _ h => h) rfl (rfl) (subH_lw (es := (e0 :: l)) 40 1 hl (by omega) rfl rfl (by show 40 ≤ 51; omega)) (rfl)) rfl rfl rfl rfl ?_
         refine pA ?_
         refine pE ?_
         refine vC ?_
         refine ag_skip ?_
         refine zB ?_
         refine pE ?_
         refine vC ?_
         refine ag_skip ?_
         refine ag_inBlock ?_
         refine ag_ent (ent_keep (g' := (((fun (es2 : List EV) => ([(0, .r (.ro ops.length (opsC19 ops))), (3, .r (.ro 2 [.str R, .str S])), (4, .ptr 0 0), (5, ownV es2), (6, .r (.int .i64 (i : Int))), (7, .ptr 50 0)], lwH R S es2 o)) (e0 :: l)) : Regs × Hp).1) ?_) (hjn (e0 :: l) ?_)
         ·exact ⟨rfl, rfl, rfl, rfl, rfl, rfl, trivial⟩
         ·exact lwInv_next hin
        ·skip
         have cV := w_rValid o.b ho.b S
         rw [hvr] at cV
         refine qD ?_
         iterate 4 refine qA ?_
         refine qL ?_
         refine aq_pureE tOk (.r (.bool false)) rfl (by show AVal.r (.bool _) = _; exact eqB (decide_eq_false (by omega))) rfl (by rfl) trivial ?_
         iterate 3 refine qA ?_
         refine qL ?_
         refine aq_pureE tOk (.r (.bool true)) rfl (by show AVal.r (.bool _) = _; exact eqB (decide_eq_true hr3)) rfl (by rfl) trivial ?_
         iterate 4 refine qA ?_
         refine qL ?_
         iterate 3 refine qA ?_
         refine qL ?_
         refine qB ?_ ?_
         ·unfold inI64; omega
         refine qB ?_ ?_
         ·exact ⟨by omega, by simp⟩
         refine aq_loadAs tOk (.r (.str S)) rfl rfl rfl rfl (fun _ => rfl) rfl rfl (.inl ⟨rfl, by simp [Body.cells, addo_eq, mulz_eq, hr3]⟩) ?_
         refine aq_pur (cV) rfl rfl rfl rfl rfl rfl rfl ?_
         refine qA ?_
         refine qE ?_
         refine sZ ?_
         iterate 2 refine pA ?_
         refine pB ?_
         refine pA ?_
         refine pB ?_
         refine ar_over (w_BidO0 R S (e0 :: l) o.b o.now hl q hf ea et he ho.b ho.r hle hv) rfl rfl (subH_lw (es := (e0 :: l)) 51 1 hl (by omega) rfl rfl (by show 51 ≤ 51; omega)) rfl rfl rfl rfl rfl ?_
         rintro _ _ ⟨rfl, rfl⟩
         refine ar_ent (ent_lwB hl hq8 rfl) ?_
         refine pA ?_
         refine pE ?_
         refine vC ?_
         refine ag_skip ?_
         refine zB ?_
         refine pE ?_
         refine vB ?_
         refine ag_draw (Hs := hsL [lwB (rvT R S) (e0 :: l) q ⟨ea, et, []⟩ o.b (opB o), ⟨53, (52, some (.plain (bidC o.b))) :: (lwB (rvT R S) (e0 :: l) q ⟨ea, et, []⟩ o.b (opB o)).tab, false⟩, ⟨53, (40, some (.mixed ((ownC 0 (e0 :: l)).set (q * 11 + 10) (.sl 52 0 (0 + 1) 16)))) :: (52, some (.plain (bidC o.b))) :: (lwB (rvT R S) (e0 :: l) q ⟨ea, et, []⟩ o.b (opB o)).tab, false⟩]) (K := 2) [213] (by kernel_rfl) (by kernel_rfl) ?_
         iterate 4 refine qA ?_
         refine qB ?_ ?_
         ·exact ⟨by omega, by omega⟩
         refine qA ?_
         refine aq_loadAs0 tOk (.r .nil) rfl rfl rfl rfl rfl (by kernel_rfl) rfl rfl (own_slot he (by simp [addo_eq, mulz_eq]) rfl) ?_
         refine qA ?_
         refine qL ?_
         refine aq_qd (fun _ => qop_buildRoK tOk (v := .ro 1 (bidC o.b)) (by kernel_rfl) (by kernel_rfl)) rfl rfl rfl rfl ?_
         refine aq_app tOk rfl rfl rfl rfl rfl rfl ?_ ?_
         ·refine ⟨⟨?_, ?_, ?_⟩, ⟨?_, ?_⟩, ⟨?_, ?_⟩, ?_⟩ <;> first | trivial | decide | omega | (simp; done) | (simp; omega) | (show 0 + _ * 16 ≤ List.length (bidsC _); rw [bidsC_len, List.length_cons]; omega) | (simp [bidC]; done)
         refine qB ?_ ?_
         ·exact ⟨by omega, by omega⟩
         refine qA ?_
         refine aq_store tOk rfl (stepStore_told (β := 40) (off := q * 11 + 10) (blk := .mixed (ownC 0 (e0 :: l))) rfl rfl rfl (by show AVal.ptr 40 _ = _; simp [addo_eq, mulz_eq]) rfl (rfl) rfl (storeF_one (by rw [ownC_len]; omega) rfl)) rfl rfl rfl trivial ?_
         refine aq_nil rfl ?_
         refine ag_inBlock ?_
         refine ag_ent (ent_lwBid (rv := rvT R S) (es := (e0 :: l)) (q := q) (e := ⟨ea, et, []⟩) (b := o.b) (bx := opB o) (g' := (((fun (es2 : List EV) => ([(0, .r (.ro ops.length (opsC19 ops))), (3, .r (.ro 2 [.str R, .str S])), (4, .ptr 0 0), (5, ownV es2), (6, .r (.int .i64 (i : Int))), (7, .ptr 50 0)], lwH R S es2 o)) ((e0 :: l).set q ⟨ea, et, [] ++ [o.b]⟩)) : Regs × Hp).1) rfl hl he rfl rfl rfl ((look_ne (by omega)).trans (look_eq.trans (congrArg some (congrArg Body.plain (by show bidC o.b = bidsC ([] ++ [o.b]); simp [bidsC]))))) look_eq ?_ ?_) (hjn ((e0 :: l).set q ⟨ea, et, [] ++ [o.b]⟩) ?_)
         ·exact fun j x h40 h41 hg => (look_ne (Ne.symm h40)).trans ((look_ne (by have := lwB_lt hl hq8 hg; omega)).trans (hg))
         ·exact ⟨⟨rfl, rfl⟩, ⟨rfl, rfl⟩, ⟨rfl, by show AVal.ptr (rhoB2 q 0) 0 = _; rw [rhoB2_ne (by omega) (by omega)]; rfl⟩, ⟨ownV_nb (n := 51) (by decide) _, by rw [ownV_set, ownV_ren (rhoB2_ne (by omega) (by omega))]; rfl⟩, ⟨rfl, rfl⟩, ⟨rfl, by show AVal.ptr (rhoB2 q 50) 0 = _; rw [rhoB2_ne (by omega) (by omega)]; rfl⟩, trivial⟩
         ·exact lwInv_set hin he o.b
        ·skip
         refine qD ?_
         iterate 4 refine qA ?_
         refine qL ?_
         refine aq_pureE tOk (.r (.bool false)) rfl (by show AVal.r (.bool _) = _; exact eqB (decide_eq_false (by omega))) rfl (by rfl) trivial ?_
         iterate 3 refine qA ?_
         refine qL ?_
         refine aq_pureE tOk (.r (.bool false)) rfl (by show AVal.r (.bool _) = _; exact eqB (decide_eq_false hr3)) rfl (by rfl) trivial ?_
         iterate 3 refine qA ?_
         iterate 10 refine aq_skip rfl rfl rfl ?_
         refine qA ?_
         refine qE ?_
         refine sZ ?_
         iterate 2 refine pA ?_
         refine pB ?_
         refine pA ?_
         refine pB ?_
         refine ar_qd rfl (qop_subH (w_BidB0 R S (e0 :: l) o.b o.now hl q hf ea et he ho.b ho.r hle hv) (fun _ _ h => h) rfl (rfl) (subH_lw (es := (e0 :: l)) 40 1 hl (by omega) rfl rfl (by show 40 ≤ 51; omega)) (rfl)) rfl rfl rfl rfl ?_
         refine pA ?_
         refine pE ?_
         refine vC ?_
         refine ag_skip ?_
         refine zB ?_
         refine pE ?_
         refine vC ?_
         refine ag_skip ?_
         refine ag_inBlock ?_
         refine ag_ent (ent_keep (g' := (((fun (es2 : List EV) => ([(0, .r (.ro ops.length (opsC19 ops))), (3, .r (.ro 2 [.str R, .str S])), (4, .ptr 0 0), (5, ownV es2), (6, .r (.int .i64 (i : Int))), (7, .ptr 50 0)], lwH R S es2 o)) (e0 :: l)) : Regs × Hp).1) ?_) (hjn (e0 :: l) ?_)
         ·exact ⟨rfl, rfl, rfl, rfl, rfl, rfl, trivial⟩
         ·exact lwInv_next hin
       ·skip
        refine ag_ent (ent_reg 11 (.r (.bool false)) (by show AVal.r (.bool _) = _; exact eqB (decide_eq_false hle))) ?_
        have hle : o.now > o.b.e := by omega
        skip
        refine ag_reg ?_
        refine pE ?_
        refine ag_block ?_
        refine ag_unroll ?_
        refine sZ ?_
        iterate 2 refine pA ?_
        refine ar_ent (ent_reg 144 (.r (.bool false)) (by show AVal.r (.bool _) = _; exact eqB (by rfl))) ?_
        iterate 8 refine ar_skip rfl rfl rfl ?_
        refine pE ?_
        refine vC ?_
        refine ag_exit rfl ?_
        refine ag_seq ?_
        refine qD ?_
        iterate 2 refine qA ?_
        iterate 10 refine aq_skip rfl rfl rfl ?_
        iterate 2 refine qA ?_
        iterate 10 refine aq_skip rfl rfl rfl ?_
        refine qA ?_
        refine qE ?_
        refine sZ ?_
        iterate 2 refine pA ?_
        refine pB ?_
        refine pA ?_
        refine pB ?_
        refine ar_qd rfl (qop_subH (w_BidL0 R S (e0 :: l) o.b o.now hl q hf ea et he hle) (fun _ _ h => h) rfl (rfl) (subH_lw (es := (e0 :: l)) 40 1 hl (by omega) rfl rfl (by show 40 ≤ 51; omega)) (rfl)) rfl rfl rfl rfl ?_
        refine pA ?_
        refine pE ?_
        refine vC ?_
        refine ag_skip ?_
        refine zB ?_
        refine pE ?_
        refine vC ?_
        refine ag_skip ?_
        refine ag_inBlock ?_
        refine ag_ent (ent_keep (g' := (((fun (es2 : List EV) => ([(0, .r (.ro ops.length (opsC19 ops))), (3, .r (.ro 2 [.str R, .str S])), (4, .ptr 0 0), (5, ownV es2), (6, .r (.int .i64 (i : Int))), (7, .ptr 50 0)], lwH R S es2 o)) (e0 :: l)) : Regs × Hp).1) ?_) (hjn (e0 :: l) ?_)
        ·exact ⟨rfl, rfl, rfl, rfl, rfl, rfl, trivial⟩
        ·exact lwInv_next hin
      ·intro h131
       refine ag_seq ?_
       have cB := w_BestHit (rv := rvT R S) o.now (i : Int) hl hf he (by simp only [List.length_nil, List.length_cons]; omega) het ho.now
       have cL := w_lbest0 ea et o.now het ho.now
       generalize bestE o.now ⟨ea, et, []⟩ = z at cB cL
       obtain ⟨P, f⟩ := z
       simp only at cB cL
       refine ag_reg ?_
       iterate 3 refine pA ?_
       refine pB ?_
       refine pA ?_
       refine pB ?_
       refine pA ?_
       refine ar_qd rfl (qop_subH (cB) (fun _ _ h => h) rfl (rfl) (subH_lw (es := (e0 :: l)) 40 1 hl (by omega) rfl rfl (by show 40 ≤ 51; omega)) (rfl)) rfl rfl rfl rfl ?_
       iterate 3 refine pA ?_
       refine pN ?_ ?_
       ·simp
       refine ar_store (h' := ⟨52, (51, some (.mixed ((bidC P).map .r))) :: (51, some (.mixed ((bidC bid0).map .r))) :: (50, some (opB o)) :: lwT (rvT R S) (e0 :: l), false⟩) (c := True) tOk (by kernel_rfl) rfl rfl trivial ?_
       refine pG ?_
       refine pN ?_ ?_
       ·simp
       refine zC ?_
       refine pF ?_
       refine zB ?_
       refine pA ?_
       refine pE ?_
       refine ag_true rfl (decide_eq_true (by omega)) ?_
       refine ag_draw (Hs := hsL [⟨53, (52, some (.mixed ((bidC bid0).map .r))) :: (51, some (.mixed ((bidC P).map .r))) :: (51, some (.mixed ((bidC bid0).map .r))) :: (50, some (opB o)) :: lwT (rvT R S) (e0 :: l), false⟩, ⟨53, (52, some (.mixed ((bidC P).map .r))) :: (52, some (.mixed ((bidC bid0).map .r))) :: (51, some (.mixed ((bidC P).map .r))) :: (51, some (.mixed ((bidC bid0).map .r))) :: (50, some (opB o)) :: lwT (rvT R S) (e0 :: l), false⟩]) (K := 1) [] (by kernel_rfl) (by kernel_rfl) ?_
       iterate 2 refine qA ?_
       refine qB ?_ ?_
       ·exact ⟨by omega, by omega⟩
       refine aq_loadAs0 tOk (.agg (entC ea et (.r .nil))) rfl rfl rfl rfl rfl (by kernel_rfl) rfl rfl (own_ent he (by simp [addo_eq, mulz_eq]) rfl rfl) ?_
       refine qA ?_
       refine qL ?_
       refine aq_qd0 (qop_objR [] cL (by rintro _ _ ⟨rfl, rfl⟩; exact ⟨rfl, rfl⟩) rfl rfl (handed_of rfl rfl (by decide) trivial) rfl rfl) (by kernel_rfl) rfl rfl rfl rfl ?_
       iterate 3 refine qA ?_
       refine aq_store (c := True) tOk rfl (by kernel_rfl) rfl rfl rfl trivial ?_
       refine qE ?_
       refine zB ?_
       iterate 4 refine pA ?_
       refine ar_ent (ent_reg 80 (.r (.bool false)) (by show AVal.r (.bool _) = _; exact eqB (by simp))) ?_
       iterate 2 refine pB ?_
       refine pA ?_
       refine pE ?_
       refine ag_false rfl (by first | rfl | simp) ?_
       refine ag_skip ?_
       refine ag_inBlock ?_
       refine ag_ent (ent_weakS (S := lwT (rvT R S) (e0 :: l)) (n := 50) (g' := (((fun (es2 : List EV) => ([(0, .r (.ro ops.length (opsC19 ops))), (3, .r (.ro 2 [.str R, .str S])), (4, .ptr 0 0), (5, ownV es2), (6, .r (.int .i64 (i : Int))), (7, .ptr 50 0)], lwH R S es2 o)) (e0 :: l)) : Regs × Hp).1) (h' := (((fun (es2 : List EV) => ([(0, .r (.ro ops.length (opsC19 ops))), (3, .r (.ro 2 [.str R, .str S])), (4, .ptr 0 0), (5, ownV es2), (6, .r (.int .i64 (i : Int))), (7, .ptr 50 0)], lwH R S es2 o)) (e0 :: l)) : Regs × Hp).2) [50] 5 1 (symOk_lw hl (by omega)) rfl rfl rfl ?_ rfl rfl rfl rfl rfl rfl rfl ?_ rfl) (hjn (e0 :: l) ?_)
       ·exact ⟨⟨rfl, rfl, rfl⟩, trivial⟩
       ·exact ⟨⟨rfl, rfl⟩, ⟨rfl, rfl⟩, ⟨rfl, rfl⟩, ⟨ownV_nb (n := 51) (by decide) _, ownV_ren rfl _⟩, ⟨rfl, rfl⟩, ⟨rfl, rfl⟩, trivial⟩
       ·exact lwInv_next hin
    ·skip
     have hl : (e0 :: l).length ≤ 8 := hin.1
     have hl2 : l.length + 1 ≤ 8 := hl
     have hq := fix_lt hf
     have hq8 : q < 8 := by omega
     have hq2 : q < l.length + 1 := by simpa using hq
     obtain ⟨hLi, het⟩ := hin.2 q _ he
     simp only at hLi het
     simp only [List.length_cons] at hLi
     have h25 : L.length + 1 ≤ 25 := by omega
     refine ag_ent (ent_reg 8 (.r (.int .i64 (q))) (by show AVal.r (.int _ _) = _; exact eqI (ixI_hit hf))) ?_
     refine ag_reg ?_
     refine pA ?_
     refine pE ?_
     refine ag_if rfl ?_ ?_
     ·intro h85
      refine ag_seq ?_
      by_cases hb : askE o.b.a = 0
      ·skip
       have cA39 := w_rAsk o.b.a
       rw [hb] at cA39
       refine ag_reg ?_
       iterate 3 refine pA ?_
       refine pB ?_
       refine pA ?_
       refine pB ?_
       refine ar_qd rfl (qop_subH (w_OpenDup (rvT R S) (e0 :: l) o.b.a o.now hl hb q hf) (fun _ _ h => h) rfl (rfl) (subH_lw (es := (e0 :: l)) 40 1 hl (by omega) rfl rfl (by show 40 ≤ 51; omega)) (rfl)) rfl rfl rfl rfl ?_
       skip
       refine pE ?_
       refine bX ?_
       iterate 2 refine pA ?_
       refine pB ?_
       refine ar_pur (cA39) rfl rfl rfl rfl rfl rfl rfl ?_
       refine pA ?_
       refine pE ?_
       refine vC ?_
       refine zB ?_
       iterate 2 refine pA ?_
       refine pE ?_
       refine ag_true rfl (decide_eq_true (by omega)) ?_
       refine zB ?_
       refine pA ?_
       refine pE ?_
       refine vC ?_
       refine ag_skip ?_
       iterate 2 refine ag_inBlock ?_
       refine ag_ent (ent_keep (g' := (((fun (es2 : List EV) => ([(0, .r (.ro ops.length (opsC19 ops))), (3, .r (.ro 2 [.str R, .str S])), (4, .ptr 0 0), (5, ownV es2), (6, .r (.int .i64 (i : Int))), (7, .ptr 50 0)], lwH R S es2 o)) (e0 :: l)) : Regs × Hp).1) ?_) (hjn (e0 :: l) ?_)
       ·exact ⟨rfl, rfl, rfl, rfl, rfl, rfl, trivial⟩
       ·exact lwInv_next hin
      ·skip
       have cA39 := w_rAsk o.b.a
       rw [askE_39 hb] at cA39
       refine ag_reg ?_
       iterate 3 refine pA ?_
       refine pB ?_
       refine pA ?_
       refine pB ?_
       refine ar_qd rfl (qop_subH (w_OpenBad (rvT R S) (e0 :: l) o.b.a o.now hl hb) (fun _ _ h => h) rfl (rfl) (subH_lw (es := (e0 :: l)) 40 1 hl (by omega) rfl rfl (by show 40 ≤ 51; omega)) (rfl)) rfl rfl rfl rfl ?_
       refine ar_ent (ent_reg 93 (.r (.int .i64 (39))) (by show AVal.r (.int _ _) = _; exact eqI (askE_39 hb))) ?_
       refine pE ?_
       refine bX ?_
       iterate 2 refine pA ?_
       refine pB ?_
       refine ar_pur (cA39) rfl rfl rfl rfl rfl rfl rfl ?_
       refine pA ?_
       refine pE ?_
       refine vB ?_
       refine zB ?_
       refine pA ?_
       refine pE ?_
       refine vC ?_
       refine ag_skip ?_
       iterate 2 refine ag_inBlock ?_
       refine ag_ent (ent_keep (g' := (((fun (es2 : List EV) => ([(0, .r (.ro ops.length (opsC19 ops))), (3, .r (.ro 2 [.str R, .str S])), (4, .ptr 0 0), (5, ownV es2), (6, .r (.int .i64 (i : Int))), (7, .ptr 50 0)], lwH R S es2 o)) (e0 :: l)) : Regs × Hp).1) ?_) (hjn (e0 :: l) ?_)
       ·exact ⟨rfl, rfl, rfl, rfl, rfl, rfl, trivial⟩
       ·exact lwInv_next hin
     ·intro h85
      refine zB ?_
      refine pA ?_
      refine pE ?_
      refine ag_if rfl ?_ ?_
      ·intro h131
       refine zB ?_
       iterate 3 refine pA ?_
       refine ar_ent (ent_reg 135 (.r (.bool true)) (by show AVal.r (.bool _) = _; exact eqB (decide_eq_true (by omega)))) ?_
       refine pA ?_
       refine pB ?_
       iterate 2 refine pA ?_
       refine pB ?_
       iterate 2 refine pA ?_
       refine pF ?_
       refine ag_seq ?_
       by_cases hle : o.now ≤ o.b.e
       ·skip
        refine ag_ent (ent_reg 11 (.r (.bool true)) (by show AVal.r (.bool _) = _; exact eqB (decide_eq_true hle))) ?_
        have hle : ¬ o.now > o.b.e := by omega
        skip
        refine ag_reg ?_
        refine pE ?_
        refine ag_block ?_
        refine ag_loopS (stLAR_4 R S ops o i e0 l q p L) (prLAR_4 R S ops o i e0 l q p L) (fun ⟨k, ok⟩ => L.length + 1 - k) (0, true) (ent_keep ?_) (show prLAR_4 R S ops o i e0 l q p L (0, true) from ?_) ?_
        ·exact ⟨rfl, rfl, rfl, rfl, rfl, rfl, rfl, rfl, rfl, trivial⟩
        ·exact .inl ⟨rfl, Nat.zero_le _, fun j e hj => absurd hj (Nat.not_lt_zero _)⟩
        rintro ⟨k, ok⟩ hok hrec4
        cases ok with
        | false =>
         have hdp : (fixR o.b.r (p :: L)).isSome = true := by
          rcases hok with ⟨h1, _⟩ | ⟨_, h1⟩
          ·cases h1
          ·exact h1
         refine sZ ?_
         iterate 2 refine pA ?_
         refine ar_ent (ent_reg 144 (.r (.bool false)) (by show AVal.r (.bool _) = _; exact eqB (by rfl))) ?_
         iterate 8 refine ar_skip rfl rfl rfl ?_
         refine pE ?_
         refine vC ?_
         refine ag_exit rfl ?_
         refine ag_seq ?_
         refine qD ?_
         iterate 2 refine qA ?_
         iterate 10 refine aq_skip rfl rfl rfl ?_
         iterate 2 refine qA ?_
         iterate 10 refine aq_skip rfl rfl rfl ?_
         refine qA ?_
         refine qE ?_
         refine sZ ?_
         iterate 2 refine pA ?_
         refine pB ?_
         refine pA ?_
         refine pB ?_
         refine ar_qd rfl (qop_subH (w_BidD1 R S (e0 :: l) o.b o.now hl q hf ea et p L h25 he hle hdp) (fun _ _ h => h) rfl (rfl) (subH_lw (es := (e0 :: l)) 40 1 hl (by omega) rfl rfl (by show 40 ≤ 51; omega)) (rfl)) rfl rfl rfl rfl ?_
         refine pA ?_
         refine pE ?_
         refine vC ?_
         refine ag_skip ?_
         refine zB ?_
         refine pE ?_
         refine vC ?_
         refine ag_skip ?_
         refine ag_inBlock ?_
         refine ag_ent (ent_keep (g' := (((fun (es2 : List EV) => ([(0, .r (.ro ops.length (opsC19 ops))), (3, .r (.ro 2 [.str R, .str S])), (4, .ptr 0 0), (5, ownV es2), (6, .r (.int .i64 (i : Int))), (7, .ptr 50 0)], lwH R S es2 o)) (e0 :: l)) : Regs × Hp).1) ?_) (hjn (e0 :: l) ?_)
         ·exact ⟨rfl, rfl, rfl, rfl, rfl, rfl, trivial⟩
         ·exact lwInv_next hin
        | true =>
         obtain ⟨hk, hno⟩ : k ≤ L.length + 1 ∧ ∀ (j : Nat) p', j < k → (p :: L)[j]? = some p' → decide (p'.r = o.b.r) = false := by
          rcases hok with ⟨_, h1⟩ | ⟨h1, _⟩
          ·exact h1
          ·cases h1
         refine sZ ?_
         iterate 2 refine pA ?_
         refine ar_ent (ent_reg 144 (.r (.bool true)) (by show AVal.r (.bool _) = _; exact eqB (by rfl))) ?_
         iterate 3 refine pA ?_
         refine pC ?_ ?_
         ·exact ⟨by omega, by omega⟩
         refine pA ?_
         refine ar_loadAs tOk (.sl (q + 41) 0 (L.length + 1) 16) rfl rfl rfl rfl rfl rfl rfl (own_slot he (by simp [addo_eq, mulz_eq]) rfl) ?_
         iterate 2 refine pA ?_
         refine pE ?_
         refine ag_cond rfl ?_ ?_
         ·intro h153
          have hk2 : k < L.length + 1 := by have : (k : Int) < ((L.length + 1 : Nat) : Int) := of_decide_eq_true h153; omega
          obtain ⟨p', hp'⟩ : ∃ p', (p :: L)[k]? = some p' := ⟨_, List.getElem?_eq_getElem (by simpa using hk2)⟩
          refine sS ?_
          refine ag_block ?_
          by_cases hd : p'.r = o.b.r
          ·skip
           refine qD ?_
           iterate 2 refine qA ?_
           refine qB ?_ ?_
           ·exact ⟨by omega, by omega⟩
           refine qA ?_
           refine aq_loadAs0 tOk (.sl (q + 41) 0 (L.length + 1) 16) rfl rfl rfl rfl rfl (by kernel_rfl) rfl rfl (own_slot he (by simp [addo_eq, mulz_eq]) rfl) ?_
           refine qA ?_
           refine qB ?_ ?_
           ·exact ⟨by omega, by omega⟩
           refine qA ?_
           refine aq_loadAs0 tOk (.r (.int .i64 p'.r)) rfl rfl rfl rfl (ha_ptr (β := q + 41) (bd := .plain (bidsC (p :: L))) rfl (get_ob 1 he hq8 rfl rfl)) (by kernel_rfl) rfl rfl (bids_load1 (j := 0) hp' (by simp [addo_eq, mulz_eq]) (by omega) rfl rfl) ?_
           iterate 2 refine qA ?_
           refine qL ?_
           refine aq_pureE tOk (.r (.bool false)) rfl (by show AVal.r (.bool _) = _; exact eqB (decide_eq_false (fun c => c hd))) rfl (by rfl) trivial ?_
           refine qE ?_
           refine iR ?_
           refine pA ?_
           refine pC ?_ ?_
           ·unfold inI64; omega
           refine pE ?_
           refine ag_ent (ent_keep (g' := (stLAR_4 R S ops o i e0 l q p L (k + 1, false)).1) ?_) ?_
           ·exact ⟨rfl, rfl, rfl, rfl, rfl, rfl, rfl, rfl, by exact eqI (by omega), trivial⟩
           have hnx := hrec4 (k + 1, false)
           refine hnx ?_ ?_
           ·exact .inr ⟨rfl, by rw [fixR, fixP_hit hp' (decide_eq_true hd) hno]; rfl⟩
           ·show L.length + 1 - (k + 1) < L.length + 1 - k; omega
          ·skip
           refine qD ?_
           iterate 2 refine qA ?_
           refine qB ?_ ?_
           ·exact ⟨by omega, by omega⟩
           refine qA ?_
           refine aq_loadAs0 tOk (.sl (q + 41) 0 (L.length + 1) 16) rfl rfl rfl rfl rfl (by kernel_rfl) rfl rfl (own_slot he (by simp [addo_eq, mulz_eq]) rfl) ?_
           refine qA ?_
           refine qB ?_ ?_
           ·exact ⟨by omega, by omega⟩
           refine qA ?_
           refine aq_loadAs0 tOk (.r (.int .i64 p'.r)) rfl rfl rfl rfl (ha_ptr (β := q + 41) (bd := .plain (bidsC (p :: L))) rfl (get_ob 1 he hq8 rfl rfl)) (by kernel_rfl) rfl rfl (bids_load1 (j := 0) hp' (by simp [addo_eq, mulz_eq]) (by omega) rfl rfl) ?_
           iterate 2 refine qA ?_
           refine qL ?_
           refine aq_pureE tOk (.r (.bool true)) rfl (by show AVal.r (.bool _) = _; exact eqB (decide_eq_true hd)) rfl (by rfl) trivial ?_
           refine qE ?_
           refine iR ?_
           refine pA ?_
           refine pC ?_ ?_
           ·unfold inI64; omega
           refine pE ?_
           refine ag_ent (ent_keep (g' := (stLAR_4 R S ops o i e0 l q p L (k + 1, true)).1) ?_) ?_
           ·exact ⟨rfl, rfl, rfl, rfl, rfl, rfl, rfl, rfl, by exact eqI (by omega), trivial⟩
           have hnx := hrec4 (k + 1, true)
           refine hnx ?_ ?_
           ·exact .inl ⟨rfl, by omega, fun j e hj hje => (by
             rcases Nat.lt_or_ge j k with c | c
             ·exact hno j e c hje
             ·obtain rfl : j = k := by omega
              rw [hp'] at hje; cases hje; exact decide_eq_false hd)⟩
           ·show L.length + 1 - (k + 1) < L.length + 1 - k; omega
         ·intro h153
          have hk2 : ¬ ((k : Int) < ((L.length + 1 : Nat) : Int)) := of_decide_eq_false h153
          have hdp : (fixR o.b.r (p :: L)).isSome = false := by rw [fixR, fixP_miss fun j e hj => hno j e (by have := (List.getElem?_eq_some_iff.1 hj).1; simp at this; omega) hj]; rfl
          refine ag_exit rfl ?_
          refine ag_seq ?_
          rcases val_cases R S o.b with ⟨hr2, hvr, hv⟩ | ⟨hr2, hvr, hv⟩ | ⟨hr3, hvr, hv⟩ | ⟨hr3, hvr, hv⟩ | ⟨hr2, hr3, hv⟩
          ·skip
           have cV := w_rValid o.b ho.b R
           rw [hvr] at cV
           refine qD ?_
           iterate 4 refine qA ?_
           refine qL ?_
           refine aq_pureE tOk (.r (.bool true)) rfl (by show AVal.r (.bool _) = _; exact eqB (decide_eq_true hr2)) rfl (by rfl) trivial ?_
           refine qA ?_
           iterate 4 refine aq_skip rfl rfl rfl ?_
           iterate 4 refine qA ?_
           refine qL ?_
           iterate 3 refine qA ?_
           refine qL ?_
           refine qB ?_ ?_
           ·unfold inI64; omega
           refine qB ?_ ?_
           ·exact ⟨by omega, by simp⟩
           refine aq_loadAs tOk (.r (.str R)) rfl rfl rfl rfl (fun _ => rfl) rfl rfl (.inl ⟨rfl, by simp [Body.cells, addo_eq, mulz_eq, hr2]⟩) ?_
           refine aq_pur (cV) rfl rfl rfl rfl rfl rfl rfl ?_
           refine qA ?_
           refine qE ?_
           refine sZ ?_
           iterate 2 refine pA ?_
           refine pB ?_
           refine pA ?_
           refine pB ?_
           refine ar_qd rfl (qop_subH (w_BidB1 R S (e0 :: l) o.b o.now hl q hf ea et p L h25 he ho.b ho.r hle hdp hv) (fun _ _ h => h) rfl (rfl) (subH_lw (es := (e0 :: l)) 40 1 hl (by omega) rfl rfl (by show 40 ≤ 51; omega)) (rfl)) rfl rfl rfl rfl ?_
           refine pA ?_
           refine pE ?_
           refine vC ?_
           refine ag_skip ?_
           refine zB ?_
           refine pE ?_
           refine vC ?_
           refine ag_skip ?_
           refine ag_inBlock ?_
           refine ag_ent (ent_keep (g' := (((fun (es2 : List EV) => ([(0, .r (.ro ops.length (opsC19 ops))), (3, .r (.ro 2 [.str R, .str S])), (4, .ptr 0 0), (5, ownV es2), (6, .r (.int .i64 (i : Int))), (7, .ptr 50 0)], lwH R S es2 o)) (e0 :: l)) : Regs × Hp).1) ?_) (hjn (e0 :: l) ?_)
           ·exact ⟨rfl, rfl, rfl, rfl, rfl, rfl, trivial⟩
           ·exact lwInv_next hin
          ·skip
           have cV := w_rValid o.b ho.b R
           rw [hvr] at cV
           refine qD ?_
           iterate 4 refine qA ?_
           refine qL ?_
           refine aq_pureE tOk (.r (.bool true)) rfl (by show AVal.r (.bool _) = _; exact eqB (decide_eq_true hr2)) rfl (by rfl) trivial ?_
           refine qA ?_
           iterate 4 refine aq_skip rfl rfl rfl ?_
           iterate 4 refine qA ?_
           refine qL ?_
           iterate 3 refine qA ?_
           refine qL ?_
           refine qB ?_ ?_
           ·unfold inI64; omega
           refine qB ?_ ?_
           ·exact ⟨by omega, by simp⟩
           refine aq_loadAs tOk (.r (.str R)) rfl rfl rfl rfl (fun _ => rfl) rfl rfl (.inl ⟨rfl, by simp [Body.cells, addo_eq, mulz_eq, hr2]⟩) ?_
           refine aq_pur (cV) rfl rfl rfl rfl rfl rfl rfl ?_
           refine qA ?_
           refine qE ?_
           refine sZ ?_
           iterate 2 refine pA ?_
           refine pB ?_
           refine pA ?_
           refine pB ?_
           refine ar_over (w_BidO1 R S (e0 :: l) o.b o.now hl q hf ea et p L h25 he ho.b ho.r hle hdp hv) rfl rfl (subH_lw (es := (e0 :: l)) 51 1 hl (by omega) rfl rfl (by show 51 ≤ 51; omega)) rfl rfl rfl rfl rfl ?_
           rintro _ _ ⟨rfl, rfl⟩
           refine ar_ent (ent_lwB hl hq8 rfl) ?_
           refine pA ?_
           refine pE ?_
           refine vC ?_
           refine ag_skip ?_
           refine zB ?_
           refine pE ?_
           refine vB ?_
           refine ag_draw (Hs := hsL [lwB (rvT R S) (e0 :: l) q ⟨ea, et, p :: L⟩ o.b (opB o), ⟨53, (52, some (.plain (cutA (bidsC (p :: L)) 0 ((L.length + 1) * 16) ++ bidC o.b))) :: (q + 41, none) :: (lwB (rvT R S) (e0 :: l) q ⟨ea, et, p :: L⟩ o.b (opB o)).tab, false⟩, ⟨53, (40, some (.mixed ((ownC 0 (e0 :: l)).set (q * 11 + 10) (.sl 52 0 (L.length + 1 + 1) 16)))) :: (52, some (.plain (cutA (bidsC (p :: L)) 0 ((L.length + 1) * 16) ++ bidC o.b))) :: (q + 41, none) :: (lwB (rvT R S) (e0 :: l) q ⟨ea, et, p :: L⟩ o.b (opB o)).tab, false⟩]) (K := 2) [213] (by kernel_rfl) (by kernel_rfl) ?_
           iterate 4 refine qA ?_
           refine qB ?_ ?_
           ·exact ⟨by omega, by omega⟩
           refine qA ?_
           refine aq_loadAs0 tOk (.sl (q + 41) 0 (L.length + 1) 16) rfl rfl rfl rfl rfl (by kernel_rfl) rfl rfl (own_slot he (by simp [addo_eq, mulz_eq]) rfl) ?_
           refine qA ?_
           refine qL ?_
           refine aq_qd (fun _ => qop_buildRoK tOk (v := .ro 1 (bidC o.b)) (by kernel_rfl) (by kernel_rfl)) rfl rfl rfl rfl ?_
           refine aq_app tOk rfl (stepApp_plain (β := q + 41) rfl rfl rfl rfl rfl rfl rfl rfl rfl rfl rfl rfl rfl (lwB_ob hq8 hq8 he) rfl) rfl rfl rfl rfl ?_ ?_
           ·refine ⟨⟨?_, ?_, ?_⟩, ⟨?_, ?_⟩, ⟨?_, ?_⟩, ?_⟩ <;> first | trivial | decide | omega | (simp; done) | (simp; omega) | (show 0 + _ * 16 ≤ List.length (bidsC _); rw [bidsC_len, List.length_cons]; omega) | (simp [bidC]; done)
           refine qB ?_ ?_
           ·exact ⟨by omega, by omega⟩
           refine qA ?_
           refine aq_store tOk rfl (stepStore_told (β := 40) (off := q * 11 + 10) (blk := .mixed (ownC 0 (e0 :: l))) rfl rfl rfl (by show AVal.ptr 40 _ = _; simp [addo_eq, mulz_eq]) rfl ((look_ne (by omega)).trans ((look_ne (by omega)).trans rfl)) rfl (storeF_one (by rw [ownC_len]; omega) rfl)) rfl rfl rfl trivial ?_
           refine aq_nil rfl ?_
           refine ag_inBlock ?_
           refine ag_ent (ent_lwBid (rv := rvT R S) (es := (e0 :: l)) (q := q) (e := ⟨ea, et, p :: L⟩) (b := o.b) (bx := opB o) (g' := (((fun (es2 : List EV) => ([(0, .r (.ro ops.length (opsC19 ops))), (3, .r (.ro 2 [.str R, .str S])), (4, .ptr 0 0), (5, ownV es2), (6, .r (.int .i64 (i : Int))), (7, .ptr 50 0)], lwH R S es2 o)) ((e0 :: l).set q ⟨ea, et, (p :: L) ++ [o.b]⟩)) : Regs × Hp).1) rfl hl he rfl rfl rfl ((look_ne (by omega)).trans (look_eq.trans (congrArg some (congrArg Body.plain (by show cutA (bidsC (p :: L)) 0 ((L.length + 1) * 16) ++ bidC o.b = bidsC ((p :: L) ++ [o.b]); rw [bidsC_app, cutA_eq, List.drop_zero, List.take_of_length_le (by rw [bidsC_len]; exact Nat.le_refl _)]; simp [bidsC]))))) look_eq ?_ ?_) (hjn ((e0 :: l).set q ⟨ea, et, (p :: L) ++ [o.b]⟩) ?_)
           ·exact fun j x h40 h41 hg => (look_ne (Ne.symm h40)).trans ((look_ne (by have := lwB_lt hl hq8 hg; omega)).trans ((look_ne (Ne.symm h41)).trans (hg)))
           ·exact ⟨⟨rfl, rfl⟩, ⟨rfl, rfl⟩, ⟨rfl, by show AVal.ptr (rhoB2 q 0) 0 = _; rw [rhoB2_ne (by omega) (by omega)]; rfl⟩, ⟨ownV_nb (n := 51) (by decide) _, by rw [ownV_set, ownV_ren (rhoB2_ne (by omega) (by omega))]; rfl⟩, ⟨rfl, rfl⟩, ⟨rfl, by show AVal.ptr (rhoB2 q 50) 0 = _; rw [rhoB2_ne (by omega) (by omega)]; rfl⟩, trivial⟩
           ·exact lwInv_set hin he o.b
          ·skip
           have cV := w_rValid o.b ho.b S
           rw [hvr] at cV
           refine qD ?_
           iterate 4 refine qA ?_
           refine qL ?_
           refine aq_pureE tOk (.r (.bool false)) rfl (by show AVal.r (.bool _) = _; exact eqB (decide_eq_false (by omega))) rfl (by rfl) trivial ?_
           iterate 3 refine qA ?_
           refine qL ?_
           refine aq_pureE tOk (.r (.bool true)) rfl (by show AVal.r (.bool _) = _; exact eqB (decide_eq_true hr3)) rfl (by rfl) trivial ?_
           iterate 4 refine qA ?_
           refine qL ?_
           iterate 3 refine qA ?_
           refine qL ?_
           refine qB ?_ ?_
           ·unfold inI64; omega
           refine qB ?_ ?_
           ·exact ⟨by omega, by simp⟩
           refine aq_loadAs tOk (.r (.str S)) rfl rfl rfl rfl (fun _ => rfl) rfl rfl (.inl ⟨rfl, by simp [Body.cells, addo_eq, mulz_eq, hr3]⟩) ?_
           refine aq_pur (cV) rfl rfl rfl rfl rfl rfl rfl ?_
           refine qA ?_
           refine qE ?_
           refine sZ ?_
           iterate 2 refine pA ?_
           refine pB ?_
           refine pA ?_
           refine pB ?_
           refine ar_qd rfl (qop_subH (w_BidB1 R S (e0 :: l) o.b o.now hl q hf ea et p L h25 he ho.b ho.r hle hdp hv) (fun _ _ h => h) rfl (rfl) (subH_lw (es := (e0 :: l)) 40 1 hl (by omega) rfl rfl (by show 40 ≤ 51; omega)) (rfl)) rfl rfl rfl rfl ?_
           refine pA ?_
           refine pE ?_
           refine vC ?_
           refine ag_skip ?_
           refine zB ?_
           refine pE ?_
           refine vC ?_
           refine ag_skip ?_
           refine ag_inBlock ?_
           refine ag_ent (ent_keep (g' := (((fun (es2 : List EV) => ([(0, .r (.ro ops.length (opsC19 ops))), (3, .r (.ro 2 [.str R, .str S])), (4, .ptr 0 0), (5, ownV es2), (6, .r (.int .i64 (i : Int))), (7, .ptr 50 0)], lwH R S es2 o)) (e0 :: l)) : Regs × Hp).1) ?_) (hjn (e0 :: l) ?_)
           ·exact ⟨rfl, rfl, rfl, rfl, rfl, rfl, trivial⟩
           ·exact lwInv_next hin
          ·skip
           have cV := w_rValid o.b ho.b S
           rw [hvr] at cV
           refine qD ?_
           iterate 4 refine qA ?_
           refine qL ?_
           refine aq_pureE tOk (.r (.bool false)) rfl (by show AVal.r (.bool _) = _; exact eqB (decide_eq_false (by omega))) rfl (by rfl) trivial ?_
           iterate 3 refine qA ?_
           refine qL ?_
           refine aq_pureE tOk (.r (.bool true)) rfl (by show AVal.r (.bool _) = _; exact eqB (decide_eq_true hr3)) rfl (by rfl) trivial ?_
           iterate 4 refine qA ?_
           refine qL ?_
           iterate 3 refine qA ?_
           refine qL ?_
           refine qB ?_ ?_
           ·unfold inI64; omega
           refine qB ?_ ?_
           ·exact ⟨by omega, by simp⟩
           refine aq_loadAs tOk (.r (.str S)) rfl rfl rfl rfl (fun _ => rfl) rfl rfl (.inl ⟨rfl, by simp [Body.cells, addo_eq, mulz_eq, hr3]⟩) ?_
           refine aq_pur (cV) rfl rfl rfl rfl rfl rfl rfl ?_
           refine qA ?_
           refine qE ?_
           refine sZ ?_
           iterate 2 refine pA ?_
           refine pB ?_
           refine pA ?_
           refine pB ?_
           refine ar_over (w_BidO1 R S (e0 :: l) o.b o.now hl q hf ea et p L h25 he ho.b ho.r hle hdp hv) rfl rfl (subH_lw (es := (e0 :: l)) 51 1 hl (by omega) rfl rfl (by show 51 ≤ 51; omega)) rfl rfl rfl rfl rfl ?_
           rintro _ _ ⟨rfl, rfl⟩
           refine ar_ent (ent_lwB hl hq8 rfl) ?_
           refine pA ?_
           refine pE ?_
           refine vC ?_
           refine ag_skip ?_
           refine zB ?_
           refine pE ?_
           refine vB ?_
           refine ag_draw (Hs := hsL [lwB (rvT R S) (e0 :: l) q ⟨ea, et, p :: L⟩ o.b (opB o), ⟨53, (52, some (.plain (cutA (bidsC (p :: L)) 0 ((L.length + 1) * 16) ++ bidC o.b))) :: (q + 41, none) :: (lwB (rvT R S) (e0 :: l) q ⟨ea, et, p :: L⟩ o.b (opB o)).tab, false⟩, ⟨53, (40, some (.mixed ((ownC 0 (e0 :: l)).set (q * 11 + 10) (.sl 52 0 (L.length + 1 + 1) 16)))) :: (52, some (.plain (cutA (bidsC (p :: L)) 0 ((L.length + 1) * 16) ++ bidC o.b))) :: (q + 41, none) :: (lwB (rvT R S) (e0 :: l) q ⟨ea, et, p :: L⟩ o.b (opB o)).tab, false⟩]) (K := 2) [213] (by kernel_rfl) (by kernel_rfl) ?_
           iterate 4 refine qA ?_
           refine qB ?_ ?_
           ·exact ⟨by omega, by omega⟩
           refine qA ?_
           refine aq_loadAs0 tOk (.sl (q + 41) 0 (L.length + 1) 16) rfl rfl rfl rfl rfl (by kernel_rfl) rfl rfl (own_slot he (by simp [addo_eq, mulz_eq]) rfl) ?_
           refine qA ?_
           refine qL ?_
           refine aq_qd (fun _ => qop_buildRoK tOk (v := .ro 1 (bidC o.b)) (by kernel_rfl) (by kernel_rfl)) rfl rfl rfl rfl ?_
           refine aq_app tOk rfl (stepApp_plain (β := q + 41) rfl rfl rfl rfl rfl rfl rfl rfl rfl rfl rfl rfl rfl (lwB_ob hq8 hq8 he) rfl) rfl rfl rfl rfl ?_ ?_
           ·refine ⟨⟨?_, ?_, ?_⟩, ⟨?_, ?_⟩, ⟨?_, ?_⟩, ?_⟩ <;> first | trivial | decide | omega | (simp; done) | (simp; omega) | (show 0 + _ * 16 ≤ List.length (bidsC _); rw [bidsC_len, List.length_cons]; omega) | (simp [bidC]; done)
           refine qB ?_ ?_
           ·exact ⟨by omega, by omega⟩
           refine qA ?_
           refine aq_store tOk rfl (stepStore_told (β := 40) (off := q * 11 + 10) (blk := .mixed (ownC 0 (e0 :: l))) rfl rfl rfl (by show AVal.ptr 40 _ = _; simp [addo_eq, mulz_eq]) rfl ((look_ne (by omega)).trans ((look_ne (by omega)).trans rfl)) rfl (storeF_one (by rw [ownC_len]; omega) rfl)) rfl rfl rfl trivial ?_
           refine aq_nil rfl ?_
           refine ag_inBlock ?_
           refine ag_ent (ent_lwBid (rv := rvT R S) (es := (e0 :: l)) (q := q) (e := ⟨ea, et, p :: L⟩) (b := o.b) (bx := opB o) (g' := (((fun (es2 : List EV) => ([(0, .r (.ro ops.length (opsC19 ops))), (3, .r (.ro 2 [.str R, .str S])), (4, .ptr 0 0), (5, ownV es2), (6, .r (.int .i64 (i : Int))), (7, .ptr 50 0)], lwH R S es2 o)) ((e0 :: l).set q ⟨ea, et, (p :: L) ++ [o.b]⟩)) : Regs × Hp).1) rfl hl he rfl rfl rfl ((look_ne (by omega)).trans (look_eq.trans (congrArg some (congrArg Body.plain (by show cutA (bidsC (p :: L)) 0 ((L.length + 1) * 16) ++ bidC o.b = bidsC ((p :: L) ++ [o.b]); rw [bidsC_app, cutA_eq, List.drop_zero, List.take_of_length_le (by rw [bidsC_len]; exact Nat.le_refl _)]; simp [bidsC]))))) look_eq ?_ ?_) (hjn ((e0 :: l).set q ⟨ea, et, (p :: L) ++ [o.b]⟩) ?_)
           ·exact fun j x h40 h41 hg => (look_ne (Ne.symm h40)).trans ((look_ne (by have := lwB_lt hl hq8 hg; omega)).trans ((look_ne (Ne.symm h41)).trans (hg)))
           ·exact ⟨⟨rfl, rfl⟩, ⟨rfl, rfl⟩, ⟨rfl, by show AVal.ptr (rhoB2 q 0) 0 = _; rw [rhoB2_ne (by omega) (by omega)]; rfl⟩, ⟨ownV_nb (n := 51) (by decide) _, by rw [ownV_set, ownV_ren (rhoB2_ne (by omega) (by omega))]; rfl⟩, ⟨rfl, rfl⟩, ⟨rfl, by show AVal.ptr (rhoB2 q 50) 0 = _; rw [rhoB2_ne (by omega) (by omega)]; rfl⟩, trivial⟩
           ·exact lwInv_set hin he o.b
          ·skip
           refine qD ?_
           iterate 4 refine qA ?_
           refine qL ?_
           refine aq_pureE tOk (.r (.bool false)) rfl (by show AVal.r (.bool _) = _; exact eqB (decide_eq_false (by omega))) rfl (by rfl) trivial ?_
           iterate 3 refine qA ?_
           refine qL ?_
           refine aq_pureE tOk (.r (.bool false)) rfl (by show AVal.r (.bool _) = _; exact eqB (decide_eq_false hr3)) rfl (by rfl) trivial ?_
           iterate 3 refine qA ?_
           iterate 10 refine aq_skip rfl rfl rfl ?_
           refine qA ?_
           refine qE ?_
           refine sZ ?_
           iterate 2 refine pA ?_
           refine pB ?_
           refine pA ?_
           refine pB ?_
           refine ar_qd rfl (qop_subH (w_BidB1 R S (e0 :: l) o.b o.now hl q hf ea et p L h25 he ho.b ho.r hle hdp hv) (fun _ _ h => h) rfl (rfl) (subH_lw (es := (e0 :: l)) 40 1 hl (by omega) rfl rfl (by show 40 ≤ 51; omega)) (rfl)) rfl rfl rfl rfl ?_
           refine pA ?_
           refine pE ?_
           refine vC ?_
           refine ag_skip ?_
           refine zB ?_
           refine pE ?_
           refine vC ?_
           refine ag_skip ?_
           refine ag_inBlock ?_
           refine ag_ent (ent_keep (g' := (((fun (es2 : List EV) => ([(0, .r (.ro ops.length (opsC19 ops))), (3, .r (.ro 2 [.str R, .str S])), (4, .ptr 0 0), (5, ownV es2), (6, .r (.int .i64 (i : Int))), (7, .ptr 50 0)], lwH R S es2 o)) (e0 :: l)) : Regs × Hp).1) ?_) (hjn (e0 :: l) ?_)
           ·exact ⟨rfl, rfl, rfl, rfl, rfl, rfl, trivial⟩
           ·exact lwInv_next hin
       ·skip
        refine ag_ent (ent_reg 11 (.r (.bool false)) (by show AVal.r (.bool _) = _; exact eqB (decide_eq_false hle))) ?_
        have hle : o.now > o.b.e := by omega
        skip
        refine ag_reg ?_
        refine pE ?_
        refine ag_block ?_
        refine ag_unroll ?_
        refine sZ ?_
        iterate 2 refine pA ?_
        refine ar_ent (ent_reg 144 (.r (.bool false)) (by show AVal.r (.bool _) = _; exact eqB (by rfl))) ?_
        iterate 8 refine ar_skip rfl rfl rfl ?_
        refine pE ?_
        refine vC ?_
        refine ag_exit rfl ?_
        refine ag_seq ?_
        refine qD ?_
        iterate 2 refine qA ?_
        iterate 10 refine aq_skip rfl rfl rfl ?_
        iterate 2 refine qA ?_
        iterate 10 refine aq_skip rfl rfl rfl ?_
        refine qA ?_
        refine qE ?_
        refine sZ ?_
        iterate 2 refine pA ?_
        refine pB ?_
        refine pA ?_
        refine pB ?_
        refine ar_qd rfl (qop_subH (w_BidL1 R S (e0 :: l) o.b o.now hl q hf ea et p L h25 he hle) (fun _ _ h => h) rfl (rfl) (subH_lw (es := (e0 :: l)) 40 1 hl (by omega) rfl rfl (by show 40 ≤ 51; omega)) (rfl)) rfl rfl rfl rfl ?_
        refine pA ?_
        refine pE ?_
        refine vC ?_
        refine ag_skip ?_
        refine zB ?_
        refine pE ?_
        refine vC ?_
        refine ag_skip ?_
        refine ag_inBlock ?_
        refine ag_ent (ent_keep (g' := (((fun (es2 : List EV) => ([(0, .r (.ro ops.length (opsC19 ops))), (3, .r (.ro 2 [.str R, .str S])), (4, .ptr 0 0), (5, ownV es2), (6, .r (.int .i64 (i : Int))), (7, .ptr 50 0)], lwH R S es2 o)) (e0 :: l)) : Regs × Hp).1) ?_) (hjn (e0 :: l) ?_)
        ·exact ⟨rfl, rfl, rfl, rfl, rfl, rfl, trivial⟩
        ·exact lwInv_next hin
      ·intro h131
       refine ag_seq ?_
       have cB := w_BestHit (rv := rvT R S) o.now (i : Int) hl hf he (by simp only [List.length_nil, List.length_cons]; omega) het ho.now
       have cL := w_lbest1 ea et o.now p L h25 het ho.now
       generalize bestE o.now ⟨ea, et, p :: L⟩ = z at cB cL
       obtain ⟨P, f⟩ := z
       simp only at cB cL
       refine ag_reg ?_
       iterate 3 refine pA ?_
       refine pB ?_
       refine pA ?_
       refine pB ?_
       refine pA ?_
       refine ar_qd rfl (qop_subH (cB) (fun _ _ h => h) rfl (rfl) (subH_lw (es := (e0 :: l)) 40 1 hl (by omega) rfl rfl (by show 40 ≤ 51; omega)) (rfl)) rfl rfl rfl rfl ?_
       iterate 3 refine pA ?_
       refine pN ?_ ?_
       ·simp
       refine ar_store (h' := ⟨52, (51, some (.mixed ((bidC P).map .r))) :: (51, some (.mixed ((bidC bid0).map .r))) :: (50, some (opB o)) :: lwT (rvT R S) (e0 :: l), false⟩) (c := True) tOk (by kernel_rfl) rfl rfl trivial ?_
       refine pG ?_
       refine pN ?_ ?_
       ·simp
       refine zC ?_
       refine pF ?_
       refine zB ?_
       refine pA ?_
       refine pE ?_
       refine ag_true rfl (decide_eq_true (by omega)) ?_
       refine ag_draw (Hs := hsL [⟨53, (52, some (.mixed ((bidC bid0).map .r))) :: (51, some (.mixed ((bidC P).map .r))) :: (51, some (.mixed ((bidC bid0).map .r))) :: (50, some (opB o)) :: lwT (rvT R S) (e0 :: l), false⟩, ⟨53, (52, some (.mixed ((bidC P).map .r))) :: (52, some (.mixed ((bidC bid0).map .r))) :: (51, some (.mixed ((bidC P).map .r))) :: (51, some (.mixed ((bidC bid0).map .r))) :: (50, some (opB o)) :: lwT (rvT R S) (e0 :: l), false⟩]) (K := 1) [] (by kernel_rfl) (by kernel_rfl) ?_
       iterate 2 refine qA ?_
       refine qB ?_ ?_
       ·exact ⟨by omega, by omega⟩
       refine aq_loadAs0 tOk (.agg (entC ea et (.sl (q + 41) 0 (L.length + 1) 16))) rfl rfl rfl rfl rfl (by kernel_rfl) rfl rfl (own_ent he (by simp [addo_eq, mulz_eq]) rfl rfl) ?_
       refine qA ?_
       refine qL ?_
       refine aq_qd0 (qop_objR [q + 41] (cL) (by rintro _ _ ⟨rfl, rfl⟩; exact ⟨rfl, rfl⟩) rfl rfl (handed_of rfl (by show (Nat.blt (q + 41) 53 && true) = true; rw [blt_of (by omega)]; rfl) (by simp) ⟨rfl, rfl, (look_ne (show 52 ≠ q + 41 by omega)).trans ((look_ne (show 51 ≠ q + 41 by omega)).trans ((look_ne (show 51 ≠ q + 41 by omega)).trans ((look_ne (show 50 ≠ q + 41 by omega)).trans (lw_ob he)))), trivial⟩) rfl rfl) (by kernel_rfl) rfl rfl rfl rfl ?_
       iterate 3 refine qA ?_
       refine aq_store (c := True) tOk rfl (by kernel_rfl) rfl rfl rfl trivial ?_
       refine qE ?_
       refine zB ?_
       iterate 4 refine pA ?_
       refine ar_ent (ent_reg 80 (.r (.bool false)) (by show AVal.r (.bool _) = _; exact eqB (by simp))) ?_
       iterate 2 refine pB ?_
       refine pA ?_
       refine pE ?_
       refine ag_false rfl (by first | rfl | simp) ?_
       refine ag_skip ?_
       refine ag_inBlock ?_
       refine ag_ent (ent_weakS (S := lwT (rvT R S) (e0 :: l)) (n := 50) (g' := (((fun (es2 : List EV) => ([(0, .r (.ro ops.length (opsC19 ops))), (3, .r (.ro 2 [.str R, .str S])), (4, .ptr 0 0), (5, ownV es2), (6, .r (.int .i64 (i : Int))), (7, .ptr 50 0)], lwH R S es2 o)) (e0 :: l)) : Regs × Hp).1) (h' := (((fun (es2 : List EV) => ([(0, .r (.ro ops.length (opsC19 ops))), (3, .r (.ro 2 [.str R, .str S])), (4, .ptr 0 0), (5, ownV es2), (6, .r (.int .i64 (i : Int))), (7, .ptr 50 0)], lwH R S es2 o)) (e0 :: l)) : Regs × Hp).2) [50] 5 1 (symOk_lw hl (by omega)) rfl rfl rfl ?_ rfl rfl rfl rfl rfl rfl rfl ?_ rfl) (hjn (e0 :: l) ?_)
       ·exact ⟨⟨rfl, rfl, rfl⟩, trivial⟩
       ·exact ⟨⟨rfl, rfl⟩, ⟨rfl, rfl⟩, ⟨rfl, rfl⟩, ⟨ownV_nb (n := 51) (by decide) _, ownV_ren rfl _⟩, ⟨rfl, rfl⟩, ⟨rfl, rfl⟩, trivial⟩
       ·exact lwInv_next hin
   ·rintro es2 hjp
    refine ag_seq ?_
    rcases es_cases es2 o.b.a with rfl | ⟨e01, l1, rfl, hf⟩ | ⟨e01, l1, q, ea, et, rfl, hf, he⟩ | ⟨e01, l1, q, ea, et, p, L, rfl, hf, he⟩
    ·skip
     have hl : [].length ≤ 8 := hjp.1
     have hf : fixA o.b.a [] = none := rfl
     refine qD ?_
     refine qA ?_
     refine aq_qd0 (qop_subH (w_AsksV hl) (fun _ _ h => h) rfl (rfl) (subH_lw (es := []) 40 1 hl (by omega) rfl rfl (by show 40 ≤ 51; omega)) (rfl)) (by kernel_rfl) rfl rfl rfl rfl ?_
     iterate 3 refine qA ?_
     refine qL ?_
     refine aq_qd0 (qop_subH (w_BidsMiss (rvT R S) [] o.b.a hl hf) (fun _ _ h => h) rfl (rfl) (subH_lw (es := []) 40 1 hl (by omega) rfl rfl (by show 40 ≤ 51; omega)) (rfl)) (by kernel_rfl) rfl rfl rfl rfl ?_
     refine qA ?_
     refine qE ?_
     refine zB ?_
     iterate 3 refine pA ?_
     refine pB ?_
     refine ar_qd rfl (qop_subH (w_lfind o.b.a hl) (fun _ _ h => h) rfl (rfl) (subH_own hl (by show 50 ≤ 51; omega) rfl) (rfl)) rfl rfl rfl rfl ?_
     refine pE ?_
     refine ag_ent (ent_reg 8 (.r (.int .i64 (-1))) (by show AVal.r (.int _ _) = _; exact eqI (ixI_miss hf))) ?_
     refine zB ?_
     refine pF ?_
     refine zB ?_
     refine pA ?_
     refine pE ?_
     refine vC ?_
     refine sS ?_
     refine zB ?_
     iterate 6 refine pA ?_
     refine ar_ent (ent_reg 241 (.r (.bool false)) (by show AVal.r (.bool _) = _; exact eqB (by rfl))) ?_
     iterate 4 refine pA ?_
     refine pE ?_
     refine ag_false rfl (by first | rfl | simp) ?_
     refine ag_skip ?_
     refine zB ?_
     refine pE ?_
     refine ag_block ?_
     refine ag_unroll ?_
     refine sZ ?_
     iterate 2 refine pA ?_
     refine pE ?_
     refine vC ?_
     refine ag_exit rfl ?_
     refine iR ?_
     refine pA ?_
     refine pC ?_ ?_
     ·unfold inI64; omega
     refine pE ?_
     refine ag_ent (ent_weakS (S := lwT (rvT R S) []) (n := 50) (g' := (stLAR_0 R S ops (i + 1, [])).1) (h' := (stLAR_0 R S ops (i + 1, [])).2) [] 1 0 (symOk_lw hl (by omega)) rfl rfl rfl ?_ rfl rfl rfl rfl rfl rfl rfl ?_ rfl) ?_
     ·trivial
     ·exact ⟨⟨rfl, rfl⟩, ⟨rfl, rfl⟩, ⟨rfl, rfl⟩, ⟨by exact ownV_nb (n := 50) (by decide) _, by exact ownV_ren rfl _⟩, ⟨rfl, by exact eqI (by omega)⟩, trivial⟩
     have hnx := hrec (i + 1, [])
     refine hnx ?_ ?_
     ·exact ⟨by omega, by omega, hjp⟩
     ·show ops.length - (i + 1) < ops.length - i; omega
    ·skip
     have hl : (e01 :: l1).length ≤ 8 := hjp.1
     have hl2 : l1.length + 1 ≤ 8 := hl
     refine qD ?_
     refine qA ?_
     refine aq_qd0 (qop_subH (w_AsksV hl) (fun _ _ h => h) rfl (rfl) (subH_lw (es := (e01 :: l1)) 40 1 hl (by omega) rfl rfl (by show 40 ≤ 51; omega)) (rfl)) (by kernel_rfl) rfl rfl rfl rfl ?_
     iterate 3 refine qA ?_
     refine qL ?_
     refine aq_qd0 (qop_subH (w_BidsMiss (rvT R S) (e01 :: l1) o.b.a hl hf) (fun _ _ h => h) rfl (rfl) (subH_lw (es := (e01 :: l1)) 40 1 hl (by omega) rfl rfl (by show 40 ≤ 51; omega)) (rfl)) (by kernel_rfl) rfl rfl rfl rfl ?_
     refine qA ?_
     refine qE ?_
     refine zB ?_
     iterate 3 refine pA ?_
     refine pB ?_
     refine ar_qd rfl (qop_subH (w_lfind o.b.a hl) (fun _ _ h => h) rfl (rfl) (subH_own hl (by show 50 ≤ 51; omega) rfl) (rfl)) rfl rfl rfl rfl ?_
     refine pE ?_
     refine ag_ent (ent_reg 8 (.r (.int .i64 (-1))) (by show AVal.r (.int _ _) = _; exact eqI (ixI_miss hf))) ?_
     refine zB ?_
     refine pF ?_
     refine zB ?_
     refine pA ?_
     refine pE ?_
     refine vC ?_
     refine sS ?_
     refine zB ?_
     iterate 6 refine pA ?_
     refine ar_ent (ent_reg 241 (.r (.bool false)) (by show AVal.r (.bool _) = _; exact eqB (by simp))) ?_
     iterate 4 refine pA ?_
     refine pE ?_
     refine ag_false rfl (by first | rfl | simp) ?_
     refine ag_skip ?_
     refine zB ?_
     refine pE ?_
     refine ag_block ?_
     refine ag_unroll ?_
     refine sZ ?_
     iterate 2 refine pA ?_
     refine pE ?_
     refine vC ?_
     refine ag_exit rfl ?_
     refine iR ?_
     refine pA ?_
     refine pC ?_ ?_
     ·unfold inI64; omega
     refine pE ?_
     refine ag_ent (ent_weakS (S := lwT (rvT R S) (e01 :: l1)) (n := 50) (g' := (stLAR_0 R S ops (i + 1, (e01 :: l1))).1) (h' := (stLAR_0 R S ops (i + 1, (e01 :: l1))).2) [] 1 0 (symOk_lw hl (by omega)) rfl rfl rfl ?_ rfl rfl rfl rfl rfl rfl rfl ?_ rfl) ?_
     ·trivial
     ·exact ⟨⟨rfl, rfl⟩, ⟨rfl, rfl⟩, ⟨rfl, rfl⟩, ⟨by exact ownV_nb (n := 50) (by decide) _, by exact ownV_ren rfl _⟩, ⟨rfl, by exact eqI (by omega)⟩, trivial⟩
     have hnx := hrec (i + 1, (e01 :: l1))
     refine hnx ?_ ?_
     ·exact ⟨by omega, by omega, hjp⟩
     ·show ops.length - (i + 1) < ops.length - i; omega
    ·skip
     have hl : (e01 :: l1).length ≤ 8 := hjp.1
     have hl2 : l1.length + 1 ≤ 8 := hl
     have hq := fix_lt hf
     have hq8 : q < 8 := by omega
     have hq2 : q < l1.length + 1 := by simpa using hq
     obtain ⟨hLi, het⟩ := hjp.2 q _ he
     simp only at hLi het
     refine qD ?_
     refine qA ?_
     refine aq_qd0 (qop_subH (w_AsksV hl) (fun _ _ h => h) rfl (rfl) (subH_lw (es := (e01 :: l1)) 40 1 hl (by omega) rfl rfl (by show 40 ≤ 51; omega)) (rfl)) (by kernel_rfl) rfl rfl rfl rfl ?_
     iterate 3 refine qA ?_
     refine qL ?_
     refine aq_qd0 (qop_subH (w_BidsHit (rv := rvT R S) hl hf he (by simp only [List.length_nil, List.length_cons]; omega)) (fun _ _ h => h) rfl (rfl) (subH_lw (es := (e01 :: l1)) 40 1 hl (by omega) rfl rfl (by show 40 ≤ 51; omega)) (rfl)) (by kernel_rfl) rfl rfl rfl rfl ?_
     refine qA ?_
     refine qE ?_
     refine zB ?_
     iterate 3 refine pA ?_
     refine pB ?_
     refine ar_qd rfl (qop_subH (w_lfind o.b.a hl) (fun _ _ h => h) rfl (rfl) (subH_own hl (by show 50 ≤ 51; omega) rfl) (rfl)) rfl rfl rfl rfl ?_
     refine pE ?_
     refine ag_ent (ent_reg 8 (.r (.int .i64 (q))) (by show AVal.r (.int _ _) = _; exact eqI (ixI_hit hf))) ?_
     refine zB ?_
     refine pF ?_
     refine zB ?_
     refine pA ?_
     refine pE ?_
     refine ag_true rfl (decide_eq_true (by omega)) ?_
     refine ag_reg ?_
     iterate 2 refine pA ?_
     refine pC ?_ ?_
     ·exact ⟨by omega, by omega⟩
     refine pA ?_
     refine ar_loadAs tOk (.r .nil) rfl rfl rfl rfl rfl rfl rfl (own_slot he (by simp [addo_eq, mulz_eq]) rfl) ?_
     refine pA ?_
     refine pF ?_
     refine zB ?_
     iterate 6 refine pA ?_
     refine ar_ent (ent_reg 241 (.r (.bool false)) (by show AVal.r (.bool _) = _; exact eqB (by simp))) ?_
     iterate 4 refine pA ?_
     refine pE ?_
     refine ag_false rfl (by first | rfl | simp) ?_
     refine ag_skip ?_
     refine zB ?_
     refine pE ?_
     refine ag_block ?_
     refine ag_unroll ?_
     refine sZ ?_
     iterate 2 refine pA ?_
     refine pE ?_
     refine vC ?_
     refine ag_exit rfl ?_
     refine iR ?_
     refine pA ?_
     refine pC ?_ ?_
     ·unfold inI64; omega
     refine pE ?_
     refine ag_ent (ent_weakS (S := lwT (rvT R S) (e01 :: l1)) (n := 50) (g' := (stLAR_0 R S ops (i + 1, (e01 :: l1))).1) (h' := (stLAR_0 R S ops (i + 1, (e01 :: l1))).2) [] 1 0 (symOk_lw hl (by omega)) rfl rfl rfl ?_ rfl rfl rfl rfl rfl rfl rfl ?_ rfl) ?_
     ·trivial
     ·exact ⟨⟨rfl, rfl⟩, ⟨rfl, rfl⟩, ⟨rfl, rfl⟩, ⟨by exact ownV_nb (n := 50) (by decide) _, by exact ownV_ren rfl _⟩, ⟨rfl, by exact eqI (by omega)⟩, trivial⟩
     have hnx := hrec (i + 1, (e01 :: l1))
     refine hnx ?_ ?_
     ·exact ⟨by omega, by omega, hjp⟩
     ·show ops.length - (i + 1) < ops.length - i; omega
    ·skip
     have hl : (e01 :: l1).length ≤ 8 := hjp.1
     have hl2 : l1.length + 1 ≤ 8 := hl
     have hq := fix_lt hf
     have hq8 : q < 8 := by omega
     have hq2 : q < l1.length + 1 := by simpa using hq
     obtain ⟨hLi, het⟩ := hjp.2 q _ he
     simp only at hLi het
     simp only [List.length_cons] at hLi
     have h25 : L.length + 1 ≤ 25 := by omega
     refine qD ?_
     refine qA ?_
     refine aq_qd0 (qop_subH (w_AsksV hl) (fun _ _ h => h) rfl (rfl) (subH_lw (es := (e01 :: l1)) 40 1 hl (by omega) rfl rfl (by show 40 ≤ 51; omega)) (rfl)) (by kernel_rfl) rfl rfl rfl rfl ?_
     iterate 3 refine qA ?_
     refine qL ?_
     refine aq_qd0 (qop_subH (w_BidsHit (rv := rvT R S) hl hf he (by simp only [List.length_nil, List.length_cons]; omega)) (fun _ _ h => h) rfl (rfl) (subH_lw (es := (e01 :: l1)) 40 1 hl (by omega) rfl rfl (by show 40 ≤ 51; omega)) (rfl)) (by kernel_rfl) rfl rfl rfl rfl ?_
     refine qA ?_
     refine qE ?_
     refine zB ?_
     iterate 3 refine pA ?_
     refine pB ?_
     refine ar_qd rfl (qop_subH (w_lfind o.b.a hl) (fun _ _ h => h) rfl (rfl) (subH_own hl (by show 50 ≤ 51; omega) rfl) (rfl)) rfl rfl rfl rfl ?_
     refine pE ?_
     refine ag_ent (ent_reg 8 (.r (.int .i64 (q))) (by show AVal.r (.int _ _) = _; exact eqI (ixI_hit hf))) ?_
     refine zB ?_
     refine pF ?_
     refine zB ?_
     refine pA ?_
     refine pE ?_
     refine ag_true rfl (decide_eq_true (by omega)) ?_
     refine ag_reg ?_
     iterate 2 refine pA ?_
     refine pC ?_ ?_
     ·exact ⟨by omega, by omega⟩
     refine pA ?_
     refine ar_loadAs tOk (.sl (q + 41) 0 (L.length + 1) 16) rfl rfl rfl rfl rfl rfl rfl (own_slot he (by simp [addo_eq, mulz_eq]) rfl) ?_
     refine pA ?_
     refine pF ?_
     refine zB ?_
     iterate 6 refine pA ?_
     refine ar_ent (ent_reg 241 (.r (.bool false)) (by show AVal.r (.bool _) = _; exact eqB (by simp))) ?_
     iterate 4 refine pA ?_
     refine pE ?_
     refine ag_false rfl (by first | rfl | simp) ?_
     refine ag_skip ?_
     refine zB ?_
     refine pE ?_
     refine ag_block ?_
     refine ag_loopS (stLAR_6 R S ops o i e01 l1 q p L) (prLAR_6 R S ops o i e01 l1 q p L) (fun (k : Nat) => L.length + 1 - k) 0 (ent_keep ?_) (show prLAR_6 R S ops o i e01 l1 q p L 0 from ?_) ?_
     ·exact ⟨rfl, rfl, rfl, rfl, rfl, rfl, rfl, rfl, rfl, rfl, trivial⟩
     ·exact Nat.zero_le _
     rintro k hk hrec6
     refine sZ ?_
     iterate 2 refine pA ?_
     refine pE ?_
     refine ag_if rfl ?_ ?_
     ·intro h249
      have hk2 : k < L.length + 1 := by omega
      obtain ⟨p', hp'⟩ : ∃ p', (p :: L)[k]? = some p' := ⟨_, List.getElem?_eq_getElem (by simpa using hk2)⟩
      refine sS ?_
      refine ag_block ?_
      refine ag_seq ?_
      refine qD ?_
      iterate 2 refine qA ?_
      refine qB ?_ ?_
      ·exact ⟨by omega, by simp [bidsC, bidC]⟩
      refine aq_loadAs tOk (bidA p') rfl rfl rfl rfl (fun _ => rfl) rfl rfl (bids_loads hp' (by simp [addo_eq, mulz_eq]) rfl rfl) ?_
      iterate 2 refine qA ?_
      refine qB ?_ ?_
      ·exact ⟨by omega, by omega⟩
      refine qA ?_
      refine aq_loadAs0 tOk (.sl (q + 41) 0 (L.length + 1) 16) rfl rfl rfl rfl rfl (by kernel_rfl) rfl rfl (own_slot he (by simp [addo_eq, mulz_eq]) rfl) ?_
      refine qA ?_
      refine qB ?_ ?_
      ·exact ⟨by omega, by omega⟩
      refine aq_loadAs0 tOk (bidA p') rfl rfl rfl rfl (ha_ptr (β := q + 41) (bd := .plain (bidsC (p :: L))) rfl (get_ob 1 he hq8 rfl rfl)) (by kernel_rfl) rfl rfl (bids_loads hp' (by simp [addo_eq, mulz_eq]) rfl rfl) ?_
      refine aq_pureE tOk (.r (.bool false)) rfl (by show AVal.r (.bool _) = _; exact eqB (by simp)) rfl (by rfl) trivial ?_
      refine aq_nil rfl ?_
      refine vC ?_
      refine ag_skip ?_
      refine iR ?_
      refine pA ?_
      refine pC ?_ ?_
      ·unfold inI64; omega
      refine pE ?_
      refine ag_ent (ent_keep (g' := (stLAR_6 R S ops o i e01 l1 q p L (k + 1)).1) ?_) ?_
      ·exact ⟨rfl, rfl, rfl, rfl, rfl, rfl, rfl, rfl, rfl, by exact eqI (by omega), trivial⟩
      have hnx := hrec6 (k + 1)
      refine hnx ?_ ?_
      ·show k + 1 ≤ L.length + 1; omega
      ·show L.length + 1 - (k + 1) < L.length + 1 - k; omega
     ·intro h249
      refine ag_exit rfl ?_
      refine iR ?_
      refine pA ?_
      refine pC ?_ ?_
      ·unfold inI64; omega
      refine pE ?_
      refine ag_ent (ent_weakS (S := lwT (rvT R S) (e01 :: l1)) (n := 50) (g' := (stLAR_0 R S ops (i + 1, (e01 :: l1))).1) (h' := (stLAR_0 R S ops (i + 1, (e01 :: l1))).2) [] 1 0 (symOk_lw hl (by omega)) rfl rfl rfl ?_ rfl rfl rfl rfl rfl rfl rfl ?_ rfl) ?_
      ·trivial
      ·exact ⟨⟨rfl, rfl⟩, ⟨rfl, rfl⟩, ⟨rfl, rfl⟩, ⟨by exact ownV_nb (n := 50) (by decide) _, by exact ownV_ren rfl _⟩, ⟨rfl, by exact eqI (by omega)⟩, trivial⟩
      have hnx := hrec (i + 1, (e01 :: l1))
      refine hnx ?_ ?_
      ·exact ⟨by omega, by omega, hjp⟩
      ·show ops.length - (i + 1) < ops.length - i; omega
  ·intro h37
   refine ag_exit rfl ?_
   refine zB ?_
   refine pE ?_
   refine ag_ret tOk Tryz.func3 rfl rfl (by simp) ?_
   rfl
 ·refine ar_ent (ent_reg 34 (.r (.bool false)) (by show AVal.r (.bool _) = _; exact eqB ht)) ?_
  repeat (first | refine ar_skip rfl rfl rfl ?_ | refine ar_pure tOk rfl rfl rfl trivial ?_)
  refine ar_nil ?_
  refine vC ?_
  refine ag_exit rfl ?_
  refine zB ?_
  refine pE ?_
  refine ag_ret tOk Tryz.func3 rfl rfl (by simp) ?_
  rfl
end Go.Proofs.YtccdhgmkjakjkaaGreat
