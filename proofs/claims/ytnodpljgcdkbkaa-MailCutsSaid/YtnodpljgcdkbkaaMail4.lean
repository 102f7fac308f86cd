/-
  WALKS: messages of octets. (Printed by gen.py out of w_mail4.py.)
-/
import Derived.Test.YtnodpljgcdkbkaaMail3
namespace Go.Proofs.Ytnodpljgcdkbkaa
open Go
set_option maxRecDepth 20000
set_option linter.unusedVariables false
set_option linter.unusedSimpArgs false
def rdV (m : MsgV) (r : W) : MsgV × Int := if r.2 ≠ 0 then (msg0, r.2) else if 0 < r.1.length ∨ msgE m ≠ 0 then (msg0, 16) else (m, 0)
def rdK (a : Int × W) : MsgV × Int :=
  if a.1 = 1 then
    let c := gAsk a.2
    rdV ⟨a.1, c.1, bid0, inv0, var0, 0, 0, 0, 0, []⟩ c.2
  else if a.1 = 2 then
    let c := gNu a.2 M40
    let d := gAsk c.2
    let e := tkR d.2 32
    let f := gNu e.2 M40
    let s := gTx f.2 1024
    rdV ⟨a.1, ask0, ⟨c.1, d.1, fB e.1 24 8, fB e.1 16 8, fB e.1 8 8, fB e.1 0 8, f.1, s.1⟩, inv0, var0, 0, 0, 0, 0, []⟩ s.2
  else if a.1 = 3 then
    let i := gInv a.2
    let j := gVar i.2
    let g := tkR j.2 32
    let s := gTx g.2 1024
    rdV ⟨a.1, ask0, bid0, i.1, j.1, fB g.1 24 8, fB g.1 16 8, fB g.1 8 8, fB g.1 0 8, s.1⟩ s.2
  else rdV ⟨a.1, ask0, bid0, inv0, var0, 0, 0, 0, 0, []⟩ a.2
def rdM (b : List UInt8) : MsgV × Int := rdK (gNu (opR b) M40)
theorem rd_1 {m : MsgV} {r : W} (h : r.2 ≠ 0) : rdV m r = (msg0, r.2) := by rw [rdV, if_pos h]
theorem rd_2 {m : MsgV} {r : W} (h : ¬ r.2 ≠ 0) (q : 0 < r.1.length ∨ msgE m ≠ 0) : rdV m r = (msg0, 16) := by rw [rdV, if_neg h, if_pos q]
theorem rd_3 {m : MsgV} {r : W} (h : ¬ r.2 ≠ 0) (q : ¬ (0 < r.1.length ∨ msgE m ≠ 0)) : rdV m r = (m, 0) := by rw [rdV, if_neg h, if_neg q]
theorem fB_u64 (b : List UInt8) (s n : Nat) (hn : n ≤ 8) : U64 (fB b s n) := by
  have h := intF_bound ((b.drop s).take n).length ((b.drop s).take n) (Nat.le_refl _)
  rw [List.take_of_length_le (Nat.le_refl _)] at h
  have hl : ((b.drop s).take n).length ≤ 8 := by simp; omega
  refine ⟨h.1, ?_⟩
  have h2 := h.2
  show intF _ < _
  generalize ((b.drop s).take n).length = k at h2 hl
  rcases k with _ | _ | _ | _ | _ | _ | _ | _ | _ | k <;> first | (simp at h2; omega) | omega
theorem tkR_len8 (w : W) (n : Int) : ((tkR w n).1.length : Int) ≤ max n 0 := by
  unfold tkR
  split
  · simp; omega
  · split
    · simp; omega
    · simp; omega
theorem gTx_len (w : W) (m : Int) : (gTx w m).1.length ≤ 1024 := by
  unfold gTx
  split
  · simp
  · rename_i h
    by_cases q : (tkR w 2).2.2 = 0
    · have := tkR_len8 (tkR w 2).2 (intB (tkR w 2).1)
      have h2 : ¬ intB (tkR w 2).1 > min m 1024 := fun p => h ⟨q, p⟩
      omega
    · have e : tkR (tkR w 2).2 (intB (tkR w 2).1) = ([], (tkR w 2).2) := by rw [tkR, if_pos q]
      rw [e]; simp
theorem ask0_ok : ask0.ok := ⟨⟨by decide, by decide⟩, ⟨by decide, by decide⟩, ⟨by decide, by decide⟩, ⟨by decide, by decide⟩, by decide⟩
theorem bid0_ok : bid0.ok := ⟨ask0_ok, ⟨by decide, by decide⟩, ⟨by decide, by decide⟩, ⟨by decide, by decide⟩, ⟨by decide, by decide⟩, by decide⟩
theorem inv0_ok8 : inv0.ok := ⟨by decide, by decide⟩
theorem var0_ok8 : var0.ok := ⟨⟨by decide, by decide⟩, ⟨by decide, by decide⟩, ⟨by decide, by decide⟩, ⟨by decide, by decide⟩⟩
theorem gAsk_ok1 (w : W) : (gAsk w).1.ok := by
  unfold gAsk gAskV
  simp only
  split
  · exact ask0_ok
  · refine ⟨fB_u64 _ _ _ (by decide), fB_u64 _ _ _ (by decide), fB_u64 _ _ _ (by decide), fB_u64 _ _ _ (by decide), ?_⟩
    have := gTx_len (tkR (gNu (gNu (gNu (gNu w M40).2 M40).2 M40).2 M40).2 32).2 16
    show (gTx _ 16).1.length ≤ _
    omega
theorem inv_ok8 {v : InvV} (h : ¬ invBad v) : v.ok := by unfold invBad at h; exact ⟨by omega, by omega⟩
theorem gInv_ok1 (w : W) : (gInv w).1.ok := by
  unfold gInv gInvV
  simp only
  split
  · exact inv0_ok8
  · rename_i h
    exact inv_ok8 (fun q => h (.inr (.inr q)))
theorem gVar_ok1 (w : W) : (gVar w).1.ok := by
  unfold gVar gVarV
  simp only
  split
  · exact var0_ok8
  · exact ⟨fB_u64 _ _ _ (by decide), fB_u64 _ _ _ (by decide), fB_u64 _ _ _ (by decide), fB_u64 _ _ _ (by decide)⟩
theorem u0_ok : U64 0 := ⟨by decide, by decide⟩
theorem w_mRead1 (b : List UInt8) (a : Int × W) (ha : gNu (opR b) M40 = a) (hk : a.1 = 1) : Pur Try.prog 12 [.r (.bs b)] (.tuple [msgA (rdM b).1, .r (.int .i64 (rdM b).2)]) := by
  rw [rdM, ha]
  obtain ⟨c, hc⟩ : ∃ c, gAsk a.2 = c := ⟨_, rfl⟩
  have hG : rdK a = rdV ⟨a.1, c.1, bid0, inv0, var0, 0, 0, 0, 0, []⟩ c.2 := by rw [rdK, if_pos hk]; simp only [hc]
  rw [hG]
  have oc := gAsk_ok1 a.2
  rw [hc] at oc
  have cc : Spec Try.prog 51 [.ptr 0 0] (iH a.2.1 a.2.2) (fun u h' => u = askA c.1 ∧ h' = iH c.2.1 c.2.2) := by rw [← hc]; exact w_bGet a.2
  obtain ⟨w, hw⟩ : ∃ w, opR b = w := ⟨_, rfl⟩
  rw [hw] at ha
  have ca : Spec Try.prog 50 [.ptr 0 0, .r (.int .i64 1099511627776)] (iH w.1 w.2) (fun u h' => u = .r (.int .i64 a.1) ∧ h' = iH a.2.1 a.2.2) := by rw [← ha]; exact w_INum w 1099511627776
  have c0 := w_IOpen b
  rw [hw] at c0
  clear hG ha hw hc
  refine spec_of_go (N := 64) Try.func12 rfl (by decide) rfl rfl ?_
  refine zB ?_
  refine ar_new tOk rfl rfl rfl ?_ ?_
  · simp
  refine pA ?_
  refine zC ?_
  refine pA ?_
  refine ar_obj [] (c0) rfl rfl (handed_of rfl rfl (by decide) trivial) rfl rfl rfl rfl ?_
  rintro _ _ ⟨rfl, rfl⟩
  refine ⟨_, _, rfl, ?_⟩
  refine ar_ent (ent_same (h' := ⟨2, [(0, some (.mixed ((msgC (msg0)).map .r))), (1, some (.mixed [.r (.bs w.1), .r (.int .i64 w.2), .r (.bool true)]))], false⟩) rfl rfl ⟨rfl, rfl, trivial⟩) ?_
  refine pA ?_
  refine zC ?_
  refine pA ?_
  refine ar_obj [1] (ca) rfl rfl (handed_of rfl rfl (by decide) ⟨rfl, rfl, rfl, trivial⟩) rfl rfl rfl rfl ?_
  rintro _ _ ⟨rfl, rfl⟩
  refine ⟨_, _, rfl, ?_⟩
  refine ar_ent (ent_same (h' := ⟨2, [(0, some (.mixed ((msgC (msg0)).map .r))), (1, some (.mixed [.r (.bs a.2.1), .r (.int .i64 a.2.2), .r (.bool true)]))], false⟩) rfl rfl ⟨rfl, rfl, trivial⟩) ?_
  refine pA ?_
  refine ar_store (h' := ⟨2, [(0, some (.mixed ((msgC (⟨a.1, ask0, bid0, inv0, var0, 0, 0, 0, 0, []⟩)).map .r))), (0, some (.mixed ((msgC (msg0)).map .r))), (1, some (.mixed [.r (.bs a.2.1), .r (.int .i64 a.2.2), .r (.bool true)]))], false⟩) (c := True) tOk (by kernel_rfl) rfl rfl trivial ?_
  refine ar_nil ?_
  refine ag_ent (ent_weak (g' := [(2, .ptr 0 0), (4, .ptr 1 0)]) (h' := ⟨2, [(0, some (.mixed ((msgC (⟨a.1, ask0, bid0, inv0, var0, 0, 0, 0, 0, []⟩)).map .r))), (1, some (.mixed [.r (.bs a.2.1), .r (.int .i64 a.2.2), .r (.bool true)]))], false⟩) [0, 1] rfl rfl rfl rfl ?_ ?_ rfl) ?_
  · exact ⟨⟨rfl, rfl⟩, ⟨rfl, rfl⟩, trivial⟩
  · exact ⟨⟨rfl, rfl, rfl⟩, ⟨rfl, rfl, rfl⟩, trivial⟩
  refine ag_seq ?_
  refine zB ?_
  refine pA ?_
  refine pB ?_
  refine ar_nil ?_
  refine ag_block ?_
  refine zB ?_
  iterate 2 refine pA ?_
  refine ar_nil ?_
  refine ag_true rfl (decide_eq_true (show a.1 = 1 by omega)) ?_
  refine ag_reg ?_
  refine pA ?_
  refine ar_obj [1] (cc) rfl rfl (handed_of rfl rfl (by decide) ⟨rfl, rfl, rfl, trivial⟩) rfl rfl rfl rfl ?_
  rintro _ _ ⟨rfl, rfl⟩
  refine ⟨_, _, rfl, ?_⟩
  refine ar_ent (ent_same (h' := ⟨2, [(0, some (.mixed ((msgC (⟨a.1, ask0, bid0, inv0, var0, 0, 0, 0, 0, []⟩)).map .r))), (1, some (.mixed [.r (.bs c.2.1), .r (.int .i64 c.2.2), .r (.bool true)]))], false⟩) rfl rfl ⟨rfl, rfl, trivial⟩) ?_
  refine pA ?_
  refine ar_store (h' := ⟨2, [(0, some (.mixed ((msgC (⟨a.1, c.1, bid0, inv0, var0, 0, 0, 0, 0, []⟩)).map .r))), (0, some (.mixed ((msgC (⟨a.1, ask0, bid0, inv0, var0, 0, 0, 0, 0, []⟩)).map .r))), (1, some (.mixed [.r (.bs c.2.1), .r (.int .i64 c.2.2), .r (.bool true)]))], false⟩) (c := True) tOk (by kernel_rfl) rfl rfl trivial ?_
  refine ar_nil ?_
  refine ag_ent (ent_weak (g' := [(2, .ptr 0 0), (4, .ptr 1 0)]) (h' := ⟨2, [(0, some (.mixed ((msgC (⟨a.1, c.1, bid0, inv0, var0, 0, 0, 0, 0, []⟩)).map .r))), (1, some (.mixed [.r (.bs c.2.1), .r (.int .i64 c.2.2), .r (.bool true)]))], false⟩) [0, 1] rfl rfl rfl rfl ?_ ?_ rfl) ?_
  · exact ⟨⟨rfl, rfl⟩, ⟨rfl, rfl⟩, trivial⟩
  · exact ⟨⟨rfl, rfl, rfl⟩, ⟨rfl, rfl, rfl⟩, trivial⟩
  refine ag_inBlock ?_
  refine zB ?_
  refine pA ?_
  refine ar_qd rfl (qop_objR [1] (w_Err c.2.1 c.2.2) (by rintro _ _ ⟨rfl, rfl⟩; exact ⟨rfl, rfl⟩) rfl rfl (handed_of rfl rfl (by decide) ⟨rfl, rfl, rfl, trivial⟩) rfl rfl) rfl rfl rfl rfl ?_
  refine pA ?_
  refine zA ?_
  refine zB ?_
  iterate 3 refine pA ?_
  refine ar_guard (t := decide (c.2.2 = 0)) (fun ht => ?_) (fun ht => ?_)
  · refine ar_ent (ent_reg 49 (.r (.bool true)) (by show AVal.r (.bool _) = _; exact eqB ht)) ?_
    have h00 : c.2.2 = 0 := of_decide_eq_true ht
    refine pA ?_
    refine ar_qd rfl (qop_objR [1] (w_Left c.2.1 c.2.2) (by rintro _ _ ⟨rfl, rfl⟩; exact ⟨rfl, rfl⟩) rfl rfl (handed_of rfl rfl (by decide) ⟨rfl, rfl, rfl, trivial⟩) rfl rfl) rfl rfl rfl rfl ?_
    iterate 2 refine pA ?_
    refine ar_guard (t := decide ((c.2.1.length : Int) > 0)) (fun ht => ?_) (fun ht => ?_)
    · refine ar_ent (ent_reg 53 (.r (.bool true)) (by show AVal.r (.bool _) = _; exact eqB ht)) ?_
      have hk1 := of_decide_eq_true ht
      repeat (first | refine ar_skip rfl rfl rfl ?_ | refine ar_pure tOk rfl rfl rfl trivial ?_)
      refine ar_nil ?_
      refine ag_true rfl (by rfl) ?_
      refine ag_reg ?_
      refine pA ?_
      refine zA ?_
      refine zB ?_
      iterate 2 refine pA ?_
      refine ar_nil ?_
      refine ag_true rfl (by rfl) ?_
      refine ag_ent (ent_weak (g' := [(2, .ptr 0 0), (4, .ptr 1 0), (3, .r (.int .i64 16))]) (h' := ⟨2, [(0, some (.mixed ((msgC (⟨a.1, c.1, bid0, inv0, var0, 0, 0, 0, 0, []⟩)).map .r))), (1, some (.mixed [.r (.bs c.2.1), .r (.int .i64 c.2.2), .r (.bool true)]))], false⟩) [0, 1] rfl rfl rfl rfl ?_ ?_ rfl) ?_
      · exact ⟨⟨rfl, rfl⟩, ⟨rfl, rfl⟩, ⟨rfl, rfl⟩, trivial⟩
      · exact ⟨⟨rfl, rfl, rfl⟩, ⟨rfl, rfl, rfl⟩, trivial⟩
      refine ag_reg ?_
      refine ar_pure tOk rfl rfl rfl ?_ ?_
      · simp
      refine ar_ent (ent_reg 61 (msgA msg0) (by kernel_rfl)) ?_
      refine ar_store (h' := ⟨2, [(0, some (.mixed ((msgC (msg0)).map .r))), (0, some (.mixed ((msgC (⟨a.1, c.1, bid0, inv0, var0, 0, 0, 0, 0, []⟩)).map .r))), (1, some (.mixed [.r (.bs c.2.1), .r (.int .i64 c.2.2), .r (.bool true)]))], false⟩) (c := True) tOk (by kernel_rfl) rfl rfl trivial ?_
      refine zA ?_
      refine ag_ent (ent_weak (g' := [(2, .ptr 0 0), (4, .ptr 1 0), (3, .r (.int .i64 16))]) (h' := ⟨2, [(0, some (.mixed ((msgC (msg0)).map .r))), (1, some (.mixed [.r (.bs c.2.1), .r (.int .i64 c.2.2), .r (.bool true)]))], false⟩) [0, 1] rfl rfl rfl rfl ?_ ?_ rfl) ?_
      · exact ⟨⟨rfl, rfl⟩, ⟨rfl, rfl⟩, ⟨rfl, rfl⟩, trivial⟩
      · exact ⟨⟨rfl, rfl, rfl⟩, ⟨rfl, rfl, rfl⟩, trivial⟩
      refine ag_reg ?_
      refine pB ?_
      refine pA ?_
      refine ar_store (h' := ⟨2, [(0, some (.mixed ((msgC (msg0)).map .r))), (0, some (.mixed ((msgC (msg0)).map .r))), (1, some (.mixed [.r (.bs c.2.1), .r (.int .i64 c.2.2), .r (.bool true)]))], false⟩) (c := True) tOk (by kernel_rfl) rfl rfl trivial ?_
      refine pA ?_
      refine ar_nil ?_
      refine ag_ret tOk Try.func12 rfl rfl (by first | trivial | exact ⟨trivial, trivial⟩ | simp) ?_
      rw [rd_2 (by omega) (.inl (by omega))]
      rfl
    · refine ar_ent (ent_reg 53 (.r (.bool false)) (by show AVal.r (.bool _) = _; exact eqB ht)) ?_
      have hk1 := of_decide_eq_false ht
      refine pB ?_
      refine ar_pur (w_mCheck ⟨a.1, c.1, bid0, inv0, var0, 0, 0, 0, 0, []⟩) rfl rfl rfl rfl rfl rfl rfl ?_
      iterate 3 refine pA ?_
      refine ar_nil ?_
      refine ag_if rfl ?_ ?_
      · intro h58
        refine ag_reg ?_
        refine pA ?_
        refine zA ?_
        refine zB ?_
        iterate 2 refine pA ?_
        refine ar_nil ?_
        refine ag_true rfl (by rfl) ?_
        refine ag_ent (ent_weak (g' := [(2, .ptr 0 0), (4, .ptr 1 0), (3, .r (.int .i64 16))]) (h' := ⟨2, [(0, some (.mixed ((msgC (⟨a.1, c.1, bid0, inv0, var0, 0, 0, 0, 0, []⟩)).map .r))), (1, some (.mixed [.r (.bs c.2.1), .r (.int .i64 c.2.2), .r (.bool true)]))], false⟩) [0, 1] rfl rfl rfl rfl ?_ ?_ rfl) ?_
        · exact ⟨⟨rfl, rfl⟩, ⟨rfl, rfl⟩, ⟨rfl, rfl⟩, trivial⟩
        · exact ⟨⟨rfl, rfl, rfl⟩, ⟨rfl, rfl, rfl⟩, trivial⟩
        refine ag_reg ?_
        refine ar_pure tOk rfl rfl rfl ?_ ?_
        · simp
        refine ar_ent (ent_reg 61 (msgA msg0) (by kernel_rfl)) ?_
        refine ar_store (h' := ⟨2, [(0, some (.mixed ((msgC (msg0)).map .r))), (0, some (.mixed ((msgC (⟨a.1, c.1, bid0, inv0, var0, 0, 0, 0, 0, []⟩)).map .r))), (1, some (.mixed [.r (.bs c.2.1), .r (.int .i64 c.2.2), .r (.bool true)]))], false⟩) (c := True) tOk (by kernel_rfl) rfl rfl trivial ?_
        refine zA ?_
        refine ag_ent (ent_weak (g' := [(2, .ptr 0 0), (4, .ptr 1 0), (3, .r (.int .i64 16))]) (h' := ⟨2, [(0, some (.mixed ((msgC (msg0)).map .r))), (1, some (.mixed [.r (.bs c.2.1), .r (.int .i64 c.2.2), .r (.bool true)]))], false⟩) [0, 1] rfl rfl rfl rfl ?_ ?_ rfl) ?_
        · exact ⟨⟨rfl, rfl⟩, ⟨rfl, rfl⟩, ⟨rfl, rfl⟩, trivial⟩
        · exact ⟨⟨rfl, rfl, rfl⟩, ⟨rfl, rfl, rfl⟩, trivial⟩
        refine ag_reg ?_
        refine pB ?_
        refine pA ?_
        refine ar_store (h' := ⟨2, [(0, some (.mixed ((msgC (msg0)).map .r))), (0, some (.mixed ((msgC (msg0)).map .r))), (1, some (.mixed [.r (.bs c.2.1), .r (.int .i64 c.2.2), .r (.bool true)]))], false⟩) (c := True) tOk (by kernel_rfl) rfl rfl trivial ?_
        refine pA ?_
        refine ar_nil ?_
        refine ag_ret tOk Try.func12 rfl rfl (by first | trivial | exact ⟨trivial, trivial⟩ | simp) ?_
        rw [rd_2 (by omega) (.inr (by simpa using h58))]
        rfl
      · intro h58
        refine ag_skip ?_
        refine ag_seq ?_
        refine zB ?_
        iterate 2 refine pA ?_
        refine ar_nil ?_
        refine ag_false rfl (decide_eq_false (by omega)) ?_
        refine ag_skip ?_
        refine ag_seq ?_
        refine ag_ent (ent_weak (g' := [(2, .ptr 0 0), (4, .ptr 1 0), (3, .r (.int .i64 c.2.2))]) (h' := ⟨2, [(0, some (.mixed ((msgC (⟨a.1, c.1, bid0, inv0, var0, 0, 0, 0, 0, []⟩)).map .r))), (1, some (.mixed [.r (.bs c.2.1), .r (.int .i64 c.2.2), .r (.bool true)]))], false⟩) [0, 1] rfl rfl rfl rfl ?_ ?_ rfl) ?_
        · exact ⟨⟨rfl, rfl⟩, ⟨rfl, rfl⟩, ⟨rfl, rfl⟩, trivial⟩
        · exact ⟨⟨rfl, rfl, rfl⟩, ⟨rfl, rfl, rfl⟩, trivial⟩
        refine ag_reg ?_
        refine pB ?_
        refine pA ?_
        refine ar_store (h' := ⟨2, [(0, some (.mixed ((msgC (⟨a.1, c.1, bid0, inv0, var0, 0, 0, 0, 0, []⟩)).map .r))), (0, some (.mixed ((msgC (⟨a.1, c.1, bid0, inv0, var0, 0, 0, 0, 0, []⟩)).map .r))), (1, some (.mixed [.r (.bs c.2.1), .r (.int .i64 c.2.2), .r (.bool true)]))], false⟩) (c := True) tOk (by kernel_rfl) rfl rfl trivial ?_
        refine pA ?_
        refine ar_nil ?_
        refine ag_ret tOk Try.func12 rfl rfl (by first | trivial | exact ⟨trivial, trivial⟩ | simp) ?_
        rw [rd_3 (by omega) (by rintro (q | q); omega; exact q (by simpa using h58))]
        rw [h00]
        rfl
  · refine ar_ent (ent_reg 49 (.r (.bool false)) (by show AVal.r (.bool _) = _; exact eqB ht)) ?_
    have hk0 : c.2.2 ≠ 0 := of_decide_eq_false ht
    repeat (first | refine ar_skip rfl rfl rfl ?_ | refine ar_pure tOk rfl rfl rfl trivial ?_)
    refine ar_nil ?_
    refine ag_false rfl (by rfl) ?_
    refine ag_skip ?_
    refine ag_seq ?_
    refine zB ?_
    iterate 2 refine pA ?_
    refine ar_nil ?_
    refine ag_true rfl (decide_eq_true hk0) ?_
    refine ag_ent (ent_weak (g' := [(2, .ptr 0 0), (4, .ptr 1 0), (3, .r (.int .i64 c.2.2))]) (h' := ⟨2, [(0, some (.mixed ((msgC (⟨a.1, c.1, bid0, inv0, var0, 0, 0, 0, 0, []⟩)).map .r))), (1, some (.mixed [.r (.bs c.2.1), .r (.int .i64 c.2.2), .r (.bool true)]))], false⟩) [0, 1] rfl rfl rfl rfl ?_ ?_ rfl) ?_
    · exact ⟨⟨rfl, rfl⟩, ⟨rfl, rfl⟩, ⟨rfl, rfl⟩, trivial⟩
    · exact ⟨⟨rfl, rfl, rfl⟩, ⟨rfl, rfl, rfl⟩, trivial⟩
    refine ag_reg ?_
    refine ar_pure tOk rfl rfl rfl ?_ ?_
    · simp
    refine ar_ent (ent_reg 61 (msgA msg0) (by kernel_rfl)) ?_
    refine ar_store (h' := ⟨2, [(0, some (.mixed ((msgC (msg0)).map .r))), (0, some (.mixed ((msgC (⟨a.1, c.1, bid0, inv0, var0, 0, 0, 0, 0, []⟩)).map .r))), (1, some (.mixed [.r (.bs c.2.1), .r (.int .i64 c.2.2), .r (.bool true)]))], false⟩) (c := True) tOk (by kernel_rfl) rfl rfl trivial ?_
    refine zA ?_
    refine ag_ent (ent_weak (g' := [(2, .ptr 0 0), (4, .ptr 1 0), (3, .r (.int .i64 c.2.2))]) (h' := ⟨2, [(0, some (.mixed ((msgC (msg0)).map .r))), (1, some (.mixed [.r (.bs c.2.1), .r (.int .i64 c.2.2), .r (.bool true)]))], false⟩) [0, 1] rfl rfl rfl rfl ?_ ?_ rfl) ?_
    · exact ⟨⟨rfl, rfl⟩, ⟨rfl, rfl⟩, ⟨rfl, rfl⟩, trivial⟩
    · exact ⟨⟨rfl, rfl, rfl⟩, ⟨rfl, rfl, rfl⟩, trivial⟩
    refine ag_reg ?_
    refine pB ?_
    refine pA ?_
    refine ar_store (h' := ⟨2, [(0, some (.mixed ((msgC (msg0)).map .r))), (0, some (.mixed ((msgC (msg0)).map .r))), (1, some (.mixed [.r (.bs c.2.1), .r (.int .i64 c.2.2), .r (.bool true)]))], false⟩) (c := True) tOk (by kernel_rfl) rfl rfl trivial ?_
    refine pA ?_
    refine ar_nil ?_
    refine ag_ret tOk Try.func12 rfl rfl (by first | trivial | exact ⟨trivial, trivial⟩ | simp) ?_
    rw [rd_1 hk0]
    rfl
theorem w_mRead2 (b : List UInt8) (a : Int × W) (ha : gNu (opR b) M40 = a) (hk : a.1 = 2) : Pur Try.prog 12 [.r (.bs b)] (.tuple [msgA (rdM b).1, .r (.int .i64 (rdM b).2)]) := by
  rw [rdM, ha]
  obtain ⟨c, hc⟩ : ∃ c, gNu a.2 M40 = c := ⟨_, rfl⟩
  obtain ⟨d, hd⟩ : ∃ d, gAsk c.2 = d := ⟨_, rfl⟩
  obtain ⟨e, he⟩ : ∃ e, tkR d.2 32 = e := ⟨_, rfl⟩
  obtain ⟨f, hf⟩ : ∃ f, gNu e.2 M40 = f := ⟨_, rfl⟩
  obtain ⟨s, hs⟩ : ∃ s, gTx f.2 1024 = s := ⟨_, rfl⟩
  have hG : rdK a = rdV ⟨a.1, ask0, ⟨c.1, d.1, fB e.1 24 8, fB e.1 16 8, fB e.1 8 8, fB e.1 0 8, f.1, s.1⟩, inv0, var0, 0, 0, 0, 0, []⟩ s.2 := by rw [rdK, if_neg (by omega), if_pos hk]; simp only [hc, hd, he, hf, hs]
  rw [hG]
  have od := gAsk_ok1 c.2
  rw [hd] at od
  have os := gTx_len f.2 1024
  rw [hs] at os
  have cc : Spec Try.prog 50 [.ptr 0 0, .r (.int .i64 1099511627776)] (iH a.2.1 a.2.2) (fun u h' => u = .r (.int .i64 c.1) ∧ h' = iH c.2.1 c.2.2) := by rw [← hc]; exact w_INum a.2 1099511627776
  have cd : Spec Try.prog 51 [.ptr 0 0] (iH c.2.1 c.2.2) (fun u h' => u = askA d.1 ∧ h' = iH d.2.1 d.2.2) := by rw [← hd]; exact w_bGet c.2
  have ce : Spec Try.prog 52 [.ptr 0 0] (iH d.2.1 d.2.2) (fun u h' => u = wd e.1 ∧ h' = iH e.2.1 e.2.2) := by rw [← he]; exact w_IWide d.2
  have cf : Spec Try.prog 50 [.ptr 0 0, .r (.int .i64 1099511627776)] (iH e.2.1 e.2.2) (fun u h' => u = .r (.int .i64 f.1) ∧ h' = iH f.2.1 f.2.2) := by rw [← hf]; exact w_INum e.2 1099511627776
  have cs : Spec Try.prog 53 [.ptr 0 0, .r (.int .i64 1024)] (iH f.2.1 f.2.2) (fun u h' => u = .r (.str s.1) ∧ h' = iH s.2.1 s.2.2) := by rw [← hs]; exact w_IText f.2 1024
  obtain ⟨w, hw⟩ : ∃ w, opR b = w := ⟨_, rfl⟩
  rw [hw] at ha
  have ca : Spec Try.prog 50 [.ptr 0 0, .r (.int .i64 1099511627776)] (iH w.1 w.2) (fun u h' => u = .r (.int .i64 a.1) ∧ h' = iH a.2.1 a.2.2) := by rw [← ha]; exact w_INum w 1099511627776
  have c0 := w_IOpen b
  rw [hw] at c0
  clear hG ha hw hc hd he hf hs
  refine spec_of_go (N := 64) Try.func12 rfl (by decide) rfl rfl ?_
  refine zB ?_
  refine ar_new tOk rfl rfl rfl ?_ ?_
  · simp
  refine pA ?_
  refine zC ?_
  refine pA ?_
  refine ar_obj [] (c0) rfl rfl (handed_of rfl rfl (by decide) trivial) rfl rfl rfl rfl ?_
  rintro _ _ ⟨rfl, rfl⟩
  refine ⟨_, _, rfl, ?_⟩
  refine ar_ent (ent_same (h' := ⟨2, [(0, some (.mixed ((msgC (msg0)).map .r))), (1, some (.mixed [.r (.bs w.1), .r (.int .i64 w.2), .r (.bool true)]))], false⟩) rfl rfl ⟨rfl, rfl, trivial⟩) ?_
  refine pA ?_
  refine zC ?_
  refine pA ?_
  refine ar_obj [1] (ca) rfl rfl (handed_of rfl rfl (by decide) ⟨rfl, rfl, rfl, trivial⟩) rfl rfl rfl rfl ?_
  rintro _ _ ⟨rfl, rfl⟩
  refine ⟨_, _, rfl, ?_⟩
  refine ar_ent (ent_same (h' := ⟨2, [(0, some (.mixed ((msgC (msg0)).map .r))), (1, some (.mixed [.r (.bs a.2.1), .r (.int .i64 a.2.2), .r (.bool true)]))], false⟩) rfl rfl ⟨rfl, rfl, trivial⟩) ?_
  refine pA ?_
  refine ar_store (h' := ⟨2, [(0, some (.mixed ((msgC (⟨a.1, ask0, bid0, inv0, var0, 0, 0, 0, 0, []⟩)).map .r))), (0, some (.mixed ((msgC (msg0)).map .r))), (1, some (.mixed [.r (.bs a.2.1), .r (.int .i64 a.2.2), .r (.bool true)]))], false⟩) (c := True) tOk (by kernel_rfl) rfl rfl trivial ?_
  refine ar_nil ?_
  refine ag_ent (ent_weak (g' := [(2, .ptr 0 0), (4, .ptr 1 0)]) (h' := ⟨2, [(0, some (.mixed ((msgC (⟨a.1, ask0, bid0, inv0, var0, 0, 0, 0, 0, []⟩)).map .r))), (1, some (.mixed [.r (.bs a.2.1), .r (.int .i64 a.2.2), .r (.bool true)]))], false⟩) [0, 1] rfl rfl rfl rfl ?_ ?_ rfl) ?_
  · exact ⟨⟨rfl, rfl⟩, ⟨rfl, rfl⟩, trivial⟩
  · exact ⟨⟨rfl, rfl, rfl⟩, ⟨rfl, rfl, rfl⟩, trivial⟩
  refine ag_seq ?_
  refine zB ?_
  refine pA ?_
  refine pB ?_
  refine ar_nil ?_
  refine ag_block ?_
  refine zB ?_
  iterate 2 refine pA ?_
  refine ar_nil ?_
  refine ag_false rfl (decide_eq_false (show ¬ a.1 = 1 by omega)) ?_
  refine zB ?_
  iterate 2 refine pA ?_
  refine ar_nil ?_
  refine ag_true rfl (decide_eq_true (show a.1 = 2 by omega)) ?_
  refine ag_reg ?_
  refine pA ?_
  refine ar_obj [1] (cc) rfl rfl (handed_of rfl rfl (by decide) ⟨rfl, rfl, rfl, trivial⟩) rfl rfl rfl rfl ?_
  rintro _ _ ⟨rfl, rfl⟩
  refine ⟨_, _, rfl, ?_⟩
  refine ar_ent (ent_same (h' := ⟨2, [(0, some (.mixed ((msgC (⟨a.1, ask0, bid0, inv0, var0, 0, 0, 0, 0, []⟩)).map .r))), (1, some (.mixed [.r (.bs c.2.1), .r (.int .i64 c.2.2), .r (.bool true)]))], false⟩) rfl rfl ⟨rfl, rfl, trivial⟩) ?_
  refine pA ?_
  refine ar_obj [1] (cd) rfl rfl (handed_of rfl rfl (by decide) ⟨rfl, rfl, rfl, trivial⟩) rfl rfl rfl rfl ?_
  rintro _ _ ⟨rfl, rfl⟩
  refine ⟨_, _, rfl, ?_⟩
  refine ar_ent (ent_same (h' := ⟨2, [(0, some (.mixed ((msgC (⟨a.1, ask0, bid0, inv0, var0, 0, 0, 0, 0, []⟩)).map .r))), (1, some (.mixed [.r (.bs d.2.1), .r (.int .i64 d.2.2), .r (.bool true)]))], false⟩) rfl rfl ⟨rfl, rfl, trivial⟩) ?_
  refine pA ?_
  refine ar_obj [1] (ce) rfl rfl (handed_of rfl rfl (by decide) ⟨rfl, rfl, rfl, trivial⟩) rfl rfl rfl rfl ?_
  rintro _ _ ⟨rfl, rfl⟩
  refine ⟨_, _, rfl, ?_⟩
  refine ar_ent (ent_same (h' := ⟨2, [(0, some (.mixed ((msgC (⟨a.1, ask0, bid0, inv0, var0, 0, 0, 0, 0, []⟩)).map .r))), (1, some (.mixed [.r (.bs e.2.1), .r (.int .i64 e.2.2), .r (.bool true)]))], false⟩) rfl rfl ⟨rfl, rfl, trivial⟩) ?_
  refine pA ?_
  refine ar_obj [1] (cf) rfl rfl (handed_of rfl rfl (by decide) ⟨rfl, rfl, rfl, trivial⟩) rfl rfl rfl rfl ?_
  rintro _ _ ⟨rfl, rfl⟩
  refine ⟨_, _, rfl, ?_⟩
  refine ar_ent (ent_same (h' := ⟨2, [(0, some (.mixed ((msgC (⟨a.1, ask0, bid0, inv0, var0, 0, 0, 0, 0, []⟩)).map .r))), (1, some (.mixed [.r (.bs f.2.1), .r (.int .i64 f.2.2), .r (.bool true)]))], false⟩) rfl rfl ⟨rfl, rfl, trivial⟩) ?_
  refine pA ?_
  refine ar_obj [1] (cs) rfl rfl (handed_of rfl rfl (by decide) ⟨rfl, rfl, rfl, trivial⟩) rfl rfl rfl rfl ?_
  rintro _ _ ⟨rfl, rfl⟩
  refine ⟨_, _, rfl, ?_⟩
  refine ar_ent (ent_same (h' := ⟨2, [(0, some (.mixed ((msgC (⟨a.1, ask0, bid0, inv0, var0, 0, 0, 0, 0, []⟩)).map .r))), (1, some (.mixed [.r (.bs s.2.1), .r (.int .i64 s.2.2), .r (.bool true)]))], false⟩) rfl rfl ⟨rfl, rfl, trivial⟩) ?_
  refine ar_pure (d := 29) (v := bidA ⟨c.1, d.1, fB e.1 24 8, fB e.1 16 8, fB e.1 8 8, fB e.1 0 8, f.1, s.1⟩) (c := bidC bid0 ≠ []) tOk (by kernel_rfl) rfl rfl (by simp [bidC]) ?_
  refine pA ?_
  refine ar_store (h' := ⟨2, [(0, some (.mixed ((msgC (⟨a.1, ask0, ⟨c.1, d.1, fB e.1 24 8, fB e.1 16 8, fB e.1 8 8, fB e.1 0 8, f.1, s.1⟩, inv0, var0, 0, 0, 0, 0, []⟩)).map .r))), (0, some (.mixed ((msgC (⟨a.1, ask0, bid0, inv0, var0, 0, 0, 0, 0, []⟩)).map .r))), (1, some (.mixed [.r (.bs s.2.1), .r (.int .i64 s.2.2), .r (.bool true)]))], false⟩) (c := True) tOk (by kernel_rfl) rfl rfl trivial ?_
  refine ar_nil ?_
  refine ag_ent (ent_weak (g' := [(2, .ptr 0 0), (4, .ptr 1 0)]) (h' := ⟨2, [(0, some (.mixed ((msgC (⟨a.1, ask0, ⟨c.1, d.1, fB e.1 24 8, fB e.1 16 8, fB e.1 8 8, fB e.1 0 8, f.1, s.1⟩, inv0, var0, 0, 0, 0, 0, []⟩)).map .r))), (1, some (.mixed [.r (.bs s.2.1), .r (.int .i64 s.2.2), .r (.bool true)]))], false⟩) [0, 1] rfl rfl rfl rfl ?_ ?_ rfl) ?_
  · exact ⟨⟨rfl, rfl⟩, ⟨rfl, rfl⟩, trivial⟩
  · exact ⟨⟨rfl, rfl, rfl⟩, ⟨rfl, rfl, rfl⟩, trivial⟩
  refine ag_inBlock ?_
  refine zB ?_
  refine pA ?_
  refine ar_qd rfl (qop_objR [1] (w_Err s.2.1 s.2.2) (by rintro _ _ ⟨rfl, rfl⟩; exact ⟨rfl, rfl⟩) rfl rfl (handed_of rfl rfl (by decide) ⟨rfl, rfl, rfl, trivial⟩) rfl rfl) rfl rfl rfl rfl ?_
  refine pA ?_
  refine zA ?_
  refine zB ?_
  iterate 3 refine pA ?_
  refine ar_guard (t := decide (s.2.2 = 0)) (fun ht => ?_) (fun ht => ?_)
  · refine ar_ent (ent_reg 49 (.r (.bool true)) (by show AVal.r (.bool _) = _; exact eqB ht)) ?_
    have h00 : s.2.2 = 0 := of_decide_eq_true ht
    refine pA ?_
    refine ar_qd rfl (qop_objR [1] (w_Left s.2.1 s.2.2) (by rintro _ _ ⟨rfl, rfl⟩; exact ⟨rfl, rfl⟩) rfl rfl (handed_of rfl rfl (by decide) ⟨rfl, rfl, rfl, trivial⟩) rfl rfl) rfl rfl rfl rfl ?_
    iterate 2 refine pA ?_
    refine ar_guard (t := decide ((s.2.1.length : Int) > 0)) (fun ht => ?_) (fun ht => ?_)
    · refine ar_ent (ent_reg 53 (.r (.bool true)) (by show AVal.r (.bool _) = _; exact eqB ht)) ?_
      have hk1 := of_decide_eq_true ht
      repeat (first | refine ar_skip rfl rfl rfl ?_ | refine ar_pure tOk rfl rfl rfl trivial ?_)
      refine ar_nil ?_
      refine ag_true rfl (by rfl) ?_
      refine ag_reg ?_
      refine pA ?_
      refine zA ?_
      refine zB ?_
      iterate 2 refine pA ?_
      refine ar_nil ?_
      refine ag_true rfl (by rfl) ?_
      refine ag_ent (ent_weak (g' := [(2, .ptr 0 0), (4, .ptr 1 0), (3, .r (.int .i64 16))]) (h' := ⟨2, [(0, some (.mixed ((msgC (⟨a.1, ask0, ⟨c.1, d.1, fB e.1 24 8, fB e.1 16 8, fB e.1 8 8, fB e.1 0 8, f.1, s.1⟩, inv0, var0, 0, 0, 0, 0, []⟩)).map .r))), (1, some (.mixed [.r (.bs s.2.1), .r (.int .i64 s.2.2), .r (.bool true)]))], false⟩) [0, 1] rfl rfl rfl rfl ?_ ?_ rfl) ?_
      · exact ⟨⟨rfl, rfl⟩, ⟨rfl, rfl⟩, ⟨rfl, rfl⟩, trivial⟩
      · exact ⟨⟨rfl, rfl, rfl⟩, ⟨rfl, rfl, rfl⟩, trivial⟩
      refine ag_reg ?_
      refine ar_pure tOk rfl rfl rfl ?_ ?_
      · simp
      refine ar_ent (ent_reg 61 (msgA msg0) (by kernel_rfl)) ?_
      refine ar_store (h' := ⟨2, [(0, some (.mixed ((msgC (msg0)).map .r))), (0, some (.mixed ((msgC (⟨a.1, ask0, ⟨c.1, d.1, fB e.1 24 8, fB e.1 16 8, fB e.1 8 8, fB e.1 0 8, f.1, s.1⟩, inv0, var0, 0, 0, 0, 0, []⟩)).map .r))), (1, some (.mixed [.r (.bs s.2.1), .r (.int .i64 s.2.2), .r (.bool true)]))], false⟩) (c := True) tOk (by kernel_rfl) rfl rfl trivial ?_
      refine zA ?_
      refine ag_ent (ent_weak (g' := [(2, .ptr 0 0), (4, .ptr 1 0), (3, .r (.int .i64 16))]) (h' := ⟨2, [(0, some (.mixed ((msgC (msg0)).map .r))), (1, some (.mixed [.r (.bs s.2.1), .r (.int .i64 s.2.2), .r (.bool true)]))], false⟩) [0, 1] rfl rfl rfl rfl ?_ ?_ rfl) ?_
      · exact ⟨⟨rfl, rfl⟩, ⟨rfl, rfl⟩, ⟨rfl, rfl⟩, trivial⟩
      · exact ⟨⟨rfl, rfl, rfl⟩, ⟨rfl, rfl, rfl⟩, trivial⟩
      refine ag_reg ?_
      refine pB ?_
      refine pA ?_
      refine ar_store (h' := ⟨2, [(0, some (.mixed ((msgC (msg0)).map .r))), (0, some (.mixed ((msgC (msg0)).map .r))), (1, some (.mixed [.r (.bs s.2.1), .r (.int .i64 s.2.2), .r (.bool true)]))], false⟩) (c := True) tOk (by kernel_rfl) rfl rfl trivial ?_
      refine pA ?_
      refine ar_nil ?_
      refine ag_ret tOk Try.func12 rfl rfl (by first | trivial | exact ⟨trivial, trivial⟩ | simp) ?_
      rw [rd_2 (by omega) (.inl (by omega))]
      rfl
    · refine ar_ent (ent_reg 53 (.r (.bool false)) (by show AVal.r (.bool _) = _; exact eqB ht)) ?_
      have hk1 := of_decide_eq_false ht
      refine pB ?_
      refine ar_pur (w_mCheck ⟨a.1, ask0, ⟨c.1, d.1, fB e.1 24 8, fB e.1 16 8, fB e.1 8 8, fB e.1 0 8, f.1, s.1⟩, inv0, var0, 0, 0, 0, 0, []⟩) rfl rfl rfl rfl rfl rfl rfl ?_
      iterate 3 refine pA ?_
      refine ar_nil ?_
      refine ag_if rfl ?_ ?_
      · intro h58
        refine ag_reg ?_
        refine pA ?_
        refine zA ?_
        refine zB ?_
        iterate 2 refine pA ?_
        refine ar_nil ?_
        refine ag_true rfl (by rfl) ?_
        refine ag_ent (ent_weak (g' := [(2, .ptr 0 0), (4, .ptr 1 0), (3, .r (.int .i64 16))]) (h' := ⟨2, [(0, some (.mixed ((msgC (⟨a.1, ask0, ⟨c.1, d.1, fB e.1 24 8, fB e.1 16 8, fB e.1 8 8, fB e.1 0 8, f.1, s.1⟩, inv0, var0, 0, 0, 0, 0, []⟩)).map .r))), (1, some (.mixed [.r (.bs s.2.1), .r (.int .i64 s.2.2), .r (.bool true)]))], false⟩) [0, 1] rfl rfl rfl rfl ?_ ?_ rfl) ?_
        · exact ⟨⟨rfl, rfl⟩, ⟨rfl, rfl⟩, ⟨rfl, rfl⟩, trivial⟩
        · exact ⟨⟨rfl, rfl, rfl⟩, ⟨rfl, rfl, rfl⟩, trivial⟩
        refine ag_reg ?_
        refine ar_pure tOk rfl rfl rfl ?_ ?_
        · simp
        refine ar_ent (ent_reg 61 (msgA msg0) (by kernel_rfl)) ?_
        refine ar_store (h' := ⟨2, [(0, some (.mixed ((msgC (msg0)).map .r))), (0, some (.mixed ((msgC (⟨a.1, ask0, ⟨c.1, d.1, fB e.1 24 8, fB e.1 16 8, fB e.1 8 8, fB e.1 0 8, f.1, s.1⟩, inv0, var0, 0, 0, 0, 0, []⟩)).map .r))), (1, some (.mixed [.r (.bs s.2.1), .r (.int .i64 s.2.2), .r (.bool true)]))], false⟩) (c := True) tOk (by kernel_rfl) rfl rfl trivial ?_
        refine zA ?_
        refine ag_ent (ent_weak (g' := [(2, .ptr 0 0), (4, .ptr 1 0), (3, .r (.int .i64 16))]) (h' := ⟨2, [(0, some (.mixed ((msgC (msg0)).map .r))), (1, some (.mixed [.r (.bs s.2.1), .r (.int .i64 s.2.2), .r (.bool true)]))], false⟩) [0, 1] rfl rfl rfl rfl ?_ ?_ rfl) ?_
        · exact ⟨⟨rfl, rfl⟩, ⟨rfl, rfl⟩, ⟨rfl, rfl⟩, trivial⟩
        · exact ⟨⟨rfl, rfl, rfl⟩, ⟨rfl, rfl, rfl⟩, trivial⟩
        refine ag_reg ?_
        refine pB ?_
        refine pA ?_
        refine ar_store (h' := ⟨2, [(0, some (.mixed ((msgC (msg0)).map .r))), (0, some (.mixed ((msgC (msg0)).map .r))), (1, some (.mixed [.r (.bs s.2.1), .r (.int .i64 s.2.2), .r (.bool true)]))], false⟩) (c := True) tOk (by kernel_rfl) rfl rfl trivial ?_
        refine pA ?_
        refine ar_nil ?_
        refine ag_ret tOk Try.func12 rfl rfl (by first | trivial | exact ⟨trivial, trivial⟩ | simp) ?_
        rw [rd_2 (by omega) (.inr (by simpa using h58))]
        rfl
      · intro h58
        refine ag_skip ?_
        refine ag_seq ?_
        refine zB ?_
        iterate 2 refine pA ?_
        refine ar_nil ?_
        refine ag_false rfl (decide_eq_false (by omega)) ?_
        refine ag_skip ?_
        refine ag_seq ?_
        refine ag_ent (ent_weak (g' := [(2, .ptr 0 0), (4, .ptr 1 0), (3, .r (.int .i64 s.2.2))]) (h' := ⟨2, [(0, some (.mixed ((msgC (⟨a.1, ask0, ⟨c.1, d.1, fB e.1 24 8, fB e.1 16 8, fB e.1 8 8, fB e.1 0 8, f.1, s.1⟩, inv0, var0, 0, 0, 0, 0, []⟩)).map .r))), (1, some (.mixed [.r (.bs s.2.1), .r (.int .i64 s.2.2), .r (.bool true)]))], false⟩) [0, 1] rfl rfl rfl rfl ?_ ?_ rfl) ?_
        · exact ⟨⟨rfl, rfl⟩, ⟨rfl, rfl⟩, ⟨rfl, rfl⟩, trivial⟩
        · exact ⟨⟨rfl, rfl, rfl⟩, ⟨rfl, rfl, rfl⟩, trivial⟩
        refine ag_reg ?_
        refine pB ?_
        refine pA ?_
        refine ar_store (h' := ⟨2, [(0, some (.mixed ((msgC (⟨a.1, ask0, ⟨c.1, d.1, fB e.1 24 8, fB e.1 16 8, fB e.1 8 8, fB e.1 0 8, f.1, s.1⟩, inv0, var0, 0, 0, 0, 0, []⟩)).map .r))), (0, some (.mixed ((msgC (⟨a.1, ask0, ⟨c.1, d.1, fB e.1 24 8, fB e.1 16 8, fB e.1 8 8, fB e.1 0 8, f.1, s.1⟩, inv0, var0, 0, 0, 0, 0, []⟩)).map .r))), (1, some (.mixed [.r (.bs s.2.1), .r (.int .i64 s.2.2), .r (.bool true)]))], false⟩) (c := True) tOk (by kernel_rfl) rfl rfl trivial ?_
        refine pA ?_
        refine ar_nil ?_
        refine ag_ret tOk Try.func12 rfl rfl (by first | trivial | exact ⟨trivial, trivial⟩ | simp) ?_
        rw [rd_3 (by omega) (by rintro (q | q); omega; exact q (by simpa using h58))]
        rw [h00]
        rfl
  · refine ar_ent (ent_reg 49 (.r (.bool false)) (by show AVal.r (.bool _) = _; exact eqB ht)) ?_
    have hk0 : s.2.2 ≠ 0 := of_decide_eq_false ht
    repeat (first | refine ar_skip rfl rfl rfl ?_ | refine ar_pure tOk rfl rfl rfl trivial ?_)
    refine ar_nil ?_
    refine ag_false rfl (by rfl) ?_
    refine ag_skip ?_
    refine ag_seq ?_
    refine zB ?_
    iterate 2 refine pA ?_
    refine ar_nil ?_
    refine ag_true rfl (decide_eq_true hk0) ?_
    refine ag_ent (ent_weak (g' := [(2, .ptr 0 0), (4, .ptr 1 0), (3, .r (.int .i64 s.2.2))]) (h' := ⟨2, [(0, some (.mixed ((msgC (⟨a.1, ask0, ⟨c.1, d.1, fB e.1 24 8, fB e.1 16 8, fB e.1 8 8, fB e.1 0 8, f.1, s.1⟩, inv0, var0, 0, 0, 0, 0, []⟩)).map .r))), (1, some (.mixed [.r (.bs s.2.1), .r (.int .i64 s.2.2), .r (.bool true)]))], false⟩) [0, 1] rfl rfl rfl rfl ?_ ?_ rfl) ?_
    · exact ⟨⟨rfl, rfl⟩, ⟨rfl, rfl⟩, ⟨rfl, rfl⟩, trivial⟩
    · exact ⟨⟨rfl, rfl, rfl⟩, ⟨rfl, rfl, rfl⟩, trivial⟩
    refine ag_reg ?_
    refine ar_pure tOk rfl rfl rfl ?_ ?_
    · simp
    refine ar_ent (ent_reg 61 (msgA msg0) (by kernel_rfl)) ?_
    refine ar_store (h' := ⟨2, [(0, some (.mixed ((msgC (msg0)).map .r))), (0, some (.mixed ((msgC (⟨a.1, ask0, ⟨c.1, d.1, fB e.1 24 8, fB e.1 16 8, fB e.1 8 8, fB e.1 0 8, f.1, s.1⟩, inv0, var0, 0, 0, 0, 0, []⟩)).map .r))), (1, some (.mixed [.r (.bs s.2.1), .r (.int .i64 s.2.2), .r (.bool true)]))], false⟩) (c := True) tOk (by kernel_rfl) rfl rfl trivial ?_
    refine zA ?_
    refine ag_ent (ent_weak (g' := [(2, .ptr 0 0), (4, .ptr 1 0), (3, .r (.int .i64 s.2.2))]) (h' := ⟨2, [(0, some (.mixed ((msgC (msg0)).map .r))), (1, some (.mixed [.r (.bs s.2.1), .r (.int .i64 s.2.2), .r (.bool true)]))], false⟩) [0, 1] rfl rfl rfl rfl ?_ ?_ rfl) ?_
    · exact ⟨⟨rfl, rfl⟩, ⟨rfl, rfl⟩, ⟨rfl, rfl⟩, trivial⟩
    · exact ⟨⟨rfl, rfl, rfl⟩, ⟨rfl, rfl, rfl⟩, trivial⟩
    refine ag_reg ?_
    refine pB ?_
    refine pA ?_
    refine ar_store (h' := ⟨2, [(0, some (.mixed ((msgC (msg0)).map .r))), (0, some (.mixed ((msgC (msg0)).map .r))), (1, some (.mixed [.r (.bs s.2.1), .r (.int .i64 s.2.2), .r (.bool true)]))], false⟩) (c := True) tOk (by kernel_rfl) rfl rfl trivial ?_
    refine pA ?_
    refine ar_nil ?_
    refine ag_ret tOk Try.func12 rfl rfl (by first | trivial | exact ⟨trivial, trivial⟩ | simp) ?_
    rw [rd_1 hk0]
    rfl
theorem w_mRead3 (b : List UInt8) (a : Int × W) (ha : gNu (opR b) M40 = a) (hk : a.1 = 3) : Pur Try.prog 12 [.r (.bs b)] (.tuple [msgA (rdM b).1, .r (.int .i64 (rdM b).2)]) := by
  rw [rdM, ha]
  obtain ⟨i, hi⟩ : ∃ i, gInv a.2 = i := ⟨_, rfl⟩
  obtain ⟨j, hj⟩ : ∃ j, gVar i.2 = j := ⟨_, rfl⟩
  obtain ⟨g, hg⟩ : ∃ g, tkR j.2 32 = g := ⟨_, rfl⟩
  obtain ⟨s, hs⟩ : ∃ s, gTx g.2 1024 = s := ⟨_, rfl⟩
  have hG : rdK a = rdV ⟨a.1, ask0, bid0, i.1, j.1, fB g.1 24 8, fB g.1 16 8, fB g.1 8 8, fB g.1 0 8, s.1⟩ s.2 := by rw [rdK, if_neg (by omega), if_neg (by omega), if_pos hk]; simp only [hi, hj, hg, hs]
  rw [hG]
  have oi := gInv_ok1 a.2
  rw [hi] at oi
  have oj := gVar_ok1 i.2
  rw [hj] at oj
  have os := gTx_len g.2 1024
  rw [hs] at os
  have ci : Spec Try.prog 54 [.ptr 0 0] (iH a.2.1 a.2.2) (fun u h' => u = invA i.1 ∧ h' = iH i.2.1 i.2.2) := by rw [← hi]; exact w_dGet a.2
  have cj : Spec Try.prog 55 [.ptr 0 0] (iH i.2.1 i.2.2) (fun u h' => u = varA j.1 ∧ h' = iH j.2.1 j.2.2) := by rw [← hj]; exact w_dGetVar i.2
  have cg : Spec Try.prog 52 [.ptr 0 0] (iH j.2.1 j.2.2) (fun u h' => u = wd g.1 ∧ h' = iH g.2.1 g.2.2) := by rw [← hg]; exact w_IWide j.2
  have cs : Spec Try.prog 53 [.ptr 0 0, .r (.int .i64 1024)] (iH g.2.1 g.2.2) (fun u h' => u = .r (.str s.1) ∧ h' = iH s.2.1 s.2.2) := by rw [← hs]; exact w_IText g.2 1024
  obtain ⟨w, hw⟩ : ∃ w, opR b = w := ⟨_, rfl⟩
  rw [hw] at ha
  have ca : Spec Try.prog 50 [.ptr 0 0, .r (.int .i64 1099511627776)] (iH w.1 w.2) (fun u h' => u = .r (.int .i64 a.1) ∧ h' = iH a.2.1 a.2.2) := by rw [← ha]; exact w_INum w 1099511627776
  have c0 := w_IOpen b
  rw [hw] at c0
  clear hG ha hw hi hj hg hs
  refine spec_of_go (N := 64) Try.func12 rfl (by decide) rfl rfl ?_
  refine zB ?_
  refine ar_new tOk rfl rfl rfl ?_ ?_
  · simp
  refine pA ?_
  refine zC ?_
  refine pA ?_
  refine ar_obj [] (c0) rfl rfl (handed_of rfl rfl (by decide) trivial) rfl rfl rfl rfl ?_
  rintro _ _ ⟨rfl, rfl⟩
  refine ⟨_, _, rfl, ?_⟩
  refine ar_ent (ent_same (h' := ⟨2, [(0, some (.mixed ((msgC (msg0)).map .r))), (1, some (.mixed [.r (.bs w.1), .r (.int .i64 w.2), .r (.bool true)]))], false⟩) rfl rfl ⟨rfl, rfl, trivial⟩) ?_
  refine pA ?_
  refine zC ?_
  refine pA ?_
  refine ar_obj [1] (ca) rfl rfl (handed_of rfl rfl (by decide) ⟨rfl, rfl, rfl, trivial⟩) rfl rfl rfl rfl ?_
  rintro _ _ ⟨rfl, rfl⟩
  refine ⟨_, _, rfl, ?_⟩
  refine ar_ent (ent_same (h' := ⟨2, [(0, some (.mixed ((msgC (msg0)).map .r))), (1, some (.mixed [.r (.bs a.2.1), .r (.int .i64 a.2.2), .r (.bool true)]))], false⟩) rfl rfl ⟨rfl, rfl, trivial⟩) ?_
  refine pA ?_
  refine ar_store (h' := ⟨2, [(0, some (.mixed ((msgC (⟨a.1, ask0, bid0, inv0, var0, 0, 0, 0, 0, []⟩)).map .r))), (0, some (.mixed ((msgC (msg0)).map .r))), (1, some (.mixed [.r (.bs a.2.1), .r (.int .i64 a.2.2), .r (.bool true)]))], false⟩) (c := True) tOk (by kernel_rfl) rfl rfl trivial ?_
  refine ar_nil ?_
  refine ag_ent (ent_weak (g' := [(2, .ptr 0 0), (4, .ptr 1 0)]) (h' := ⟨2, [(0, some (.mixed ((msgC (⟨a.1, ask0, bid0, inv0, var0, 0, 0, 0, 0, []⟩)).map .r))), (1, some (.mixed [.r (.bs a.2.1), .r (.int .i64 a.2.2), .r (.bool true)]))], false⟩) [0, 1] rfl rfl rfl rfl ?_ ?_ rfl) ?_
  · exact ⟨⟨rfl, rfl⟩, ⟨rfl, rfl⟩, trivial⟩
  · exact ⟨⟨rfl, rfl, rfl⟩, ⟨rfl, rfl, rfl⟩, trivial⟩
  refine ag_seq ?_
  refine zB ?_
  refine pA ?_
  refine pB ?_
  refine ar_nil ?_
  refine ag_block ?_
  refine zB ?_
  iterate 2 refine pA ?_
  refine ar_nil ?_
  refine ag_false rfl (decide_eq_false (show ¬ a.1 = 1 by omega)) ?_
  refine zB ?_
  iterate 2 refine pA ?_
  refine ar_nil ?_
  refine ag_false rfl (decide_eq_false (show ¬ a.1 = 2 by omega)) ?_
  refine zB ?_
  iterate 2 refine pA ?_
  refine ar_nil ?_
  refine ag_true rfl (decide_eq_true (show a.1 = 3 by omega)) ?_
  refine zB ?_
  refine pA ?_
  refine ar_obj [1] (ci) rfl rfl (handed_of rfl rfl (by decide) ⟨rfl, rfl, rfl, trivial⟩) rfl rfl rfl rfl ?_
  rintro _ _ ⟨rfl, rfl⟩
  refine ⟨_, _, rfl, ?_⟩
  refine ar_ent (ent_same (h' := ⟨2, [(0, some (.mixed ((msgC (⟨a.1, ask0, bid0, inv0, var0, 0, 0, 0, 0, []⟩)).map .r))), (1, some (.mixed [.r (.bs i.2.1), .r (.int .i64 i.2.2), .r (.bool true)]))], false⟩) rfl rfl ⟨rfl, rfl, trivial⟩) ?_
  refine pA ?_
  refine ar_obj [1] (cj) rfl rfl (handed_of rfl rfl (by decide) ⟨rfl, rfl, rfl, trivial⟩) rfl rfl rfl rfl ?_
  rintro _ _ ⟨rfl, rfl⟩
  refine ⟨_, _, rfl, ?_⟩
  refine ar_ent (ent_same (h' := ⟨2, [(0, some (.mixed ((msgC (⟨a.1, ask0, bid0, inv0, var0, 0, 0, 0, 0, []⟩)).map .r))), (1, some (.mixed [.r (.bs j.2.1), .r (.int .i64 j.2.2), .r (.bool true)]))], false⟩) rfl rfl ⟨rfl, rfl, trivial⟩) ?_
  refine pA ?_
  refine ar_store (h' := ⟨2, [(0, some (.mixed ((msgC (⟨a.1, ask0, bid0, i.1, var0, 0, 0, 0, 0, []⟩)).map .r))), (0, some (.mixed ((msgC (⟨a.1, ask0, bid0, inv0, var0, 0, 0, 0, 0, []⟩)).map .r))), (1, some (.mixed [.r (.bs j.2.1), .r (.int .i64 j.2.2), .r (.bool true)]))], false⟩) (c := True) tOk (by kernel_rfl) rfl rfl trivial ?_
  refine pA ?_
  refine ar_store (h' := ⟨2, [(0, some (.mixed ((msgC (⟨a.1, ask0, bid0, i.1, j.1, 0, 0, 0, 0, []⟩)).map .r))), (0, some (.mixed ((msgC (⟨a.1, ask0, bid0, i.1, var0, 0, 0, 0, 0, []⟩)).map .r))), (0, some (.mixed ((msgC (⟨a.1, ask0, bid0, inv0, var0, 0, 0, 0, 0, []⟩)).map .r))), (1, some (.mixed [.r (.bs j.2.1), .r (.int .i64 j.2.2), .r (.bool true)]))], false⟩) (c := True) tOk (by kernel_rfl) rfl rfl trivial ?_
  refine ar_nil ?_
  refine ag_ent (ent_weak (g' := [(2, .ptr 0 0), (4, .ptr 1 0)]) (h' := ⟨2, [(0, some (.mixed ((msgC (⟨a.1, ask0, bid0, i.1, j.1, 0, 0, 0, 0, []⟩)).map .r))), (1, some (.mixed [.r (.bs j.2.1), .r (.int .i64 j.2.2), .r (.bool true)]))], false⟩) [0, 1] rfl rfl rfl rfl ?_ ?_ rfl) ?_
  · exact ⟨⟨rfl, rfl⟩, ⟨rfl, rfl⟩, trivial⟩
  · exact ⟨⟨rfl, rfl, rfl⟩, ⟨rfl, rfl, rfl⟩, trivial⟩
  refine ag_reg ?_
  refine pA ?_
  refine ar_obj [1] (cg) rfl rfl (handed_of rfl rfl (by decide) ⟨rfl, rfl, rfl, trivial⟩) rfl rfl rfl rfl ?_
  rintro _ _ ⟨rfl, rfl⟩
  refine ⟨_, _, rfl, ?_⟩
  refine ar_ent (ent_same (h' := ⟨2, [(0, some (.mixed ((msgC (⟨a.1, ask0, bid0, i.1, j.1, 0, 0, 0, 0, []⟩)).map .r))), (1, some (.mixed [.r (.bs g.2.1), .r (.int .i64 g.2.2), .r (.bool true)]))], false⟩) rfl rfl ⟨rfl, rfl, trivial⟩) ?_
  refine pA ?_
  refine ar_obj [1] (cs) rfl rfl (handed_of rfl rfl (by decide) ⟨rfl, rfl, rfl, trivial⟩) rfl rfl rfl rfl ?_
  rintro _ _ ⟨rfl, rfl⟩
  refine ⟨_, _, rfl, ?_⟩
  refine ar_ent (ent_same (h' := ⟨2, [(0, some (.mixed ((msgC (⟨a.1, ask0, bid0, i.1, j.1, 0, 0, 0, 0, []⟩)).map .r))), (1, some (.mixed [.r (.bs s.2.1), .r (.int .i64 s.2.2), .r (.bool true)]))], false⟩) rfl rfl ⟨rfl, rfl, trivial⟩) ?_
  refine pA ?_
  refine ar_store (h' := ⟨2, [(0, some (.mixed ((msgC (⟨a.1, ask0, bid0, i.1, j.1, fB g.1 24 8, fB g.1 16 8, fB g.1 8 8, fB g.1 0 8, []⟩)).map .r))), (0, some (.mixed ((msgC (⟨a.1, ask0, bid0, i.1, j.1, 0, 0, 0, 0, []⟩)).map .r))), (1, some (.mixed [.r (.bs s.2.1), .r (.int .i64 s.2.2), .r (.bool true)]))], false⟩) (c := True) tOk (by kernel_rfl) rfl rfl trivial ?_
  refine pA ?_
  refine ar_store (h' := ⟨2, [(0, some (.mixed ((msgC (⟨a.1, ask0, bid0, i.1, j.1, fB g.1 24 8, fB g.1 16 8, fB g.1 8 8, fB g.1 0 8, s.1⟩)).map .r))), (0, some (.mixed ((msgC (⟨a.1, ask0, bid0, i.1, j.1, fB g.1 24 8, fB g.1 16 8, fB g.1 8 8, fB g.1 0 8, []⟩)).map .r))), (0, some (.mixed ((msgC (⟨a.1, ask0, bid0, i.1, j.1, 0, 0, 0, 0, []⟩)).map .r))), (1, some (.mixed [.r (.bs s.2.1), .r (.int .i64 s.2.2), .r (.bool true)]))], false⟩) (c := True) tOk (by kernel_rfl) rfl rfl trivial ?_
  refine ar_nil ?_
  refine ag_ent (ent_weak (g' := [(2, .ptr 0 0), (4, .ptr 1 0)]) (h' := ⟨2, [(0, some (.mixed ((msgC (⟨a.1, ask0, bid0, i.1, j.1, fB g.1 24 8, fB g.1 16 8, fB g.1 8 8, fB g.1 0 8, s.1⟩)).map .r))), (1, some (.mixed [.r (.bs s.2.1), .r (.int .i64 s.2.2), .r (.bool true)]))], false⟩) [0, 1] rfl rfl rfl rfl ?_ ?_ rfl) ?_
  · exact ⟨⟨rfl, rfl⟩, ⟨rfl, rfl⟩, trivial⟩
  · exact ⟨⟨rfl, rfl, rfl⟩, ⟨rfl, rfl, rfl⟩, trivial⟩
  refine ag_inBlock ?_
  refine zB ?_
  refine pA ?_
  refine ar_qd rfl (qop_objR [1] (w_Err s.2.1 s.2.2) (by rintro _ _ ⟨rfl, rfl⟩; exact ⟨rfl, rfl⟩) rfl rfl (handed_of rfl rfl (by decide) ⟨rfl, rfl, rfl, trivial⟩) rfl rfl) rfl rfl rfl rfl ?_
  refine pA ?_
  refine zA ?_
  refine zB ?_
  iterate 3 refine pA ?_
  refine ar_guard (t := decide (s.2.2 = 0)) (fun ht => ?_) (fun ht => ?_)
  · refine ar_ent (ent_reg 49 (.r (.bool true)) (by show AVal.r (.bool _) = _; exact eqB ht)) ?_
    have h00 : s.2.2 = 0 := of_decide_eq_true ht
    refine pA ?_
    refine ar_qd rfl (qop_objR [1] (w_Left s.2.1 s.2.2) (by rintro _ _ ⟨rfl, rfl⟩; exact ⟨rfl, rfl⟩) rfl rfl (handed_of rfl rfl (by decide) ⟨rfl, rfl, rfl, trivial⟩) rfl rfl) rfl rfl rfl rfl ?_
    iterate 2 refine pA ?_
    refine ar_guard (t := decide ((s.2.1.length : Int) > 0)) (fun ht => ?_) (fun ht => ?_)
    · refine ar_ent (ent_reg 53 (.r (.bool true)) (by show AVal.r (.bool _) = _; exact eqB ht)) ?_
      have hk1 := of_decide_eq_true ht
      repeat (first | refine ar_skip rfl rfl rfl ?_ | refine ar_pure tOk rfl rfl rfl trivial ?_)
      refine ar_nil ?_
      refine ag_true rfl (by rfl) ?_
      refine ag_reg ?_
      refine pA ?_
      refine zA ?_
      refine zB ?_
      iterate 2 refine pA ?_
      refine ar_nil ?_
      refine ag_true rfl (by rfl) ?_
      refine ag_ent (ent_weak (g' := [(2, .ptr 0 0), (4, .ptr 1 0), (3, .r (.int .i64 16))]) (h' := ⟨2, [(0, some (.mixed ((msgC (⟨a.1, ask0, bid0, i.1, j.1, fB g.1 24 8, fB g.1 16 8, fB g.1 8 8, fB g.1 0 8, s.1⟩)).map .r))), (1, some (.mixed [.r (.bs s.2.1), .r (.int .i64 s.2.2), .r (.bool true)]))], false⟩) [0, 1] rfl rfl rfl rfl ?_ ?_ rfl) ?_
      · exact ⟨⟨rfl, rfl⟩, ⟨rfl, rfl⟩, ⟨rfl, rfl⟩, trivial⟩
      · exact ⟨⟨rfl, rfl, rfl⟩, ⟨rfl, rfl, rfl⟩, trivial⟩
      refine ag_reg ?_
      refine ar_pure tOk rfl rfl rfl ?_ ?_
      · simp
      refine ar_ent (ent_reg 61 (msgA msg0) (by kernel_rfl)) ?_
      refine ar_store (h' := ⟨2, [(0, some (.mixed ((msgC (msg0)).map .r))), (0, some (.mixed ((msgC (⟨a.1, ask0, bid0, i.1, j.1, fB g.1 24 8, fB g.1 16 8, fB g.1 8 8, fB g.1 0 8, s.1⟩)).map .r))), (1, some (.mixed [.r (.bs s.2.1), .r (.int .i64 s.2.2), .r (.bool true)]))], false⟩) (c := True) tOk (by kernel_rfl) rfl rfl trivial ?_
      refine zA ?_
      refine ag_ent (ent_weak (g' := [(2, .ptr 0 0), (4, .ptr 1 0), (3, .r (.int .i64 16))]) (h' := ⟨2, [(0, some (.mixed ((msgC (msg0)).map .r))), (1, some (.mixed [.r (.bs s.2.1), .r (.int .i64 s.2.2), .r (.bool true)]))], false⟩) [0, 1] rfl rfl rfl rfl ?_ ?_ rfl) ?_
      · exact ⟨⟨rfl, rfl⟩, ⟨rfl, rfl⟩, ⟨rfl, rfl⟩, trivial⟩
      · exact ⟨⟨rfl, rfl, rfl⟩, ⟨rfl, rfl, rfl⟩, trivial⟩
      refine ag_reg ?_
      refine pB ?_
      refine pA ?_
      refine ar_store (h' := ⟨2, [(0, some (.mixed ((msgC (msg0)).map .r))), (0, some (.mixed ((msgC (msg0)).map .r))), (1, some (.mixed [.r (.bs s.2.1), .r (.int .i64 s.2.2), .r (.bool true)]))], false⟩) (c := True) tOk (by kernel_rfl) rfl rfl trivial ?_
      refine pA ?_
      refine ar_nil ?_
      refine ag_ret tOk Try.func12 rfl rfl (by first | trivial | exact ⟨trivial, trivial⟩ | simp) ?_
      rw [rd_2 (by omega) (.inl (by omega))]
      rfl
    · refine ar_ent (ent_reg 53 (.r (.bool false)) (by show AVal.r (.bool _) = _; exact eqB ht)) ?_
      have hk1 := of_decide_eq_false ht
      refine pB ?_
      refine ar_pur (w_mCheck ⟨a.1, ask0, bid0, i.1, j.1, fB g.1 24 8, fB g.1 16 8, fB g.1 8 8, fB g.1 0 8, s.1⟩) rfl rfl rfl rfl rfl rfl rfl ?_
      iterate 3 refine pA ?_
      refine ar_nil ?_
      refine ag_if rfl ?_ ?_
      · intro h58
        refine ag_reg ?_
        refine pA ?_
        refine zA ?_
        refine zB ?_
        iterate 2 refine pA ?_
        refine ar_nil ?_
        refine ag_true rfl (by rfl) ?_
        refine ag_ent (ent_weak (g' := [(2, .ptr 0 0), (4, .ptr 1 0), (3, .r (.int .i64 16))]) (h' := ⟨2, [(0, some (.mixed ((msgC (⟨a.1, ask0, bid0, i.1, j.1, fB g.1 24 8, fB g.1 16 8, fB g.1 8 8, fB g.1 0 8, s.1⟩)).map .r))), (1, some (.mixed [.r (.bs s.2.1), .r (.int .i64 s.2.2), .r (.bool true)]))], false⟩) [0, 1] rfl rfl rfl rfl ?_ ?_ rfl) ?_
        · exact ⟨⟨rfl, rfl⟩, ⟨rfl, rfl⟩, ⟨rfl, rfl⟩, trivial⟩
        · exact ⟨⟨rfl, rfl, rfl⟩, ⟨rfl, rfl, rfl⟩, trivial⟩
        refine ag_reg ?_
        refine ar_pure tOk rfl rfl rfl ?_ ?_
        · simp
        refine ar_ent (ent_reg 61 (msgA msg0) (by kernel_rfl)) ?_
        refine ar_store (h' := ⟨2, [(0, some (.mixed ((msgC (msg0)).map .r))), (0, some (.mixed ((msgC (⟨a.1, ask0, bid0, i.1, j.1, fB g.1 24 8, fB g.1 16 8, fB g.1 8 8, fB g.1 0 8, s.1⟩)).map .r))), (1, some (.mixed [.r (.bs s.2.1), .r (.int .i64 s.2.2), .r (.bool true)]))], false⟩) (c := True) tOk (by kernel_rfl) rfl rfl trivial ?_
        refine zA ?_
        refine ag_ent (ent_weak (g' := [(2, .ptr 0 0), (4, .ptr 1 0), (3, .r (.int .i64 16))]) (h' := ⟨2, [(0, some (.mixed ((msgC (msg0)).map .r))), (1, some (.mixed [.r (.bs s.2.1), .r (.int .i64 s.2.2), .r (.bool true)]))], false⟩) [0, 1] rfl rfl rfl rfl ?_ ?_ rfl) ?_
        · exact ⟨⟨rfl, rfl⟩, ⟨rfl, rfl⟩, ⟨rfl, rfl⟩, trivial⟩
        · exact ⟨⟨rfl, rfl, rfl⟩, ⟨rfl, rfl, rfl⟩, trivial⟩
        refine ag_reg ?_
        refine pB ?_
        refine pA ?_
        refine ar_store (h' := ⟨2, [(0, some (.mixed ((msgC (msg0)).map .r))), (0, some (.mixed ((msgC (msg0)).map .r))), (1, some (.mixed [.r (.bs s.2.1), .r (.int .i64 s.2.2), .r (.bool true)]))], false⟩) (c := True) tOk (by kernel_rfl) rfl rfl trivial ?_
        refine pA ?_
        refine ar_nil ?_
        refine ag_ret tOk Try.func12 rfl rfl (by first | trivial | exact ⟨trivial, trivial⟩ | simp) ?_
        rw [rd_2 (by omega) (.inr (by simpa using h58))]
        rfl
      · intro h58
        refine ag_skip ?_
        refine ag_seq ?_
        refine zB ?_
        iterate 2 refine pA ?_
        refine ar_nil ?_
        refine ag_false rfl (decide_eq_false (by omega)) ?_
        refine ag_skip ?_
        refine ag_seq ?_
        refine ag_ent (ent_weak (g' := [(2, .ptr 0 0), (4, .ptr 1 0), (3, .r (.int .i64 s.2.2))]) (h' := ⟨2, [(0, some (.mixed ((msgC (⟨a.1, ask0, bid0, i.1, j.1, fB g.1 24 8, fB g.1 16 8, fB g.1 8 8, fB g.1 0 8, s.1⟩)).map .r))), (1, some (.mixed [.r (.bs s.2.1), .r (.int .i64 s.2.2), .r (.bool true)]))], false⟩) [0, 1] rfl rfl rfl rfl ?_ ?_ rfl) ?_
        · exact ⟨⟨rfl, rfl⟩, ⟨rfl, rfl⟩, ⟨rfl, rfl⟩, trivial⟩
        · exact ⟨⟨rfl, rfl, rfl⟩, ⟨rfl, rfl, rfl⟩, trivial⟩
        refine ag_reg ?_
        refine pB ?_
        refine pA ?_
        refine ar_store (h' := ⟨2, [(0, some (.mixed ((msgC (⟨a.1, ask0, bid0, i.1, j.1, fB g.1 24 8, fB g.1 16 8, fB g.1 8 8, fB g.1 0 8, s.1⟩)).map .r))), (0, some (.mixed ((msgC (⟨a.1, ask0, bid0, i.1, j.1, fB g.1 24 8, fB g.1 16 8, fB g.1 8 8, fB g.1 0 8, s.1⟩)).map .r))), (1, some (.mixed [.r (.bs s.2.1), .r (.int .i64 s.2.2), .r (.bool true)]))], false⟩) (c := True) tOk (by kernel_rfl) rfl rfl trivial ?_
        refine pA ?_
        refine ar_nil ?_
        refine ag_ret tOk Try.func12 rfl rfl (by first | trivial | exact ⟨trivial, trivial⟩ | simp) ?_
        rw [rd_3 (by omega) (by rintro (q | q); omega; exact q (by simpa using h58))]
        rw [h00]
        rfl
  · refine ar_ent (ent_reg 49 (.r (.bool false)) (by show AVal.r (.bool _) = _; exact eqB ht)) ?_
    have hk0 : s.2.2 ≠ 0 := of_decide_eq_false ht
    repeat (first | refine ar_skip rfl rfl rfl ?_ | refine ar_pure tOk rfl rfl rfl trivial ?_)
    refine ar_nil ?_
    refine ag_false rfl (by rfl) ?_
    refine ag_skip ?_
    refine ag_seq ?_
    refine zB ?_
    iterate 2 refine pA ?_
    refine ar_nil ?_
    refine ag_true rfl (decide_eq_true hk0) ?_
    refine ag_ent (ent_weak (g' := [(2, .ptr 0 0), (4, .ptr 1 0), (3, .r (.int .i64 s.2.2))]) (h' := ⟨2, [(0, some (.mixed ((msgC (⟨a.1, ask0, bid0, i.1, j.1, fB g.1 24 8, fB g.1 16 8, fB g.1 8 8, fB g.1 0 8, s.1⟩)).map .r))), (1, some (.mixed [.r (.bs s.2.1), .r (.int .i64 s.2.2), .r (.bool true)]))], false⟩) [0, 1] rfl rfl rfl rfl ?_ ?_ rfl) ?_
    · exact ⟨⟨rfl, rfl⟩, ⟨rfl, rfl⟩, ⟨rfl, rfl⟩, trivial⟩
    · exact ⟨⟨rfl, rfl, rfl⟩, ⟨rfl, rfl, rfl⟩, trivial⟩
    refine ag_reg ?_
    refine ar_pure tOk rfl rfl rfl ?_ ?_
    · simp
    refine ar_ent (ent_reg 61 (msgA msg0) (by kernel_rfl)) ?_
    refine ar_store (h' := ⟨2, [(0, some (.mixed ((msgC (msg0)).map .r))), (0, some (.mixed ((msgC (⟨a.1, ask0, bid0, i.1, j.1, fB g.1 24 8, fB g.1 16 8, fB g.1 8 8, fB g.1 0 8, s.1⟩)).map .r))), (1, some (.mixed [.r (.bs s.2.1), .r (.int .i64 s.2.2), .r (.bool true)]))], false⟩) (c := True) tOk (by kernel_rfl) rfl rfl trivial ?_
    refine zA ?_
    refine ag_ent (ent_weak (g' := [(2, .ptr 0 0), (4, .ptr 1 0), (3, .r (.int .i64 s.2.2))]) (h' := ⟨2, [(0, some (.mixed ((msgC (msg0)).map .r))), (1, some (.mixed [.r (.bs s.2.1), .r (.int .i64 s.2.2), .r (.bool true)]))], false⟩) [0, 1] rfl rfl rfl rfl ?_ ?_ rfl) ?_
    · exact ⟨⟨rfl, rfl⟩, ⟨rfl, rfl⟩, ⟨rfl, rfl⟩, trivial⟩
    · exact ⟨⟨rfl, rfl, rfl⟩, ⟨rfl, rfl, rfl⟩, trivial⟩
    refine ag_reg ?_
    refine pB ?_
    refine pA ?_
    refine ar_store (h' := ⟨2, [(0, some (.mixed ((msgC (msg0)).map .r))), (0, some (.mixed ((msgC (msg0)).map .r))), (1, some (.mixed [.r (.bs s.2.1), .r (.int .i64 s.2.2), .r (.bool true)]))], false⟩) (c := True) tOk (by kernel_rfl) rfl rfl trivial ?_
    refine pA ?_
    refine ar_nil ?_
    refine ag_ret tOk Try.func12 rfl rfl (by first | trivial | exact ⟨trivial, trivial⟩ | simp) ?_
    rw [rd_1 hk0]
    rfl
theorem w_mRead0 (b : List UInt8) (a : Int × W) (ha : gNu (opR b) M40 = a) (hk : ¬ a.1 = 1 ∧ ¬ a.1 = 2 ∧ ¬ a.1 = 3) : Pur Try.prog 12 [.r (.bs b)] (.tuple [msgA (rdM b).1, .r (.int .i64 (rdM b).2)]) := by
  rw [rdM, ha]
  have hG : rdK a = rdV ⟨a.1, ask0, bid0, inv0, var0, 0, 0, 0, 0, []⟩ a.2 := by rw [rdK, if_neg hk.1, if_neg hk.2.1, if_neg hk.2.2]
  rw [hG]
  obtain ⟨w, hw⟩ : ∃ w, opR b = w := ⟨_, rfl⟩
  rw [hw] at ha
  have ca : Spec Try.prog 50 [.ptr 0 0, .r (.int .i64 1099511627776)] (iH w.1 w.2) (fun u h' => u = .r (.int .i64 a.1) ∧ h' = iH a.2.1 a.2.2) := by rw [← ha]; exact w_INum w 1099511627776
  have c0 := w_IOpen b
  rw [hw] at c0
  clear hG ha hw
  refine spec_of_go (N := 64) Try.func12 rfl (by decide) rfl rfl ?_
  refine zB ?_
  refine ar_new tOk rfl rfl rfl ?_ ?_
  · simp
  refine pA ?_
  refine zC ?_
  refine pA ?_
  refine ar_obj [] (c0) rfl rfl (handed_of rfl rfl (by decide) trivial) rfl rfl rfl rfl ?_
  rintro _ _ ⟨rfl, rfl⟩
  refine ⟨_, _, rfl, ?_⟩
  refine ar_ent (ent_same (h' := ⟨2, [(0, some (.mixed ((msgC (msg0)).map .r))), (1, some (.mixed [.r (.bs w.1), .r (.int .i64 w.2), .r (.bool true)]))], false⟩) rfl rfl ⟨rfl, rfl, trivial⟩) ?_
  refine pA ?_
  refine zC ?_
  refine pA ?_
  refine ar_obj [1] (ca) rfl rfl (handed_of rfl rfl (by decide) ⟨rfl, rfl, rfl, trivial⟩) rfl rfl rfl rfl ?_
  rintro _ _ ⟨rfl, rfl⟩
  refine ⟨_, _, rfl, ?_⟩
  refine ar_ent (ent_same (h' := ⟨2, [(0, some (.mixed ((msgC (msg0)).map .r))), (1, some (.mixed [.r (.bs a.2.1), .r (.int .i64 a.2.2), .r (.bool true)]))], false⟩) rfl rfl ⟨rfl, rfl, trivial⟩) ?_
  refine pA ?_
  refine ar_store (h' := ⟨2, [(0, some (.mixed ((msgC (⟨a.1, ask0, bid0, inv0, var0, 0, 0, 0, 0, []⟩)).map .r))), (0, some (.mixed ((msgC (msg0)).map .r))), (1, some (.mixed [.r (.bs a.2.1), .r (.int .i64 a.2.2), .r (.bool true)]))], false⟩) (c := True) tOk (by kernel_rfl) rfl rfl trivial ?_
  refine ar_nil ?_
  refine ag_ent (ent_weak (g' := [(2, .ptr 0 0), (4, .ptr 1 0)]) (h' := ⟨2, [(0, some (.mixed ((msgC (⟨a.1, ask0, bid0, inv0, var0, 0, 0, 0, 0, []⟩)).map .r))), (1, some (.mixed [.r (.bs a.2.1), .r (.int .i64 a.2.2), .r (.bool true)]))], false⟩) [0, 1] rfl rfl rfl rfl ?_ ?_ rfl) ?_
  · exact ⟨⟨rfl, rfl⟩, ⟨rfl, rfl⟩, trivial⟩
  · exact ⟨⟨rfl, rfl, rfl⟩, ⟨rfl, rfl, rfl⟩, trivial⟩
  refine ag_seq ?_
  refine zB ?_
  refine pA ?_
  refine pB ?_
  refine ar_nil ?_
  refine ag_block ?_
  refine zB ?_
  iterate 2 refine pA ?_
  refine ar_nil ?_
  refine ag_false rfl (decide_eq_false (show ¬ a.1 = 1 by omega)) ?_
  refine zB ?_
  iterate 2 refine pA ?_
  refine ar_nil ?_
  refine ag_false rfl (decide_eq_false (show ¬ a.1 = 2 by omega)) ?_
  refine zB ?_
  iterate 2 refine pA ?_
  refine ar_nil ?_
  refine ag_false rfl (decide_eq_false (show ¬ a.1 = 3 by omega)) ?_
  refine ag_skip ?_
  refine ag_inBlock ?_
  refine zB ?_
  refine pA ?_
  refine ar_qd rfl (qop_objR [1] (w_Err a.2.1 a.2.2) (by rintro _ _ ⟨rfl, rfl⟩; exact ⟨rfl, rfl⟩) rfl rfl (handed_of rfl rfl (by decide) ⟨rfl, rfl, rfl, trivial⟩) rfl rfl) rfl rfl rfl rfl ?_
  refine pA ?_
  refine zA ?_
  refine zB ?_
  iterate 3 refine pA ?_
  refine ar_guard (t := decide (a.2.2 = 0)) (fun ht => ?_) (fun ht => ?_)
  · refine ar_ent (ent_reg 49 (.r (.bool true)) (by show AVal.r (.bool _) = _; exact eqB ht)) ?_
    have h00 : a.2.2 = 0 := of_decide_eq_true ht
    refine pA ?_
    refine ar_qd rfl (qop_objR [1] (w_Left a.2.1 a.2.2) (by rintro _ _ ⟨rfl, rfl⟩; exact ⟨rfl, rfl⟩) rfl rfl (handed_of rfl rfl (by decide) ⟨rfl, rfl, rfl, trivial⟩) rfl rfl) rfl rfl rfl rfl ?_
    iterate 2 refine pA ?_
    refine ar_guard (t := decide ((a.2.1.length : Int) > 0)) (fun ht => ?_) (fun ht => ?_)
    · refine ar_ent (ent_reg 53 (.r (.bool true)) (by show AVal.r (.bool _) = _; exact eqB ht)) ?_
      have hk1 := of_decide_eq_true ht
      repeat (first | refine ar_skip rfl rfl rfl ?_ | refine ar_pure tOk rfl rfl rfl trivial ?_)
      refine ar_nil ?_
      refine ag_true rfl (by rfl) ?_
      refine ag_reg ?_
      refine pA ?_
      refine zA ?_
      refine zB ?_
      iterate 2 refine pA ?_
      refine ar_nil ?_
      refine ag_true rfl (by rfl) ?_
      refine ag_ent (ent_weak (g' := [(2, .ptr 0 0), (4, .ptr 1 0), (3, .r (.int .i64 16))]) (h' := ⟨2, [(0, some (.mixed ((msgC (⟨a.1, ask0, bid0, inv0, var0, 0, 0, 0, 0, []⟩)).map .r))), (1, some (.mixed [.r (.bs a.2.1), .r (.int .i64 a.2.2), .r (.bool true)]))], false⟩) [0, 1] rfl rfl rfl rfl ?_ ?_ rfl) ?_
      · exact ⟨⟨rfl, rfl⟩, ⟨rfl, rfl⟩, ⟨rfl, rfl⟩, trivial⟩
      · exact ⟨⟨rfl, rfl, rfl⟩, ⟨rfl, rfl, rfl⟩, trivial⟩
      refine ag_reg ?_
      refine ar_pure tOk rfl rfl rfl ?_ ?_
      · simp
      refine ar_ent (ent_reg 61 (msgA msg0) (by kernel_rfl)) ?_
      refine ar_store (h' := ⟨2, [(0, some (.mixed ((msgC (msg0)).map .r))), (0, some (.mixed ((msgC (⟨a.1, ask0, bid0, inv0, var0, 0, 0, 0, 0, []⟩)).map .r))), (1, some (.mixed [.r (.bs a.2.1), .r (.int .i64 a.2.2), .r (.bool true)]))], false⟩) (c := True) tOk (by kernel_rfl) rfl rfl trivial ?_
      refine zA ?_
      refine ag_ent (ent_weak (g' := [(2, .ptr 0 0), (4, .ptr 1 0), (3, .r (.int .i64 16))]) (h' := ⟨2, [(0, some (.mixed ((msgC (msg0)).map .r))), (1, some (.mixed [.r (.bs a.2.1), .r (.int .i64 a.2.2), .r (.bool true)]))], false⟩) [0, 1] rfl rfl rfl rfl ?_ ?_ rfl) ?_
      · exact ⟨⟨rfl, rfl⟩, ⟨rfl, rfl⟩, ⟨rfl, rfl⟩, trivial⟩
      · exact ⟨⟨rfl, rfl, rfl⟩, ⟨rfl, rfl, rfl⟩, trivial⟩
      refine ag_reg ?_
      refine pB ?_
      refine pA ?_
      refine ar_store (h' := ⟨2, [(0, some (.mixed ((msgC (msg0)).map .r))), (0, some (.mixed ((msgC (msg0)).map .r))), (1, some (.mixed [.r (.bs a.2.1), .r (.int .i64 a.2.2), .r (.bool true)]))], false⟩) (c := True) tOk (by kernel_rfl) rfl rfl trivial ?_
      refine pA ?_
      refine ar_nil ?_
      refine ag_ret tOk Try.func12 rfl rfl (by first | trivial | exact ⟨trivial, trivial⟩ | simp) ?_
      rw [rd_2 (by omega) (.inl (by omega))]
      rfl
    · refine ar_ent (ent_reg 53 (.r (.bool false)) (by show AVal.r (.bool _) = _; exact eqB ht)) ?_
      have hk1 := of_decide_eq_false ht
      refine pB ?_
      refine ar_pur (w_mCheck ⟨a.1, ask0, bid0, inv0, var0, 0, 0, 0, 0, []⟩) rfl rfl rfl rfl rfl rfl rfl ?_
      iterate 3 refine pA ?_
      refine ar_nil ?_
      refine ag_if rfl ?_ ?_
      · intro h58
        refine ag_reg ?_
        refine pA ?_
        refine zA ?_
        refine zB ?_
        iterate 2 refine pA ?_
        refine ar_nil ?_
        refine ag_true rfl (by rfl) ?_
        refine ag_ent (ent_weak (g' := [(2, .ptr 0 0), (4, .ptr 1 0), (3, .r (.int .i64 16))]) (h' := ⟨2, [(0, some (.mixed ((msgC (⟨a.1, ask0, bid0, inv0, var0, 0, 0, 0, 0, []⟩)).map .r))), (1, some (.mixed [.r (.bs a.2.1), .r (.int .i64 a.2.2), .r (.bool true)]))], false⟩) [0, 1] rfl rfl rfl rfl ?_ ?_ rfl) ?_
        · exact ⟨⟨rfl, rfl⟩, ⟨rfl, rfl⟩, ⟨rfl, rfl⟩, trivial⟩
        · exact ⟨⟨rfl, rfl, rfl⟩, ⟨rfl, rfl, rfl⟩, trivial⟩
        refine ag_reg ?_
        refine ar_pure tOk rfl rfl rfl ?_ ?_
        · simp
        refine ar_ent (ent_reg 61 (msgA msg0) (by kernel_rfl)) ?_
        refine ar_store (h' := ⟨2, [(0, some (.mixed ((msgC (msg0)).map .r))), (0, some (.mixed ((msgC (⟨a.1, ask0, bid0, inv0, var0, 0, 0, 0, 0, []⟩)).map .r))), (1, some (.mixed [.r (.bs a.2.1), .r (.int .i64 a.2.2), .r (.bool true)]))], false⟩) (c := True) tOk (by kernel_rfl) rfl rfl trivial ?_
        refine zA ?_
        refine ag_ent (ent_weak (g' := [(2, .ptr 0 0), (4, .ptr 1 0), (3, .r (.int .i64 16))]) (h' := ⟨2, [(0, some (.mixed ((msgC (msg0)).map .r))), (1, some (.mixed [.r (.bs a.2.1), .r (.int .i64 a.2.2), .r (.bool true)]))], false⟩) [0, 1] rfl rfl rfl rfl ?_ ?_ rfl) ?_
        · exact ⟨⟨rfl, rfl⟩, ⟨rfl, rfl⟩, ⟨rfl, rfl⟩, trivial⟩
        · exact ⟨⟨rfl, rfl, rfl⟩, ⟨rfl, rfl, rfl⟩, trivial⟩
        refine ag_reg ?_
        refine pB ?_
        refine pA ?_
        refine ar_store (h' := ⟨2, [(0, some (.mixed ((msgC (msg0)).map .r))), (0, some (.mixed ((msgC (msg0)).map .r))), (1, some (.mixed [.r (.bs a.2.1), .r (.int .i64 a.2.2), .r (.bool true)]))], false⟩) (c := True) tOk (by kernel_rfl) rfl rfl trivial ?_
        refine pA ?_
        refine ar_nil ?_
        refine ag_ret tOk Try.func12 rfl rfl (by first | trivial | exact ⟨trivial, trivial⟩ | simp) ?_
        rw [rd_2 (by omega) (.inr (by simpa using h58))]
        rfl
      · intro h58
        refine ag_skip ?_
        refine ag_seq ?_
        refine zB ?_
        iterate 2 refine pA ?_
        refine ar_nil ?_
        refine ag_false rfl (decide_eq_false (by omega)) ?_
        refine ag_skip ?_
        refine ag_seq ?_
        refine ag_ent (ent_weak (g' := [(2, .ptr 0 0), (4, .ptr 1 0), (3, .r (.int .i64 a.2.2))]) (h' := ⟨2, [(0, some (.mixed ((msgC (⟨a.1, ask0, bid0, inv0, var0, 0, 0, 0, 0, []⟩)).map .r))), (1, some (.mixed [.r (.bs a.2.1), .r (.int .i64 a.2.2), .r (.bool true)]))], false⟩) [0, 1] rfl rfl rfl rfl ?_ ?_ rfl) ?_
        · exact ⟨⟨rfl, rfl⟩, ⟨rfl, rfl⟩, ⟨rfl, rfl⟩, trivial⟩
        · exact ⟨⟨rfl, rfl, rfl⟩, ⟨rfl, rfl, rfl⟩, trivial⟩
        refine ag_reg ?_
        refine pB ?_
        refine pA ?_
        refine ar_store (h' := ⟨2, [(0, some (.mixed ((msgC (⟨a.1, ask0, bid0, inv0, var0, 0, 0, 0, 0, []⟩)).map .r))), (0, some (.mixed ((msgC (⟨a.1, ask0, bid0, inv0, var0, 0, 0, 0, 0, []⟩)).map .r))), (1, some (.mixed [.r (.bs a.2.1), .r (.int .i64 a.2.2), .r (.bool true)]))], false⟩) (c := True) tOk (by kernel_rfl) rfl rfl trivial ?_
        refine pA ?_
        refine ar_nil ?_
        refine ag_ret tOk Try.func12 rfl rfl (by first | trivial | exact ⟨trivial, trivial⟩ | simp) ?_
        rw [rd_3 (by omega) (by rintro (q | q); omega; exact q (by simpa using h58))]
        rw [h00]
        rfl
  · refine ar_ent (ent_reg 49 (.r (.bool false)) (by show AVal.r (.bool _) = _; exact eqB ht)) ?_
    have hk0 : a.2.2 ≠ 0 := of_decide_eq_false ht
    repeat (first | refine ar_skip rfl rfl rfl ?_ | refine ar_pure tOk rfl rfl rfl trivial ?_)
    refine ar_nil ?_
    refine ag_false rfl (by rfl) ?_
    refine ag_skip ?_
    refine ag_seq ?_
    refine zB ?_
    iterate 2 refine pA ?_
    refine ar_nil ?_
    refine ag_true rfl (decide_eq_true hk0) ?_
    refine ag_ent (ent_weak (g' := [(2, .ptr 0 0), (4, .ptr 1 0), (3, .r (.int .i64 a.2.2))]) (h' := ⟨2, [(0, some (.mixed ((msgC (⟨a.1, ask0, bid0, inv0, var0, 0, 0, 0, 0, []⟩)).map .r))), (1, some (.mixed [.r (.bs a.2.1), .r (.int .i64 a.2.2), .r (.bool true)]))], false⟩) [0, 1] rfl rfl rfl rfl ?_ ?_ rfl) ?_
    · exact ⟨⟨rfl, rfl⟩, ⟨rfl, rfl⟩, ⟨rfl, rfl⟩, trivial⟩
    · exact ⟨⟨rfl, rfl, rfl⟩, ⟨rfl, rfl, rfl⟩, trivial⟩
    refine ag_reg ?_
    refine ar_pure tOk rfl rfl rfl ?_ ?_
    · simp
    refine ar_ent (ent_reg 61 (msgA msg0) (by kernel_rfl)) ?_
    refine ar_store (h' := ⟨2, [(0, some (.mixed ((msgC (msg0)).map .r))), (0, some (.mixed ((msgC (⟨a.1, ask0, bid0, inv0, var0, 0, 0, 0, 0, []⟩)).map .r))), (1, some (.mixed [.r (.bs a.2.1), .r (.int .i64 a.2.2), .r (.bool true)]))], false⟩) (c := True) tOk (by kernel_rfl) rfl rfl trivial ?_
    refine zA ?_
    refine ag_ent (ent_weak (g' := [(2, .ptr 0 0), (4, .ptr 1 0), (3, .r (.int .i64 a.2.2))]) (h' := ⟨2, [(0, some (.mixed ((msgC (msg0)).map .r))), (1, some (.mixed [.r (.bs a.2.1), .r (.int .i64 a.2.2), .r (.bool true)]))], false⟩) [0, 1] rfl rfl rfl rfl ?_ ?_ rfl) ?_
    · exact ⟨⟨rfl, rfl⟩, ⟨rfl, rfl⟩, ⟨rfl, rfl⟩, trivial⟩
    · exact ⟨⟨rfl, rfl, rfl⟩, ⟨rfl, rfl, rfl⟩, trivial⟩
    refine ag_reg ?_
    refine pB ?_
    refine pA ?_
    refine ar_store (h' := ⟨2, [(0, some (.mixed ((msgC (msg0)).map .r))), (0, some (.mixed ((msgC (msg0)).map .r))), (1, some (.mixed [.r (.bs a.2.1), .r (.int .i64 a.2.2), .r (.bool true)]))], false⟩) (c := True) tOk (by kernel_rfl) rfl rfl trivial ?_
    refine pA ?_
    refine ar_nil ?_
    refine ag_ret tOk Try.func12 rfl rfl (by first | trivial | exact ⟨trivial, trivial⟩ | simp) ?_
    rw [rd_1 hk0]
    rfl
end Go.Proofs.Ytnodpljgcdkbkaa

