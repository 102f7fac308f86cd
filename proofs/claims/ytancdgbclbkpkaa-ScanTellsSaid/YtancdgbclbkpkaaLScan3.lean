/-
  WALKS: the law ScanTells. (Printed by gen.py out of w_lscan3.py.)
-/
import Derived.Test.YtancdgbclbkpkaaLScan
import Derived.Test.YtancdgbclbkpkaaScan4
namespace Go.Proofs.Ytancdgbclbkpkaa
open Go
set_option maxRecDepth 20000
set_option linter.unusedVariables false
set_option linter.unusedSimpArgs false
theorem evsC_at {L : List EvV} {i : Nat} {e : EvV} (h : L[i]? = some e) {off k : Nat} {v : AVal} (ho : off = i * 27 + k) (hk : k < 27) (hv : ((evC e).map AVal.r)[k]? = some v) : (Body.plain (evsC L)).cells[off]? = some v := by
  have h2 := congrArg (·[k]?) (evsC_get h)
  simp only [List.getElem?_take, List.getElem?_drop, if_pos hk] at h2
  rw [ho, h2, hv]
theorem evsC_inv3 {L : List EvV} {i : Nat} {e : EvV} (h : L[i]? = some e) : (((Body.plain (evsC L)).cells.drop (i * 27 + 2 + 8)).take 7) = (invC e.x.inv).map .r := by
  have := evsC_get h
  have h2 : (((Body.plain (evsC L)).cells.drop (i * 27)).take 27).drop 10 = (((evC e).map AVal.r).drop 10) := by rw [this]
  rw [← List.drop_drop, ← List.drop_drop, List.drop_drop (l := (Body.plain (evsC L)).cells.drop (i * 27))]
  rw [List.drop_take] at h2
  have h3 := congrArg (List.take 7) h2
  rw [List.take_take] at h3
  exact h3
theorem evsC_tx {L : List EvV} {i : Nat} {e : EvV} (h : L[i]? = some e) : (((Body.plain (evsC L)).cells.drop (i * 27 + 2)).take 25) = (txC e.x).map .r := by
  have := evsC_get h
  have h2 : (((Body.plain (evsC L)).cells.drop (i * 27)).take 27).drop 2 = (((evC e).map AVal.r).drop 2) := by rw [this]
  rw [List.drop_take, List.drop_drop] at h2
  exact h2
theorem txsC_get : ∀ {L : List TxV} {i : Nat} {e : TxV}, L[i]? = some e → (((Body.plain (txsC L)).cells.drop (i * 25)).take 25) = (txC e).map .r
  | [], i, e, h => by simp at h
  | o :: L, 0, e, h => by
    have hl : (txC o).length = 25 := rfl
    simp at h
    subst h
    simp only [txsC, Body.cells, List.flatMap_cons, List.map_append, Nat.zero_mul, List.drop_zero]
    rw [List.take_append_of_le_length (by simp [hl]), List.take_of_length_le (by simp [hl])]
  | o :: L, i + 1, e, h => by
    have hl : (txC o).length = 25 := rfl
    have := txsC_get (L := L) (i := i) (by simpa using h)
    rw [← this]
    simp only [txsC, Body.cells, List.flatMap_cons, List.map_append]
    rw [Nat.succ_mul, Nat.add_comm (i * 25) 25, ← List.drop_drop, List.drop_append_of_le_length (by simp [hl]), List.drop_of_length_le (l := (txC o).map AVal.r) (by simp [hl]), List.nil_append]
theorem txsC_ne {L : List TxV} {i : Nat} {e : TxV} (h : L[i]? = some e) : txsC L ≠ [] := by
  cases L with
  | nil => simp at h
  | cons a l => simp [txsC, txC]
theorem evsC_nx (b : EvV) (r : List EvV) (x : EvV) : cutA (evsC (b :: r)) 0 ((r.length + 1) * 27) ++ evC x = evsC (b :: r ++ [x]) := by
  have h : evsC (b :: r ++ [x]) = evsC (b :: r) ++ evC x := by simp [evsC]
  rw [h, cutA_eq, List.drop_zero, List.take_of_length_le (by rw [CSd_len]; simp)]
theorem fst_drop {L : List EvV} {i : Nat} {e : EvV} {key : List UInt8} {kind : Int} (h : L[i]? = some e) : fstV (L.drop i) key kind = if isV key kind e then some e else fstV (L.drop (i + 1)) key kind := by
  obtain ⟨hlt, he⟩ := List.getElem?_eq_some_iff.1 h
  rw [List.drop_eq_getElem_cons hlt, he, fstV, List.find?_cons]
  by_cases q : isV key kind e = true <;> simp [q, fstV]
def aE (D : List TxV) (M : List EvV) : AVal := match M, D with
  | [], _ => .r .nil
  | _ :: r, [] => .sl 0 0 (r.length + 1) 27
  | _ :: r, _ :: _ => .sl 1 0 (r.length + 1) 27
def hDM (D : List TxV) (M : List EvV) : Hp := match D, M with
  | [], [] => ⟨0, [], false⟩
  | [], b :: r => ⟨1, [(0, some (.plain (evsC (b :: r))))], false⟩
  | a :: l, [] => ⟨1, [(0, some (.plain (txsC (a :: l))))], false⟩
  | a :: l, b :: r => ⟨2, [(0, some (.plain (txsC (a :: l)))), (1, some (.plain (evsC (b :: r))))], false⟩
def stlf14_0 (L : List EvV) (key : List UInt8) (kind : Int) : Nat → Regs × Hp := fun i => ([(0, roE L), (1, .r (.str key)), (2, .r (.int .i64 kind)), (6, .ptr 0 0), (7, .r (.bool false)), (8, .r (.int .i64 (i : Int)))], ⟨1, [(0, some (.mixed ((evC ev0).map .r)))], false⟩)
def prlf14_0 (L : List EvV) (key : List UInt8) (kind : Int) : Nat → Prop := fun i => fstV (L.drop i) key kind = fstV L key kind
theorem w_first14 (L : List EvV) (hok : ∀ e ∈ L, e.x.ok) (hL : L.length ≤ 9223372036854775807) (key : List UInt8) (kind : Int) : Pur Try.prog 16 [roE L, .r (.str key), .r (.int .i64 kind)] (.tuple [eventA ((fstV L key kind).getD ev0), .r (.bool (fstV L key kind).isSome)]) := by
  refine spec_of_go (N := 51) Try.func16 rfl (by decide) rfl rfl ?_
  refine zB ?_
  refine ar_new tOk rfl rfl rfl ?_ ?_
  · simp
  refine pA ?_
  refine zA ?_
  refine zB ?_
  refine pA ?_
  refine ar_nil ?_
  refine ag_block ?_
  refine ag_loopS (stlf14_0 L key kind) (prlf14_0 L key kind) (fun (i : Nat) => L.length - i) 0 (ent_weak [0] rfl rfl rfl rfl ?_ ?_ rfl) (show prlf14_0 L key kind 0 from ?_) ?_
  · exact ⟨⟨rfl, rfl⟩, ⟨rfl, rfl⟩, ⟨rfl, rfl⟩, ⟨rfl, rfl⟩, ⟨rfl, rfl⟩, ⟨rfl, rfl⟩, trivial⟩
  · exact ⟨⟨rfl, rfl, rfl⟩, trivial⟩
  · exact rfl
  rintro i hi hrec
  have hi : fstV (L.drop i) key kind = fstV L key kind := hi
  refine ag_seq ?_
  refine zB ?_
  iterate 4 refine pA ?_
  refine ar_nil ?_
  refine ag_if rfl ?_ ?_
  · intro h12
    obtain ⟨e, hx⟩ : ∃ e, L[i]? = some e := ⟨L[i]'(by omega), by simp⟩
    have hex := hok e (List.mem_of_getElem? hx)
    have cK := w_dKey e.x.inv hex.inv
    refine ag_skip ?_
    refine ag_seq ?_
    refine ag_block ?_
    refine zB ?_
    iterate 3 refine pA ?_
    refine ar_guard (t := decide (key ≠ [])) (fun ht => ?_) (fun ht => ?_)
    · refine ar_ent (ent_reg 17 (.r (.bool true)) (by show AVal.r (.bool _) = _; exact eqB ht)) ?_
      have hk0 := of_decide_eq_true ht
      iterate 2 refine pA ?_
      refine ar_pure tOk rfl rfl rfl ?_ ?_
      · refine ⟨?_, ?_⟩ <;> first | omega | exact evsC_ne hx | (refine ⟨?_, ?_⟩ <;> omega)
      refine pA ?_
      refine ar_loadAs tOk (.r (.int .i64 e.c)) rfl rfl rfl rfl rfl rfl rfl (.inl ⟨rfl, by exact evsC_at hx (k := 1) (by simp only [addo_eq, mulz_eq, Int.toNat_natCast] <;> omega) (by decide) rfl⟩) ?_
      iterate 3 refine pA ?_
      refine ar_guard (t := decide (e.c = 0)) (fun ht => ?_) (fun ht => ?_)
      · refine ar_ent (ent_reg 25 (.r (.bool true)) (by show AVal.r (.bool _) = _; exact eqB ht)) ?_
        have hk1 := of_decide_eq_true ht
        iterate 2 refine pA ?_
        refine ar_pure tOk rfl rfl rfl ?_ ?_
        · refine ⟨?_, ?_⟩ <;> first | omega | exact evsC_ne hx | (refine ⟨?_, ?_⟩ <;> omega)
        iterate 2 refine pA ?_
        refine ar_loadAs tOk (.r (.int .i64 e.x.k)) rfl rfl rfl rfl rfl rfl rfl (.inl ⟨rfl, by exact evsC_at hx (k := 4) (by simp only [addo_eq, mulz_eq, Int.toNat_natCast] <;> omega) (by decide) rfl⟩) ?_
        iterate 4 refine pA ?_
        refine ar_guard (t := decide (e.x.k = kind)) (fun ht => ?_) (fun ht => ?_)
        · refine ar_ent (ent_reg 35 (.r (.bool true)) (by show AVal.r (.bool _) = _; exact eqB ht)) ?_
          have hk2 := of_decide_eq_true ht
          iterate 2 refine pA ?_
          refine ar_pure tOk rfl rfl rfl ?_ ?_
          · refine ⟨?_, ?_⟩ <;> first | omega | exact evsC_ne hx | (refine ⟨?_, ?_⟩ <;> omega)
          iterate 2 refine pA ?_
          refine ar_loadAs tOk (invA e.x.inv) rfl rfl rfl rfl rfl rfl rfl (.inr ⟨rfl, _, rfl, by rw [addo_eq, addo_eq, mulz_eq, Int.toNat_natCast]; exact evsC_inv3 hx, rfl⟩) ?_
          refine ar_pur (cK) rfl rfl rfl rfl rfl rfl rfl ?_
          iterate 3 refine pA ?_
          refine ar_nil ?_
          refine ag_if rfl ?_ ?_
          · intro h45
            have hiv : isV key kind e = true := by simp only [isV, decide_eq_true_eq]; exact ⟨hk0, hk1, hk2, h45⟩
            rw [fst_drop hx, if_pos hiv] at hi
            refine zB ?_
            iterate 2 refine pA ?_
            refine ar_pure tOk rfl rfl rfl ?_ ?_
            · refine ⟨?_, ?_⟩ <;> first | omega | exact evsC_ne hx | (refine ⟨?_, ?_⟩ <;> omega)
            refine ar_loadAs tOk (eventA e) rfl rfl rfl rfl rfl rfl rfl (.inr ⟨rfl, _, rfl, by rw [mulz_eq, Int.toNat_natCast]; exact evsC_get hx, rfl⟩) ?_
            refine ar_store (h' := ⟨1, [(0, some (.mixed ((evC e).map .r))), (0, some (.mixed ((evC ev0).map .r)))], false⟩) (c := True) tOk (by kernel_rfl) rfl rfl trivial ?_
            refine pA ?_
            refine ar_nil ?_
            refine ag_ret tOk Try.func16 rfl rfl (by first | trivial | exact ⟨trivial, trivial⟩ | simp) ?_
            rw [← hi]; rfl
          · intro h45
            have hk := h45
            refine ag_skip ?_
            refine ag_inBlock ?_
            refine ag_reg ?_
            refine pA ?_
            refine ar_pure tOk rfl rfl rfl ?_ ?_
            · unfold inI64; omega
            refine pA ?_
            refine ar_nil ?_
            refine ag_ent (ent_weak (g' := (stlf14_0 L key kind (i + 1)).1) (h' := (stlf14_0 L key kind (i + 1)).2) [0] rfl rfl rfl rfl ?_ ?_ rfl) ?_
            · exact ⟨⟨rfl, rfl⟩, ⟨rfl, rfl⟩, ⟨rfl, rfl⟩, ⟨rfl, rfl⟩, ⟨rfl, rfl⟩, ⟨rfl, by exact eqI (by omega)⟩, trivial⟩
            · exact ⟨⟨rfl, rfl, rfl⟩, trivial⟩
            have hnx := hrec (i + 1)
            refine hnx ?_ ?_
            · show fstV _ _ _ = _
              rw [← hi, fst_drop hx, if_neg (by simp only [isV, decide_eq_true_eq]; intro q; exact hk q.2.2.2)]
            · show L.length - (i + 1) < L.length - i; omega
        · refine ar_ent (ent_reg 35 (.r (.bool false)) (by show AVal.r (.bool _) = _; exact eqB ht)) ?_
          have hk := of_decide_eq_false ht
          repeat (first | refine ar_skip rfl rfl rfl ?_ | refine ar_pure tOk rfl rfl rfl trivial ?_)
          refine ar_nil ?_
          refine ag_false rfl (by rfl) ?_
          refine ag_skip ?_
          refine ag_inBlock ?_
          refine ag_reg ?_
          refine pA ?_
          refine ar_pure tOk rfl rfl rfl ?_ ?_
          · unfold inI64; omega
          refine pA ?_
          refine ar_nil ?_
          refine ag_ent (ent_weak (g' := (stlf14_0 L key kind (i + 1)).1) (h' := (stlf14_0 L key kind (i + 1)).2) [0] rfl rfl rfl rfl ?_ ?_ rfl) ?_
          · exact ⟨⟨rfl, rfl⟩, ⟨rfl, rfl⟩, ⟨rfl, rfl⟩, ⟨rfl, rfl⟩, ⟨rfl, rfl⟩, ⟨rfl, by exact eqI (by omega)⟩, trivial⟩
          · exact ⟨⟨rfl, rfl, rfl⟩, trivial⟩
          have hnx := hrec (i + 1)
          refine hnx ?_ ?_
          · show fstV _ _ _ = _
            rw [← hi, fst_drop hx, if_neg (by simp only [isV, decide_eq_true_eq]; intro q; exact hk q.2.2.1)]
          · show L.length - (i + 1) < L.length - i; omega
      · refine ar_ent (ent_reg 25 (.r (.bool false)) (by show AVal.r (.bool _) = _; exact eqB ht)) ?_
        have hk := of_decide_eq_false ht
        repeat (first | refine ar_skip rfl rfl rfl ?_ | refine ar_pure tOk rfl rfl rfl trivial ?_)
        refine ar_nil ?_
        refine ag_false rfl (by rfl) ?_
        refine ag_skip ?_
        refine ag_inBlock ?_
        refine ag_reg ?_
        refine pA ?_
        refine ar_pure tOk rfl rfl rfl ?_ ?_
        · unfold inI64; omega
        refine pA ?_
        refine ar_nil ?_
        refine ag_ent (ent_weak (g' := (stlf14_0 L key kind (i + 1)).1) (h' := (stlf14_0 L key kind (i + 1)).2) [0] rfl rfl rfl rfl ?_ ?_ rfl) ?_
        · exact ⟨⟨rfl, rfl⟩, ⟨rfl, rfl⟩, ⟨rfl, rfl⟩, ⟨rfl, rfl⟩, ⟨rfl, rfl⟩, ⟨rfl, by exact eqI (by omega)⟩, trivial⟩
        · exact ⟨⟨rfl, rfl, rfl⟩, trivial⟩
        have hnx := hrec (i + 1)
        refine hnx ?_ ?_
        · show fstV _ _ _ = _
          rw [← hi, fst_drop hx, if_neg (by simp only [isV, decide_eq_true_eq]; intro q; exact hk q.2.1)]
        · show L.length - (i + 1) < L.length - i; omega
    · refine ar_ent (ent_reg 17 (.r (.bool false)) (by show AVal.r (.bool _) = _; exact eqB ht)) ?_
      have hk := of_decide_eq_false ht
      repeat (first | refine ar_skip rfl rfl rfl ?_ | refine ar_pure tOk rfl rfl rfl trivial ?_)
      refine ar_nil ?_
      refine ag_false rfl (by rfl) ?_
      refine ag_skip ?_
      refine ag_inBlock ?_
      refine ag_reg ?_
      refine pA ?_
      refine ar_pure tOk rfl rfl rfl ?_ ?_
      · unfold inI64; omega
      refine pA ?_
      refine ar_nil ?_
      refine ag_ent (ent_weak (g' := (stlf14_0 L key kind (i + 1)).1) (h' := (stlf14_0 L key kind (i + 1)).2) [0] rfl rfl rfl rfl ?_ ?_ rfl) ?_
      · exact ⟨⟨rfl, rfl⟩, ⟨rfl, rfl⟩, ⟨rfl, rfl⟩, ⟨rfl, rfl⟩, ⟨rfl, rfl⟩, ⟨rfl, by exact eqI (by omega)⟩, trivial⟩
      · exact ⟨⟨rfl, rfl, rfl⟩, trivial⟩
      have hnx := hrec (i + 1)
      refine hnx ?_ ?_
      · show fstV _ _ _ = _
        rw [← hi, fst_drop hx, if_neg (by simp only [isV, decide_eq_true_eq]; intro q; exact hk q.1)]
      · show L.length - (i + 1) < L.length - i; omega
  · intro h12
    rw [List.drop_eq_nil_of_le (by omega)] at hi
    refine ag_exit rfl ?_
    refine zB ?_
    refine ar_pure tOk rfl rfl rfl ?_ ?_
    · simp
    refine ar_store (h' := ⟨1, [(0, some (.mixed ((evC ev0).map .r))), (0, some (.mixed ((evC ev0).map .r)))], false⟩) (c := True) tOk (by kernel_rfl) rfl rfl trivial ?_
    refine pA ?_
    refine ar_nil ?_
    refine ag_ret tOk Try.func16 rfl rfl (by first | trivial | exact ⟨trivial, trivial⟩ | simp) ?_
    rw [← hi]; rfl
end Go.Proofs.Ytancdgbclbkpkaa

