/-
  WALKS: ots.closed, Public, Sign, Open, and the reference's. (Printed by gen.py out of w_oopen.py.)
-/
import Derived.Test.YtccdhgmkjakjkaaGreatOWalk
namespace Go.Proofs.YtccdhgmkjakjkaaGreat
open Go
set_option maxRecDepth 20000
set_option linter.unusedVariables false
set_option linter.unusedSimpArgs false
def wks (f : Int → Int) (P : List (List UInt8)) (D : List Int) : List (List UInt8) := List.zipWith (fun p d => wlk (stp (f d)) p) P D
def clo (P : List (List UInt8)) (D : List Int) : List UInt8 := sh8 (wks (fun d => 3 - d) P D).flatten
def bL (l : List (List UInt8)) : List RVal := l.map .bs
theorem wks_get {f : Int → Int} {P : List (List UInt8)} {D : List Int} {i : Nat} {p : List UInt8} {d : Int} (hp : P[i]? = some p) (hd : D[i]? = some d) : (wks f P D)[i]? = some (wlk (stp (f d)) p) := by
 simp [wks, List.getElem?_zipWith, hp, hd]
theorem wks_length {f : Int → Int} {P : List (List UInt8)} {D : List Int} (h : P.length = D.length) : (wks f P D).length = P.length := by simp [wks, h]
theorem wks_8 {f : Int → Int} {P : List (List UInt8)} {D : List Int} (h : ∀ p ∈ P, p.length = 8) : ∀ q ∈ wks f P D, q.length = 8 := by
 intro q hq
 obtain ⟨i, hi⟩ := List.mem_iff_getElem?.1 hq
 rw [wks, List.getElem?_zipWith] at hi
 split at hi
 ·rename_i p d hp hd
  simp only [Option.some.injEq] at hi
  subst hi
  exact wlk_length8 (h p (List.mem_of_getElem? hp)) _
 ·simp at hi
theorem flat8 : ∀ {L : List (List UInt8)}, (∀ p ∈ L, p.length = 8) → L.flatten.length = 8 * L.length
 | [], _ => rfl
 | p :: L, h => by
  rw [List.flatten_cons, List.length_append, flat8 (fun q hq => h q (by simp [hq])), h p (by simp), List.length_cons]; omega
theorem bL_next {f : Int → Int} {P : List (List UInt8)} {D : List Int} {i : Nat} {p : List UInt8} {d : Int} (hp : P[i]? = some p) (hd : D[i]? = some d) : bL ((wks f P D).take (i + 1)) = bL ((wks f P D).take i) ++ [.bs (wlk (stp (f d)) p)] := by
 rw [List.take_add_one, wks_get hp hd]; simp [bL]
theorem getI3 {α β : Type} {A : List α} {B : List β} {i n : Nat} (h : (i : Int) < (n : Int)) (ha : A.length = n) (hb : B.length = n) : ∃ a b, A[i]? = some a ∧ B[i]? = some b := ⟨A[i]'(by omega), B[i]'(by omega), by simp, by simp⟩
theorem roL_of {n : Nat} {l : List (List UInt8)} {acc : List RVal} (hl : acc = bL l) (h : l.length = n) : AVal.r (.ro n (cutA acc 0 (n * 1))) = roL l := by
 subst h
 rw [cutA_eq, List.drop_zero, Nat.mul_one, hl, List.take_of_length_le (by simp [bL])]
 rfl
def stClo_0 (P : List (List UInt8)) (D : List Int) : Nat × List RVal → Regs × Hp := fun ⟨i, acc⟩ => ([(8, roS P), (9, .r (.int .i64 15)), (1, roI D), (10, .r (.int .i64 ((i : Int)))), (5, accA acc)], accH acc)
def prClo_0 (P : List (List UInt8)) (D : List Int) : Nat × List RVal → Prop := fun ⟨i, acc⟩ => i ≤ 15 ∧ acc = bL ((wks (fun d => 3 - d) P D).take i)
theorem w_closed (P : List (List UInt8)) (D : List Int) (hP : P.length = 15) (hD : D.length = 15) (hP8 : ∀ p ∈ P, p.length = 8) (hDb : ∀ d ∈ D, 0 ≤ d ∧ d ≤ 3) : Pur Tryz.prog 53 [roS P, roI D] (.r (.str (clo P D))) := by
 have hwl : (wks (fun d => 3 - d) P D).length = 15 := by rw [wks_length (by omega), hP]
 have hfl := flat8 (wks_8 (f := fun d => 3 - d) (D := D) hP8)
 refine spec_of_go (N := 29) Tryz.func53 rfl (by decide) rfl rfl ?_
 refine zB ?_
 refine pG ?_
 refine pF ?_
 refine zB ?_
 iterate 2 refine pA ?_
 refine pE ?_
 refine ag_block ?_
 refine ag_loopS (stClo_0 P D) (prClo_0 P D) (fun ⟨i, acc⟩ => 15 - i) (0, []) (ent_weak [] rfl rfl rfl rfl ?_ ?_ rfl) (show prClo_0 P D (0, []) from ?_) ?_
 ·exact ⟨⟨rfl, rfl⟩, ⟨rfl, by exact eqI (by omega)⟩, ⟨rfl, rfl⟩, ⟨rfl, rfl⟩, ⟨rfl, rfl⟩, trivial⟩
 ·trivial
 ·exact ⟨Nat.zero_le _, by rfl⟩
 rintro ⟨i, acc⟩ hp hrec
 cases acc with
 | nil =>
  obtain ⟨hi, hacc⟩ : _ := hp
  refine ag_ent (ent_weak (g' := [(8, roS P), (9, .r (.int .i64 15)), (1, roI D), (10, .r (.int .i64 ((i : Int)))), (5, .r .nil)]) (h' := ⟨0, [], false⟩) [] rfl rfl rfl rfl ?_ ?_ rfl) ?_
  ·exact ⟨⟨rfl, rfl⟩, ⟨rfl, rfl⟩, ⟨rfl, rfl⟩, ⟨rfl, rfl⟩, ⟨rfl, rfl⟩, trivial⟩
  ·trivial
  refine zB ?_
  refine pF ?_
  refine ag_if rfl ?_ ?_
  ·intro h11
   obtain ⟨p, d, hp, hd⟩ := getI3 (n := 15) (by omega) hP hD
   have hpl := hP8 p (memI hp)
   have hdb := hDb d (memI hd)
   refine sS ?_
   refine bX ?_
   refine pA ?_
   refine pC ?_ ?_
   ·refine ⟨?_, ?_⟩ <;> first | omega | exact ne_mp hp | (refine ⟨?_, ?_⟩ <;> omega)
   refine ar_loadAs tOk (.r (.str p)) rfl rfl rfl rfl rfl rfl rfl (.inl ⟨rfl, by simp [Body.cells, mulz_eq, sL, hp]⟩) ?_
   refine pA ?_
   refine pE ?_
   refine ag_reg ?_
   iterate 4 refine pA ?_
   refine pC ?_ ?_
   ·refine ⟨?_, ?_⟩ <;> first | omega | exact ne_mp hd | (refine ⟨?_, ?_⟩ <;> omega)
   refine ar_loadAs tOk (.r (.int .i64 d)) rfl rfl rfl rfl rfl rfl rfl (.inl ⟨rfl, by simp [Body.cells, mulz_eq, iL, hd]⟩) ?_
   refine pC ?_ ?_
   ·unfold inI64; omega
   refine ar_pur (w_Walk p (3 - d) (by omega)) rfl rfl rfl rfl rfl rfl rfl ?_
   refine ar_qd rfl (qop_strBytes tOk rfl) rfl rfl rfl rfl ?_
   refine ar_qd rfl (qop_buildRo tOk rfl ?_ rfl) rfl rfl rfl rfl ?_
   ·repeat any_goals (first | trivial | decide | omega | (simp; done) | (rw [wu8]; omega) | refine ⟨?_, ?_⟩)
   refine pP ?_ ?_
   ·refine ⟨⟨?_, ?_, ?_⟩, ⟨?_, ?_⟩, ⟨?_, ?_⟩, ?_⟩ <;> first | trivial | omega | (simp; done) | (simp; omega)
   refine pE ?_
   refine iR ?_
   refine pC ?_ ?_
   ·unfold inI64; omega
   refine pE ?_
   refine ag_ent (ent_weak (g' := (stClo_0 P D (i + 1, [.bs (wlk (stp (3 - d)) p)])).1) (h' := (stClo_0 P D (i + 1, [.bs (wlk (stp (3 - d)) p)])).2) [0] rfl rfl rfl rfl ?_ ?_ rfl) ?_
   ·exact ⟨⟨rfl, rfl⟩, ⟨rfl, rfl⟩, ⟨rfl, rfl⟩, ⟨rfl, by exact eqI (by omega)⟩, ⟨rfl, rfl⟩, trivial⟩
   ·exact ⟨⟨rfl, rfl, rfl⟩, trivial⟩
   have hnx := hrec (i + 1, [.bs (wlk (stp (3 - d)) p)])
   refine hnx ?_ ?_
   ·exact ⟨by omega, by rw [bL_next hp hd, ← hacc]; try rfl⟩
   ·show 15 - (i + 1) < 15 - i; omega
  ·intro h11
   exfalso
   have := congrArg List.length hacc
   simp [bL, hwl] at this
   omega
 | cons a l =>
  obtain ⟨hi, hacc⟩ : _ := hp
  refine ag_ent (ent_weak (g' := [(8, roS P), (9, .r (.int .i64 15)), (1, roI D), (10, .r (.int .i64 ((i : Int)))), (5, .sl 0 0 (l.length + 1) 1)]) (h' := ⟨1, [(0, some (.plain (a :: l)))], false⟩) [0] rfl rfl rfl rfl ?_ ?_ rfl) ?_
  ·exact ⟨⟨rfl, rfl⟩, ⟨rfl, rfl⟩, ⟨rfl, rfl⟩, ⟨rfl, rfl⟩, ⟨rfl, rfl⟩, trivial⟩
  ·exact ⟨⟨rfl, rfl, rfl⟩, trivial⟩
  have hln := congrArg List.length hacc
  simp only [bL, List.length_map, List.length_cons, List.length_take] at hln
  refine zB ?_
  refine pF ?_
  refine ag_if rfl ?_ ?_
  ·intro h11
   obtain ⟨p, d, hp, hd⟩ := getI3 (n := 15) (by omega) hP hD
   have hpl := hP8 p (memI hp)
   have hdb := hDb d (memI hd)
   refine sS ?_
   refine bX ?_
   refine pA ?_
   refine pC ?_ ?_
   ·refine ⟨?_, ?_⟩ <;> first | omega | exact ne_mp hp | (refine ⟨?_, ?_⟩ <;> omega)
   refine ar_loadAs tOk (.r (.str p)) rfl rfl rfl rfl rfl rfl rfl (.inl ⟨rfl, by simp [Body.cells, mulz_eq, sL, hp]⟩) ?_
   refine pA ?_
   refine pE ?_
   refine ag_reg ?_
   iterate 4 refine pA ?_
   refine pC ?_ ?_
   ·refine ⟨?_, ?_⟩ <;> first | omega | exact ne_mp hd | (refine ⟨?_, ?_⟩ <;> omega)
   refine ar_loadAs tOk (.r (.int .i64 d)) rfl rfl rfl rfl rfl rfl rfl (.inl ⟨rfl, by simp [Body.cells, mulz_eq, iL, hd]⟩) ?_
   refine pC ?_ ?_
   ·unfold inI64; omega
   refine ar_pur (w_Walk p (3 - d) (by omega)) rfl rfl rfl rfl rfl rfl rfl ?_
   refine ar_qd rfl (qop_strBytes tOk rfl) rfl rfl rfl rfl ?_
   refine ar_qd rfl (qop_buildRo tOk rfl ?_ rfl) rfl rfl rfl rfl ?_
   ·repeat any_goals (first | trivial | decide | omega | (simp; done) | (rw [wu8]; omega) | refine ⟨?_, ?_⟩)
   refine pP ?_ ?_
   ·refine ⟨⟨?_, ?_, ?_⟩, ⟨?_, ?_⟩, ⟨?_, ?_⟩, ?_⟩ <;> first | trivial | omega | (simp; done) | (simp; omega)
   refine pE ?_
   refine iR ?_
   refine pC ?_ ?_
   ·unfold inI64; omega
   refine pE ?_
   refine ag_ent (ent_weak (g' := (stClo_0 P D (i + 1, a :: l ++ [.bs (wlk (stp (3 - d)) p)])).1) (h' := (stClo_0 P D (i + 1, a :: l ++ [.bs (wlk (stp (3 - d)) p)])).2) [1] rfl rfl rfl rfl ?_ ?_ rfl) ?_
   ·exact ⟨⟨rfl, rfl⟩, ⟨rfl, rfl⟩, ⟨rfl, rfl⟩, ⟨rfl, by exact eqI (by omega)⟩, ⟨rfl, by exact eqSl (by simp)⟩, trivial⟩
   ·exact ⟨⟨rfl, rfl, by exact eqPl (by simp [cutA_eq])⟩, trivial⟩
   have hnx := hrec (i + 1, a :: l ++ [.bs (wlk (stp (3 - d)) p)])
   refine hnx ?_ ?_
   ·exact ⟨by omega, by rw [bL_next hp hd, ← hacc]; try rfl⟩
   ·show 15 - (i + 1) < 15 - i; omega
  ·intro h11
   obtain rfl : i = 15 := by omega
   rw [List.take_of_length_le (by omega)] at hacc
   refine ag_exit rfl ?_
   refine zB ?_
   refine pA ?_
   have hl2 := congrArg List.length hacc
   simp only [bL, List.length_map, List.length_cons, hwl] at hl2
   refine ar_ent (ent_freeze 27 rfl rfl rfl trivial) ?_
   refine ar_ent (ent_reg 27 (roL (wks (fun d => 3 - d) P D)) (by show AVal.r (.ro _ _) = _; rw [hl2]; exact roL_of hacc hwl)) ?_
   refine ar_pur (w_Short (wks (fun d => 3 - d) P D) (by omega) (by omega)) rfl rfl rfl rfl rfl rfl rfl ?_
   refine pE ?_
   refine ag_ret tOk Tryz.func53 rfl rfl (by simp) ?_
   rfl
def pubL (seed : List UInt8) (leaf : Int) : List UInt8 := clo (begL seed leaf 15) (List.replicate 15 0)
def opn (text : List UInt8) (P : List (List UInt8)) : List UInt8 := if P.length = 15 ∧ ∀ p ∈ P, p.length = 8 then clo P (digs text) else []
theorem rep_bound : ∀ d ∈ List.replicate 15 (0 : Int), 0 ≤ d ∧ d ≤ 3 := by
 intro d hd
 have := List.eq_of_mem_replicate hd
 omega
theorem w_Public (seed : List UInt8) (leaf : Int) (hs : seed.length ≤ 140737488352000) : Pur Tryz.prog 35 [.r (.str seed), .r (.int .i64 leaf)] (.r (.str (pubL seed leaf))) := by
 refine spec_of_go (N := 10) Tryz.func35 rfl (by decide) rfl rfl ?_
 refine zB ?_
 refine pF ?_
 refine qD ?_
 iterate 2 refine qA ?_
 refine aq_pur (w_BeginR seed leaf hs) rfl rfl rfl rfl rfl rfl rfl ?_
 refine aq_qd (fun _ => qop_makeRo tOk rfl ?_ rfl) rfl rfl rfl rfl ?_
 ·refine ⟨?_, rfl⟩
  exact ⟨⟨⟨by decide, by decide⟩, rfl, rfl, by decide⟩, rfl⟩
 refine aq_pur (w_closed (begL seed leaf 15) (List.replicate 15 0) (begL_length _ _ _) rfl (begL_8 _ _ _) rep_bound) rfl rfl rfl rfl rfl rfl rfl ?_
 refine qE ?_
 refine ag_ret tOk Tryz.func35 rfl rfl (by simp) ?_
 rfl
theorem w_odd (s : List UInt8) : Pur Tryz.prog 84 [.r (.str s)] (.r (.bool (!decide (s.length = 8)))) := by
 refine spec_of_go (N := 6) Tryz.func84 rfl (by decide) rfl rfl ?_
 refine zB ?_
 refine pG ?_
 iterate 3 refine pA ?_
 refine pE ?_
 refine ag_ret tOk Tryz.func84 rfl rfl (by simp) ?_
 exact eqB (by simp; omega)
def idxF (i : Nat) : List (List UInt8) → Int
 | [] => -1
 | p :: r => bif decide (p.length = 8) then idxF (i + 1) r else (i : Int)
theorem idxF_at {P : List (List UInt8)} {i : Nat} {p : List UInt8} (hp : P[i]? = some p) : idxF i (P.drop i) = bif decide (p.length = 8) then idxF (i + 1) (P.drop (i + 1)) else (i : Int) := by
 obtain ⟨hlt, he⟩ := List.getElem?_eq_some_iff.1 hp
 rw [List.drop_eq_getElem_cons hlt, he]
 rfl
theorem idxF_ge : ∀ (P : List (List UInt8)) (i : Nat), decide (idxF i P ≥ 0) = !decide (∀ p ∈ P, p.length = 8)
 | [], i => by simp [idxF]
 | p :: P, i => by
  have ih := idxF_ge P (i + 1)
  simp only [idxF]
  by_cases h : p.length = 8
  ·simp only [h, decide_true, cond_true, ih]
   simp [h]
  ·simp only [h, decide_false, cond_false]
   simp [h]
def stIxF_0 (P : List (List UInt8)) : Nat → Regs × Hp := fun i => ([(0, roS P), (1, .func 84 []), (7, .r (.int .i64 (P.length : Int))), (8, .r (.int .i64 (i : Int)))], ⟨0, [], false⟩)
def prIxF_0 (P : List (List UInt8)) : Nat → Prop := fun i => idxF i (P.drop i) = idxF 0 P
theorem w_IndexF (P : List (List UInt8)) (hP : P.length ≤ 9223372036854775807) : Pur Tryz.prog 95 [roS P, .func 84 []] (.r (.int .i64 (idxF 0 P))) := by
 refine spec_of_go (N := 19) Tryz.func95 rfl (by decide) rfl rfl ?_
 refine zB ?_
 refine pF ?_
 refine zB ?_
 iterate 2 refine pA ?_
 refine pE ?_
 refine ag_block ?_
 refine ag_loopS (stIxF_0 P) (prIxF_0 P) (fun (i : Nat) => P.length - i) 0 (ent_weak [] rfl rfl rfl rfl ?_ ?_ rfl) (show prIxF_0 P 0 from ?_) ?_
 ·exact ⟨⟨rfl, rfl⟩, ⟨rfl, rfl⟩, ⟨rfl, rfl⟩, ⟨rfl, rfl⟩, trivial⟩
 ·trivial
 ·exact rfl
 rintro i hp0 hrec
 have hx : idxF i (P.drop i) = idxF 0 P := hp0
 refine zB ?_
 refine pF ?_
 refine ag_if rfl ?_ ?_
 ·intro h9
  obtain ⟨p, hp⟩ := getI (L := P) (i := i) (by omega)
  rw [idxF_at hp] at hx
  refine sS ?_
  refine bX ?_
  refine pA ?_
  refine pG ?_
  iterate 3 refine pA ?_
  refine pC ?_ ?_
  ·refine ⟨?_, ?_⟩ <;> first | omega | exact ne_mp hp | (refine ⟨?_, ?_⟩ <;> omega)
  refine ar_loadAs tOk (.r (.str p)) rfl rfl rfl rfl rfl rfl rfl (.inl ⟨rfl, by simp [Body.cells, mulz_eq, sL, hp]⟩) ?_
  refine ar_pur (w_odd p) rfl rfl rfl rfl rfl rfl rfl ?_
  refine ar_nil ?_
  refine ag_cond rfl ?_ ?_
  ·intro h16
   have h8 : decide (p.length = 8) = false := by simpa using h16
   rw [h8] at hx
   refine zB ?_
   refine pA ?_
   refine pE ?_
   refine ag_ret tOk Tryz.func95 rfl rfl (by simp) ?_
   exact eqI hx
  ·intro h16
   have h8 : decide (p.length = 8) = true := by simpa using h16
   rw [h8] at hx
   refine ag_skip ?_
   refine iR ?_
   refine pC ?_ ?_
   ·unfold inI64; omega
   refine pE ?_
   refine ag_ent (ent_weak (g' := (stIxF_0 P (i + 1)).1) (h' := (stIxF_0 P (i + 1)).2) [] rfl rfl rfl rfl ?_ ?_ rfl) ?_
   ·exact ⟨⟨rfl, rfl⟩, ⟨rfl, rfl⟩, ⟨rfl, rfl⟩, ⟨rfl, by exact eqI (by omega)⟩, trivial⟩
   ·trivial
   have hnx := hrec (i + 1)
   refine hnx ?_ ?_
   ·exact hx
   ·show P.length - (i + 1) < P.length - i; omega
 ·intro h9
  rw [List.drop_eq_nil_of_le (by omega)] at hx
  refine ag_exit rfl ?_
  refine zB ?_
  refine pE ?_
  refine ag_ret tOk Tryz.func95 rfl rfl (by simp) ?_
  exact eqI hx
theorem w_ContF (P : List (List UInt8)) (hP : P.length ≤ 9223372036854775807) : Pur Tryz.prog 83 [roS P, .func 84 []] (.r (.bool (!decide (∀ p ∈ P, p.length = 8)))) := by
 refine spec_of_go (N := 9) Tryz.func83 rfl (by decide) rfl rfl ?_
 refine zB ?_
 refine pG ?_
 iterate 2 refine pA ?_
 refine ar_pur (w_IndexF P hP) rfl rfl rfl rfl rfl rfl rfl ?_
 refine pA ?_
 refine pE ?_
 refine ag_ret tOk Tryz.func83 rfl rfl (by simp) ?_
 exact eqB (idxF_ge P 0)
theorem w_Open (text : List UInt8) (P : List (List UInt8)) (hb : text.length ≤ 140737488355000) (hP : P.length ≤ 9223372036854775807) : Pur Tryz.prog 68 [.r (.bs text), roS P] (.r (.str (opn text P))) := by
 refine spec_of_go (N := 18) Tryz.func68 rfl (by decide) rfl rfl ?_
 refine zB ?_
 refine pG ?_
 refine pA ?_
 refine ar_pur (w_ContF P hP) rfl rfl rfl rfl rfl rfl rfl ?_
 refine pF ?_
 refine zB ?_
 iterate 4 refine pA ?_
 refine ar_guard (t := decide (¬ (P.length : Int) = 15)) (fun ht => ?_) (fun ht => ?_)
 ·refine ar_ent (ent_reg 11 (.r (.bool true)) (by show AVal.r (.bool _) = _; rw [ht])) ?_
  refine ar_skip rfl rfl rfl ?_
  refine pE ?_
  refine vB ?_
  refine zB ?_
  refine pE ?_
  refine ag_ret tOk Tryz.func68 rfl rfl (by simp) ?_
  exact eqStr (by rw [opn, if_neg (fun e => by have := of_decide_eq_true ht; omega)])
 ·refine ar_ent (ent_reg 11 (.r (.bool false)) (by show AVal.r (.bool _) = _; rw [ht])) ?_
  refine pA ?_
  refine pE ?_
  refine ag_cond rfl ?_ ?_
  ·intro h13
   have h88 : ¬ ∀ p ∈ P, p.length = 8 := by simpa using h13
   refine zB ?_
   refine pE ?_
   refine ag_ret tOk Tryz.func68 rfl rfl (by simp) ?_
   exact eqStr (by rw [opn, if_neg (fun e => h88 e.2)])
  ·intro h13
   have h15 : P.length = 15 := by have := of_decide_eq_false ht; omega
   have h88 : ∀ p ∈ P, p.length = 8 := by simpa using h13
   refine ag_skip ?_
   refine zB ?_
   iterate 2 refine pA ?_
   refine ar_pur (w_DigitsR text hb) rfl rfl rfl rfl rfl rfl rfl ?_
   refine ar_pur (w_closed P (digs text) h15 (digs_length _) h88 (digs_bound _)) rfl rfl rfl rfl rfl rfl rfl ?_
   refine pE ?_
   refine ag_ret tOk Tryz.func68 rfl rfl (by simp) ?_
   exact eqStr (by rw [opn, if_pos ⟨h15, h88⟩])
theorem opn_no {text : List UInt8} {P : List (List UInt8)} {i : Nat} {p : List UInt8} (hp : P[i]? = some p) (h : ¬ p.length = 8) : opn text P = [] := by
 rw [opn, if_neg (fun e => h (e.2 p (List.mem_of_getElem? hp)))]
theorem all8 {P : List (List UInt8)} {n : Nat} (hn : P.length = n) (h : ∀ j p, j < n → P[j]? = some p → p.length = 8) : ∀ p ∈ P, p.length = 8 := by
 intro p hp
 obtain ⟨j, hj⟩ := List.mem_iff_getElem?.1 hp
 obtain ⟨hlt, _⟩ := List.getElem?_eq_some_iff.1 hj
 exact h j p (by omega) hj
theorem flat8' {f : Int → Int} {P : List (List UInt8)} {D : List Int} {i : Nat} (h : ∀ j p, j < i → P[j]? = some p → p.length = 8) : ∀ (W : List (List UInt8)), W = wks f P D → (W.take i).flatten.length ≤ 8 * i := by
 rintro W rfl
 have : ∀ q ∈ (wks f P D).take i, q.length = 8 := by
  intro q hq
  obtain ⟨j, hj⟩ := List.mem_iff_getElem?.1 hq
  rw [List.getElem?_take] at hj
  split at hj
  ·rename_i hlt
   rw [wks, List.getElem?_zipWith] at hj
   split at hj
   ·rename_i p d hp hd
    simp only [Option.some.injEq] at hj
    subst hj
    exact wlk_length8 (h j p hlt hp) _
   ·simp at hj
  ·simp at hj
 rw [flat8 this, List.length_take]
 omega
def strOpn_0 (P : List (List UInt8)) (text : List UInt8) : Nat → Regs × Hp := fun i => ([(1, roS P), (5, roI (digs text)), (6, .r (.str ((wks (fun d => 3 - d) P (digs text)).take i).flatten)), (7, .r (.int .i64 (i : Int)))], ⟨0, [], false⟩)
def prrOpn_0 (P : List (List UInt8)) (text : List UInt8) : Nat → Prop := fun i => i ≤ 15 ∧ ∀ j p, j < i → P[j]? = some p → p.length = 8
theorem w_rOtsOpen (text : List UInt8) (P : List (List UInt8)) (hb : text.length ≤ 140737488355000) (hP : P.length ≤ 9223372036854775807) : Pur Tryz.prog 42 [.r (.bs text), roS P] (.r (.str (opn text P))) := by
 have hD := digs_length text
 refine spec_of_go (N := 37) Tryz.func42 rfl (by decide) rfl rfl ?_
 refine zB ?_
 refine pF ?_
 refine zB ?_
 iterate 2 refine pA ?_
 refine pE ?_
 refine ag_if rfl ?_ ?_
 ·intro h10
  refine zB ?_
  refine pE ?_
  refine ag_ret tOk Tryz.func42 rfl rfl (by simp) ?_
  exact eqStr (by rw [opn, if_neg (fun e => by omega)])
 ·intro h10
  have h15 : P.length = 15 := by omega
  refine ag_skip ?_
  refine zB ?_
  refine pA ?_
  refine ar_pur (w_rDigitsR text hb) rfl rfl rfl rfl rfl rfl rfl ?_
  refine pG ?_
  refine pF ?_
  refine zB ?_
  refine pE ?_
  refine ag_block ?_
  refine ag_loopS (strOpn_0 P text) (prrOpn_0 P text) (fun (i : Nat) => 15 - i) 0 (ent_weak [] rfl rfl rfl rfl ?_ ?_ rfl) (show prrOpn_0 P text 0 from ?_) ?_
  ·exact ⟨⟨rfl, rfl⟩, ⟨rfl, rfl⟩, ⟨rfl, rfl⟩, ⟨rfl, rfl⟩, trivial⟩
  ·trivial
  ·exact ⟨Nat.zero_le _, fun j p h => absurd h (Nat.not_lt_zero _)⟩
  rintro i hp0 hrec
  obtain ⟨hi, hq⟩ : i ≤ 15 ∧ ∀ j p, j < i → P[j]? = some p → p.length = 8 := hp0
  refine sZ ?_
  refine pA ?_
  refine pE ?_
  refine ag_if rfl ?_ ?_
  ·intro h14
   obtain ⟨p, d, hp, hd⟩ := getI3 (n := 15) (by omega) h15 hD
   have hdb := digs_bound text d (memI hd)
   refine sS ?_
   refine ag_block ?_
   refine sZ ?_
   iterate 2 refine pA ?_
   refine pC ?_ ?_
   ·refine ⟨?_, ?_⟩ <;> first | omega | exact ne_mp hp | (refine ⟨?_, ?_⟩ <;> omega)
   refine ar_loadAs tOk (.r (.str p)) rfl rfl rfl rfl rfl rfl rfl (.inl ⟨rfl, by simp [Body.cells, mulz_eq, sL, hp]⟩) ?_
   refine pA ?_
   refine pE ?_
   refine ag_if rfl ?_ ?_
   ·intro h22
    have hp8 : ¬ p.length = 8 := by omega
    refine zB ?_
    refine pE ?_
    refine ag_ret tOk Tryz.func42 rfl rfl (by simp) ?_
    exact eqStr (opn_no hp hp8).symm
   ·intro h22
    have hpl : p.length = 8 := by omega
    have hfl := flat8' (f := fun d => 3 - d) (D := digs text) hq _ rfl
    have hwl := wlk_length8 hpl (stp (3 - d))
    refine ag_skip ?_
    refine qD ?_
    iterate 3 refine qA ?_
    refine qB ?_ ?_
    ·refine ⟨?_, ?_⟩ <;> first | omega | exact ne_mp hp | (refine ⟨?_, ?_⟩ <;> omega)
    refine aq_loadAs tOk (.r (.str p)) rfl rfl rfl rfl (fun _ => rfl) rfl rfl (.inl ⟨rfl, by simp [Body.cells, mulz_eq, sL, hp]⟩) ?_
    iterate 2 refine qA ?_
    refine qB ?_ ?_
    ·refine ⟨?_, ?_⟩ <;> first | omega | exact ne_mp hd | (refine ⟨?_, ?_⟩ <;> omega)
    refine aq_loadAs tOk (.r (.int .i64 d)) rfl rfl rfl rfl (fun _ => rfl) rfl rfl (.inl ⟨rfl, by simp [Body.cells, mulz_eq, iL, hd]⟩) ?_
    refine qB ?_ ?_
    ·unfold inI64; omega
    refine aq_pur (w_rWalk p (3 - d) (by omega)) rfl rfl rfl rfl rfl rfl rfl ?_
    refine qB ?_ ?_
    ·omega
    refine qE ?_
    refine iR ?_
    refine pA ?_
    refine pC ?_ ?_
    ·unfold inI64; omega
    refine pE ?_
    refine ag_ent (ent_weak (g' := (strOpn_0 P text (i + 1)).1) (h' := (strOpn_0 P text (i + 1)).2) [] rfl rfl rfl rfl ?_ ?_ rfl) ?_
    ·exact ⟨⟨rfl, rfl⟩, ⟨rfl, rfl⟩, ⟨rfl, by exact eqStr (by rw [take_next (wks_get (f := fun d => 3 - d) hp hd)])⟩, ⟨rfl, by exact eqI (by omega)⟩, trivial⟩
    ·trivial
    have hnx := hrec (i + 1)
    refine hnx ?_ ?_
    ·refine ⟨by omega, fun j q hj hjq => ?_⟩
     rcases Nat.lt_succ_iff_lt_or_eq.1 hj with h | rfl
     ·exact hq j q h hjq
     ·rw [hp] at hjq; cases hjq; exact hpl
    ·show 15 - (i + 1) < 15 - i; omega
  ·intro h14
   obtain rfl : i = 15 := by omega
   have h88 := all8 h15 hq
   refine ag_exit rfl ?_
   refine zB ?_
   refine pA ?_
   refine ar_ent (ent_reg 35 (.r (.str ((wks (fun d => 3 - d) P (digs text)).flatten))) (by show AVal.r (.str _) = _; exact eqStr (by rw [List.take_of_length_le (by rw [wks_length (by omega)]; omega)]))) ?_
   refine ar_pur (w_rShort (wks (fun d => 3 - d) P (digs text)).flatten (by rw [flat8 (wks_8 h88), wks_length (by omega)]; omega)) rfl rfl rfl rfl rfl rfl rfl ?_
   refine pE ?_
   refine ag_ret tOk Tryz.func42 rfl rfl (by simp) ?_
   exact eqStr (by rw [opn, if_pos ⟨h15, h88⟩, clo])
end Go.Proofs.YtccdhgmkjakjkaaGreat
