/-
  WALKS: ots.closed, Public, Sign, Open, and the reference's. (Printed by gen.py out of w_oopen.py.)
-/
import Derived.Test.YtnodpljgcdkbkaaOWalk
namespace Go.Proofs.Ytnodpljgcdkbkaa
open Go
set_option maxRecDepth 20000
set_option linter.unusedVariables false
set_option linter.unusedSimpArgs false
/-- Every part walked so many steps. -/
def wks (f : Int → Int) (P : List (List UInt8)) (D : List Int) : List (List UInt8) := List.zipWith (fun p d => wlk (stp (f d)) p) P D
def clo (P : List (List UInt8)) (D : List Int) : List UInt8 := sh8 (wks (fun d => 3 - d) P D).flatten
def bL (l : List (List UInt8)) : List RVal := l.map .bs
theorem wks_get {f : Int → Int} {P : List (List UInt8)} {D : List Int} {i : Nat} {p : List UInt8} {d : Int} (hp : P[i]? = some p) (hd : D[i]? = some d) : (wks f P D)[i]? = some (wlk (stp (f d)) p) := by
  simp [wks, List.getElem?_zipWith, hp, hd]
theorem wks_length {f : Int → Int} {P : List (List UInt8)} {D : List Int} (h : P.length = D.length) : (wks f P D).length = P.length := by simp [wks, h]
theorem wks_8 {f : Int → Int} {P : List (List UInt8)} {D : List Int} (h : ∀ p ∈ P, p.length = 8) : ∀ q ∈ wks f P D, q.length = 8 := by
  intro q hq
  obtain ⟨i, hi⟩ := List.mem_iff_getElem?.1 hq
  rw [wks, List.getElem?_zipWith] at hi
  split at hi
  · rename_i p d hp hd
    simp only [Option.some.injEq] at hi
    subst hi
    exact wlk_length8 (h p (List.mem_of_getElem? hp)) _
  · simp at hi
theorem flat8 : ∀ {L : List (List UInt8)}, (∀ p ∈ L, p.length = 8) → L.flatten.length = 8 * L.length
  | [], _ => rfl
  | p :: L, h => by
    rw [List.flatten_cons, List.length_append, flat8 (fun q hq => h q (by simp [hq])), h p (by simp), List.length_cons]; omega
theorem bL_next {f : Int → Int} {P : List (List UInt8)} {D : List Int} {i : Nat} {p : List UInt8} {d : Int} (hp : P[i]? = some p) (hd : D[i]? = some d) : bL ((wks f P D).take (i + 1)) = bL ((wks f P D).take i) ++ [.bs (wlk (stp (f d)) p)] := by
  rw [List.take_add_one, wks_get hp hd]; simp [bL]
theorem getI3 {α β : Type} {A : List α} {B : List β} {i n : Nat} (h : (i : Int) < (n : Int)) (ha : A.length = n) (hb : B.length = n) : ∃ a b, A[i]? = some a ∧ B[i]? = some b := ⟨A[i]'(by omega), B[i]'(by omega), by simp, by simp⟩
theorem roL_of {n : Nat} {l : List (List UInt8)} {acc : List RVal} (hl : acc = bL l) (h : l.length = n) : AVal.r (.ro n (cutA acc 0 (n * 1))) = roL l := by
  subst h
  rw [cutA_eq, List.drop_zero, Nat.mul_one, hl, List.take_of_length_le (by simp [bL])]
  rfl
def stClo_0 (P : List (List UInt8)) (D : List Int) : Nat × List RVal → Regs × Hp := fun ⟨i, acc⟩ => ([(8, roS P), (9, .r (.int .i64 15)), (1, roI D), (10, .r (.int .i64 ((i : Int)))), (5, accA acc)], accH acc)
def prClo_0 (P : List (List UInt8)) (D : List Int) : Nat × List RVal → Prop := fun ⟨i, acc⟩ => i ≤ 15 ∧ acc = bL ((wks (fun d => 3 - d) P D).take i)
theorem w_closed (P : List (List UInt8)) (D : List Int) (hP : P.length = 15) (hD : D.length = 15) (hP8 : ∀ p ∈ P, p.length = 8) (hDb : ∀ d ∈ D, 0 ≤ d ∧ d ≤ 3) : Pur Try.prog 126 [roS P, roI D] (.r (.str (clo P D))) := by
  have hwl : (wks (fun d => 3 - d) P D).length = 15 := by rw [wks_length (by omega), hP]
  have hfl := flat8 (wks_8 (f := fun d => 3 - d) (D := D) hP8)
  refine spec_of_go (N := 29) Try.func126 rfl (by decide) rfl rfl ?_
  refine zB ?_
  refine pA ?_
  refine zC ?_
  refine pA ?_
  refine zA ?_
  refine zB ?_
  iterate 3 refine pA ?_
  refine ar_nil ?_
  refine ag_block ?_
  refine ag_loopS (stClo_0 P D) (prClo_0 P D) (fun ⟨i, acc⟩ => 15 - i) (0, []) (ent_weak [] rfl rfl rfl rfl ?_ ?_ rfl) (show prClo_0 P D (0, []) from ?_) ?_
  · exact ⟨⟨rfl, rfl⟩, ⟨rfl, by exact eqI (by omega)⟩, ⟨rfl, rfl⟩, ⟨rfl, rfl⟩, ⟨rfl, rfl⟩, trivial⟩
  · trivial
  · exact ⟨Nat.zero_le _, by rfl⟩
  rintro ⟨i, acc⟩ hp hrec
  cases acc with
  | nil =>
    obtain ⟨hi, hacc⟩ : _ := hp
    refine ag_ent (ent_weak (g' := [(8, roS P), (9, .r (.int .i64 15)), (1, roI D), (10, .r (.int .i64 ((i : Int)))), (5, .r .nil)]) (h' := ⟨0, [], false⟩) [] rfl rfl rfl rfl ?_ ?_ rfl) ?_
    · exact ⟨⟨rfl, rfl⟩, ⟨rfl, rfl⟩, ⟨rfl, rfl⟩, ⟨rfl, rfl⟩, ⟨rfl, rfl⟩, trivial⟩
    · trivial
    refine zB ?_
    refine pA ?_
    refine zA ?_
    refine ag_if rfl ?_ ?_
    · intro h11
      obtain ⟨p, d, hp, hd⟩ := getI3 (n := 15) (by omega) hP hD
      have hpl := hP8 p (memI hp)
      have hdb := hDb d (memI hd)
      refine ag_skip ?_
      refine ag_seq ?_
      refine ag_block ?_
      refine zB ?_
      refine pA ?_
      refine ar_pure tOk rfl rfl rfl ?_ ?_
      · refine ⟨?_, ?_⟩ <;> first | omega | exact ne_mp hp | (refine ⟨?_, ?_⟩ <;> omega)
      refine ar_loadAs tOk (.r (.str p)) rfl rfl rfl rfl rfl rfl rfl (.inl ⟨rfl, by simp [Body.cells, mulz_eq, sL, hp]⟩) ?_
      iterate 2 refine pA ?_
      refine ar_nil ?_
      refine ag_reg ?_
      iterate 4 refine pA ?_
      refine ar_pure tOk rfl rfl rfl ?_ ?_
      · refine ⟨?_, ?_⟩ <;> first | omega | exact ne_mp hd | (refine ⟨?_, ?_⟩ <;> omega)
      refine ar_loadAs tOk (.r (.int .i64 d)) rfl rfl rfl rfl rfl rfl rfl (.inl ⟨rfl, by simp [Body.cells, mulz_eq, iL, hd]⟩) ?_
      refine ar_pure tOk rfl rfl rfl ?_ ?_
      · unfold inI64; omega
      refine ar_pur (w_Walk p (3 - d) (by omega)) rfl rfl rfl rfl rfl rfl rfl ?_
      refine ar_qd rfl (qop_strBytes tOk rfl) rfl rfl rfl rfl ?_
      refine ar_qd rfl (qop_buildRo tOk rfl ?_ rfl) rfl rfl rfl rfl ?_
      · repeat any_goals (first | trivial | decide | omega | (simp; done) | (rw [wu8]; omega) | refine ⟨?_, ?_⟩)
      refine ar_app tOk rfl rfl rfl ?_ ?_
      · refine ⟨⟨?_, ?_, ?_⟩, ⟨?_, ?_⟩, ⟨?_, ?_⟩, ?_⟩ <;> first | trivial | omega | (simp; done) | (simp; omega)
      refine pA ?_
      refine ar_nil ?_
      refine ag_inBlock ?_
      refine ag_reg ?_
      refine ar_pure tOk rfl rfl rfl ?_ ?_
      · unfold inI64; omega
      refine pA ?_
      refine ar_nil ?_
      refine ag_ent (ent_weak (g' := (stClo_0 P D (i + 1, [.bs (wlk (stp (3 - d)) p)])).1) (h' := (stClo_0 P D (i + 1, [.bs (wlk (stp (3 - d)) p)])).2) [0] rfl rfl rfl rfl ?_ ?_ rfl) ?_
      · exact ⟨⟨rfl, rfl⟩, ⟨rfl, rfl⟩, ⟨rfl, rfl⟩, ⟨rfl, by exact eqI (by omega)⟩, ⟨rfl, rfl⟩, trivial⟩
      · exact ⟨⟨rfl, rfl, rfl⟩, trivial⟩
      have hnx := hrec (i + 1, [.bs (wlk (stp (3 - d)) p)])
      refine hnx ?_ ?_
      · exact ⟨by omega, by rw [bL_next hp hd, ← hacc]; try rfl⟩
      · show 15 - (i + 1) < 15 - i; omega
    · intro h11
      exfalso
      have := congrArg List.length hacc
      simp [bL, hwl] at this
      omega
  | cons a l =>
    obtain ⟨hi, hacc⟩ : _ := hp
    refine ag_ent (ent_weak (g' := [(8, roS P), (9, .r (.int .i64 15)), (1, roI D), (10, .r (.int .i64 ((i : Int)))), (5, .sl 0 0 (l.length + 1) 1)]) (h' := ⟨1, [(0, some (.plain (a :: l)))], false⟩) [0] rfl rfl rfl rfl ?_ ?_ rfl) ?_
    · exact ⟨⟨rfl, rfl⟩, ⟨rfl, rfl⟩, ⟨rfl, rfl⟩, ⟨rfl, rfl⟩, ⟨rfl, rfl⟩, trivial⟩
    · exact ⟨⟨rfl, rfl, rfl⟩, trivial⟩
    have hln := congrArg List.length hacc
    simp only [bL, List.length_map, List.length_cons, List.length_take] at hln
    refine zB ?_
    refine pA ?_
    refine zA ?_
    refine ag_if rfl ?_ ?_
    · intro h11
      obtain ⟨p, d, hp, hd⟩ := getI3 (n := 15) (by omega) hP hD
      have hpl := hP8 p (memI hp)
      have hdb := hDb d (memI hd)
      refine ag_skip ?_
      refine ag_seq ?_
      refine ag_block ?_
      refine zB ?_
      refine pA ?_
      refine ar_pure tOk rfl rfl rfl ?_ ?_
      · refine ⟨?_, ?_⟩ <;> first | omega | exact ne_mp hp | (refine ⟨?_, ?_⟩ <;> omega)
      refine ar_loadAs tOk (.r (.str p)) rfl rfl rfl rfl rfl rfl rfl (.inl ⟨rfl, by simp [Body.cells, mulz_eq, sL, hp]⟩) ?_
      iterate 2 refine pA ?_
      refine ar_nil ?_
      refine ag_reg ?_
      iterate 4 refine pA ?_
      refine ar_pure tOk rfl rfl rfl ?_ ?_
      · refine ⟨?_, ?_⟩ <;> first | omega | exact ne_mp hd | (refine ⟨?_, ?_⟩ <;> omega)
      refine ar_loadAs tOk (.r (.int .i64 d)) rfl rfl rfl rfl rfl rfl rfl (.inl ⟨rfl, by simp [Body.cells, mulz_eq, iL, hd]⟩) ?_
      refine ar_pure tOk rfl rfl rfl ?_ ?_
      · unfold inI64; omega
      refine ar_pur (w_Walk p (3 - d) (by omega)) rfl rfl rfl rfl rfl rfl rfl ?_
      refine ar_qd rfl (qop_strBytes tOk rfl) rfl rfl rfl rfl ?_
      refine ar_qd rfl (qop_buildRo tOk rfl ?_ rfl) rfl rfl rfl rfl ?_
      · repeat any_goals (first | trivial | decide | omega | (simp; done) | (rw [wu8]; omega) | refine ⟨?_, ?_⟩)
      refine ar_app tOk rfl rfl rfl ?_ ?_
      · refine ⟨⟨?_, ?_, ?_⟩, ⟨?_, ?_⟩, ⟨?_, ?_⟩, ?_⟩ <;> first | trivial | omega | (simp; done) | (simp; omega)
      refine pA ?_
      refine ar_nil ?_
      refine ag_inBlock ?_
      refine ag_reg ?_
      refine ar_pure tOk rfl rfl rfl ?_ ?_
      · unfold inI64; omega
      refine pA ?_
      refine ar_nil ?_
      refine ag_ent (ent_weak (g' := (stClo_0 P D (i + 1, a :: l ++ [.bs (wlk (stp (3 - d)) p)])).1) (h' := (stClo_0 P D (i + 1, a :: l ++ [.bs (wlk (stp (3 - d)) p)])).2) [1] rfl rfl rfl rfl ?_ ?_ rfl) ?_
      · exact ⟨⟨rfl, rfl⟩, ⟨rfl, rfl⟩, ⟨rfl, rfl⟩, ⟨rfl, by exact eqI (by omega)⟩, ⟨rfl, by exact eqSl (by simp)⟩, trivial⟩
      · exact ⟨⟨rfl, rfl, by exact eqPl (by simp [cutA_eq])⟩, trivial⟩
      have hnx := hrec (i + 1, a :: l ++ [.bs (wlk (stp (3 - d)) p)])
      refine hnx ?_ ?_
      · exact ⟨by omega, by rw [bL_next hp hd, ← hacc]; try rfl⟩
      · show 15 - (i + 1) < 15 - i; omega
    · intro h11
      obtain rfl : i = 15 := by omega
      rw [List.take_of_length_le (by omega)] at hacc
      refine ag_exit rfl ?_
      refine zB ?_
      refine pA ?_
      have hl2 := congrArg List.length hacc
      simp only [bL, List.length_map, List.length_cons, hwl] at hl2
      refine ar_ent (ent_freeze 27 rfl rfl rfl trivial) ?_
      refine ar_ent (ent_reg 27 (roL (wks (fun d => 3 - d) P D)) (by show AVal.r (.ro _ _) = _; rw [hl2]; exact roL_of hacc hwl)) ?_
      refine ar_pur (w_Short (wks (fun d => 3 - d) P D) (by omega) (by omega)) rfl rfl rfl rfl rfl rfl rfl ?_
      refine pA ?_
      refine ar_nil ?_
      refine ag_ret tOk Try.func126 rfl rfl (by simp) ?_
      rfl
/-- A leaf's public text, a signature's parts, what parts open to. -/
def pubL (seed : List UInt8) (leaf : Int) : List UInt8 := clo (begL seed leaf 15) (List.replicate 15 0)
def sgnL (seed : List UInt8) (leaf : Int) (text : List UInt8) : List (List UInt8) := wks (fun d => d) (begL seed leaf 15) (digs text)
def opn (text : List UInt8) (P : List (List UInt8)) : List UInt8 := if P.length = 15 ∧ ∀ p ∈ P, p.length = 8 then clo P (digs text) else []
theorem rep_bound : ∀ d ∈ List.replicate 15 (0 : Int), 0 ≤ d ∧ d ≤ 3 := by
  intro d hd
  have := List.eq_of_mem_replicate hd
  omega
theorem sgn_length (seed : List UInt8) (leaf : Int) (text : List UInt8) : (sgnL seed leaf text).length = 15 := by
  rw [sgnL, wks_length (by rw [begL_length, digs_length]), begL_length]
theorem sgn_8 (seed : List UInt8) (leaf : Int) (text : List UInt8) : ∀ p ∈ sgnL seed leaf text, p.length = 8 := wks_8 (begL_8 _ _ _)
theorem wks_rest {P : List (List UInt8)} : ∀ {D : List Int}, (∀ d ∈ D, 0 ≤ d ∧ d ≤ 3) → wks (fun d => 3 - d) (wks (fun d => d) P D) D = wks (fun d => 3 - d) P (List.replicate D.length 0) := by
  induction P with
  | nil => intro D _; simp [wks]
  | cons p P ih =>
    intro D h
    cases D with
    | nil => simp [wks]
    | cons d D =>
      have h1 := h d (by simp)
      have h2 := ih (D := D) (fun x hx => h x (by simp [hx]))
      simp only [wks, List.zipWith_cons_cons, List.length_cons, List.replicate_succ, List.cons.injEq] at h2 ⊢
      refine ⟨?_, h2⟩
      rw [wlk_add]
      congr 1
      unfold stp
      omega
theorem opn_sgn (seed : List UInt8) (leaf : Int) (text : List UInt8) : opn text (sgnL seed leaf text) = pubL seed leaf := by
  rw [opn, if_pos ⟨sgn_length _ _ _, sgn_8 _ _ _⟩, clo, sgnL, wks_rest (digs_bound text), digs_length]
  rfl
theorem w_Public (seed : List UInt8) (leaf : Int) (hs : seed.length ≤ 140737488352000) : Pur Try.prog 80 [.r (.str seed), .r (.int .i64 leaf)] (.r (.str (pubL seed leaf))) := by
  refine spec_of_go (N := 10) Try.func80 rfl (by decide) rfl rfl ?_
  refine zB ?_
  refine pA ?_
  refine zA ?_
  refine ag_draw0 (by kernel_rfl) (by kernel_rfl) ?_
  iterate 2 refine aq_pure tOk rfl rfl rfl trivial ?_
  refine aq_pur (w_BeginR seed leaf hs) rfl rfl rfl rfl rfl rfl rfl ?_
  refine aq_qd (fun _ => qop_makeRo tOk rfl ?_ rfl) rfl rfl rfl rfl ?_
  · refine ⟨?_, rfl⟩
    exact ⟨⟨⟨by decide, by decide⟩, rfl, rfl, by decide⟩, rfl⟩
  refine aq_pur (w_closed (begL seed leaf 15) (List.replicate 15 0) (begL_length _ _ _) rfl (begL_8 _ _ _) rep_bound) rfl rfl rfl rfl rfl rfl rfl ?_
  refine aq_pure tOk rfl rfl rfl trivial ?_
  refine aq_nil rfl ?_
  refine ag_ret tOk Try.func80 rfl rfl (by simp) ?_
  rfl
def strPb_0 (P W : List (List UInt8)) : Nat → Regs × Hp := fun i => ([(5, roS P), (6, .r (.str (W.take i).flatten)), (7, .r (.int .i64 (i : Int)))], ⟨0, [], false⟩)
def prrPb_0 (P W : List (List UInt8)) : Nat → Prop := fun i => i ≤ 15
theorem w_rPublic (seed : List UInt8) (leaf : Int) (hs : seed.length ≤ 140737488352000) : Pur Try.prog 149 [.r (.str seed), .r (.int .i64 leaf)] (.r (.str (pubL seed leaf))) := by
  obtain ⟨P, hPe⟩ : ∃ P, P = begL seed leaf 15 := ⟨_, rfl⟩
  have hP : P.length = 15 := by rw [hPe]; exact begL_length _ _ _
  have hP8 : ∀ p ∈ P, p.length = 8 := by rw [hPe]; exact begL_8 _ _ _
  have hB : Pur Try.prog 127 [.r (.str seed), .r (.int .i64 leaf)] (roS P) := by rw [hPe]; exact w_rBeginR seed leaf hs
  rw [show pubL seed leaf = sh8 (wks (fun d => 3 - d) P (List.replicate 15 0)).flatten by rw [hPe]; rfl]
  obtain ⟨W, hW⟩ : ∃ W, W = wks (fun d => 3 - d) P (List.replicate 15 0) := ⟨_, rfl⟩
  rw [← hW]
  have hwl : W.length = 15 := by rw [hW, wks_length (by rw [hP]; rfl), hP]
  have hfl : W.flatten.length = 8 * W.length := flat8 (by rw [hW]; exact wks_8 hP8)
  have hwg : ∀ (i : Nat) (p : List UInt8), i < 15 → P[i]? = some p → W[i]? = some (wlk (stp 3) p) := by intro i p hi hp; rw [hW]; exact wks_get (f := fun d => 3 - d) (d := 0) hp (by rw [List.getElem?_replicate, if_pos hi])
  clear hPe hW
  refine spec_of_go (N := 26) Try.func149 rfl (by decide) rfl rfl ?_
  refine zB ?_
  refine pA ?_
  refine zC ?_
  iterate 2 refine pA ?_
  refine ar_pur (hB) rfl rfl rfl rfl rfl rfl rfl ?_
  refine pA ?_
  refine zC ?_
  refine pA ?_
  refine zA ?_
  refine zB ?_
  refine pA ?_
  refine ar_nil ?_
  refine ag_block ?_
  refine ag_loopS (strPb_0 P W) (prrPb_0 P W) (fun (i : Nat) => 15 - i) 0 (ent_weak [] rfl rfl rfl rfl ?_ ?_ rfl) (show prrPb_0 P W 0 from ?_) ?_
  · exact ⟨⟨rfl, rfl⟩, ⟨rfl, rfl⟩, ⟨rfl, rfl⟩, trivial⟩
  · trivial
  · exact Nat.zero_le _
  rintro i hp hrec
  have hi : i ≤ 15 := hp
  refine ag_seq ?_
  refine zB ?_
  iterate 4 refine pA ?_
  refine ar_nil ?_
  refine ag_if rfl ?_ ?_
  · intro h14
    obtain ⟨p, hp⟩ := getI (L := P) (i := i) (by omega)
    have hpl := hP8 p (memI hp)
    have hwi := hwg i p (by omega) hp
    have hlt := lenTo_le W i
    unfold lenTo at hlt
    refine ag_skip ?_
    refine ag_seq ?_
    refine ag_block ?_
    refine ag_reg ?_
    iterate 3 refine pA ?_
    refine ar_pure tOk rfl rfl rfl ?_ ?_
    · refine ⟨?_, ?_⟩ <;> first | omega | exact ne_mp hp | (refine ⟨?_, ?_⟩ <;> omega)
    refine ar_loadAs tOk (.r (.str p)) rfl rfl rfl rfl rfl rfl rfl (.inl ⟨rfl, by simp [Body.cells, mulz_eq, sL, hp]⟩) ?_
    refine ar_pur (w_rWalk p 3 (by omega)) rfl rfl rfl rfl rfl rfl rfl ?_
    refine ar_pure tOk rfl rfl rfl ?_ ?_
    · have := wlk_length8 hpl (stp 3); omega
    refine pA ?_
    refine ar_nil ?_
    refine ag_inBlock ?_
    refine ag_reg ?_
    refine pA ?_
    refine ar_pure tOk rfl rfl rfl ?_ ?_
    · unfold inI64; omega
    refine pA ?_
    refine ar_nil ?_
    refine ag_ent (ent_weak (g' := (strPb_0 P W (i + 1)).1) (h' := (strPb_0 P W (i + 1)).2) [] rfl rfl rfl rfl ?_ ?_ rfl) ?_
    · exact ⟨⟨rfl, rfl⟩, ⟨rfl, by exact eqStr (by rw [take_next hwi])⟩, ⟨rfl, by exact eqI (by omega)⟩, trivial⟩
    · trivial
    have hnx := hrec (i + 1)
    refine hnx ?_ ?_
    · show i + 1 ≤ 15; omega
    · show 15 - (i + 1) < 15 - i; omega
  · intro h14
    obtain rfl : i = 15 := by omega
    refine ag_exit rfl ?_
    refine zB ?_
    refine pA ?_
    refine ar_ent (ent_reg 24 (.r (.str (W.flatten))) (by show AVal.r (.str _) = _; exact eqStr (by rw [List.take_of_length_le (by omega)]))) ?_
    refine ar_pur (w_rShort W.flatten (by omega)) rfl rfl rfl rfl rfl rfl rfl ?_
    refine pA ?_
    refine ar_nil ?_
    refine ag_ret tOk Try.func149 rfl rfl (by simp) ?_
    rfl
theorem set_mid {α : Type} {Z B : List α} {i : Nat} {z : α} (hz : Z[i]? = some z) (hi : i < B.length) (hl : Z.length = B.length) : (Z.take i ++ B.drop i).set i z = Z.take (i + 1) ++ B.drop (i + 1) := by
  have h1 : (Z.take i).length = i := by rw [List.length_take]; omega
  rw [List.set_append_right _ _ (by omega), h1, Nat.sub_self, List.take_add_one, hz, List.append_assoc]
  congr 1
  rw [List.drop_eq_getElem_cons hi]
  rfl
theorem get_mid {α : Type} {Z B : List α} {i : Nat} {b : α} (hb : B[i]? = some b) (hl : Z.length = B.length) : (Z.take i ++ B.drop i)[i]? = some b := by
  obtain ⟨hlt, _⟩ := List.getElem?_eq_some_iff.1 hb
  have h1 : (Z.take i).length = i := by rw [List.length_take]; omega
  rw [List.getElem?_append_right (by omega), h1, Nat.sub_self, List.getElem?_drop]
  simpa using hb
def midL (B Z : List (List UInt8)) (i : Nat) : List (List UInt8) := Z.take i ++ B.drop i
def stSign_0 (B Z : List (List UInt8)) (text : List UInt8) : Nat → Regs × Hp := fun i => ([(7, .sl 0 0 15 1), (14, roI (digs text)), (15, .r (.int .i64 15)), (16, .r (.int .i64 (i : Int)))], ⟨1, [(0, some (.plain (sL (midL B Z i))))], false⟩)
def prSign_0 (B Z : List (List UInt8)) (text : List UInt8) : Nat → Prop := fun i => i ≤ 15
theorem w_Sign (seed : List UInt8) (leaf : Int) (text : List UInt8) (hs : seed.length ≤ 140737488352000) (hb : text.length ≤ 140737488355000) : Own Try.prog 73 [.r (.str seed), .r (.int .i64 leaf), .r (.bs text)] 15 1 (.plain (sL (sgnL seed leaf text))) := by
  obtain ⟨B, hBe⟩ : ∃ B, B = begL seed leaf 15 := ⟨_, rfl⟩
  have hB : B.length = 15 := by rw [hBe]; exact begL_length _ _ _
  have hB8 : ∀ p ∈ B, p.length = 8 := by rw [hBe]; exact begL_8 _ _ _
  have hBg : Own Try.prog 118 [.r (.str seed), .r (.int .i64 leaf)] 15 1 (.plain (sL B)) := by rw [hBe]; exact w_Begin seed leaf hs
  obtain ⟨Z, hZe⟩ : ∃ Z, Z = sgnL seed leaf text := ⟨_, rfl⟩
  have hZ : Z.length = 15 := by rw [hZe]; exact sgn_length _ _ _
  have hZB : Z.length = B.length := by omega
  have hD := digs_length text
  have hZg : ∀ (i : Nat) (p : List UInt8) (d : Int), B[i]? = some p → (digs text)[i]? = some d → Z[i]? = some (wlk (stp d) p) := by intro i p d hp hd; rw [hZe]; exact wks_get (f := fun d => d) (hBe ▸ hp) hd
  rw [← hZe]
  clear hBe hZe
  refine spec_of_go (N := 32) Try.func73 rfl (by decide) rfl rfl ?_
  refine zB ?_
  refine pA ?_
  refine zC ?_
  iterate 2 refine pA ?_
  refine ar_own (hBg) rfl rfl rfl rfl rfl rfl rfl ?_
  refine pA ?_
  refine zA ?_
  refine zB ?_
  refine pA ?_
  refine ar_pur (w_DigitsR text hb) rfl rfl rfl rfl rfl rfl rfl ?_
  iterate 2 refine pA ?_
  refine ar_nil ?_
  refine ag_block ?_
  refine ag_loopS (stSign_0 B Z text) (prSign_0 B Z text) (fun (i : Nat) => 15 - i) 0 (ent_weak [0] rfl rfl rfl rfl ?_ ?_ rfl) (show prSign_0 B Z text 0 from ?_) ?_
  · exact ⟨⟨rfl, rfl⟩, ⟨rfl, rfl⟩, ⟨rfl, by exact eqI (by omega)⟩, ⟨rfl, rfl⟩, trivial⟩
  · exact ⟨⟨rfl, rfl, by exact eqPl (by simp [midL])⟩, trivial⟩
  · exact Nat.zero_le _
  rintro i hp0 hrec
  have hi : i ≤ 15 := hp0
  refine zB ?_
  refine pA ?_
  refine zA ?_
  refine ag_if rfl ?_ ?_
  · intro h17
    obtain ⟨p, d, hp, hd⟩ := getI3 (n := 15) (by omega) hB hD
    have hpl := hB8 p (memI hp)
    have hz := hZg i p d hp hd
    refine ag_skip ?_
    refine ag_seq ?_
    refine ag_block ?_
    refine zB ?_
    refine pA ?_
    refine ar_pure tOk rfl rfl rfl ?_ ?_
    · refine ⟨?_, ?_⟩ <;> first | omega | exact ne_mp hd | (refine ⟨?_, ?_⟩ <;> omega)
    refine ar_loadAs tOk (.r (.int .i64 d)) rfl rfl rfl rfl rfl rfl rfl (.inl ⟨rfl, by simp [Body.cells, mulz_eq, iL, hd]⟩) ?_
    iterate 2 refine pA ?_
    refine ar_nil ?_
    refine ag_reg ?_
    iterate 4 refine pA ?_
    refine ar_pure tOk rfl rfl rfl ?_ ?_
    · exact ⟨by omega, by omega⟩
    refine ar_loadAs tOk (.r (.str p)) rfl rfl rfl rfl rfl rfl rfl (.inl ⟨rfl, by simp only [Body.cells, mulz_eq, addo_eq, sL, Int.toNat_natCast, Nat.mul_one, Nat.zero_add, List.getElem?_map, midL, get_mid hp hZB]; rfl⟩) ?_
    refine pA ?_
    refine ar_pur (w_Walk p d (by omega)) rfl rfl rfl rfl rfl rfl rfl ?_
    refine ar_pure tOk rfl rfl rfl ?_ ?_
    · exact ⟨by omega, by omega⟩
    refine ar_store tOk rfl rfl rfl ?_ ?_
    · simp [mulz_eq, addo_eq, sL, midL, hZ, hB]; omega
    refine ar_nil ?_
    refine ag_inBlock ?_
    refine ag_reg ?_
    refine ar_pure tOk rfl rfl rfl ?_ ?_
    · unfold inI64; omega
    refine pA ?_
    refine ar_nil ?_
    refine ag_ent (ent_weak (g' := (stSign_0 B Z text (i + 1)).1) (h' := (stSign_0 B Z text (i + 1)).2) [0] rfl rfl rfl rfl ?_ ?_ rfl) ?_
    · exact ⟨⟨rfl, rfl⟩, ⟨rfl, rfl⟩, ⟨rfl, rfl⟩, ⟨rfl, by exact eqI (by omega)⟩, trivial⟩
    · exact ⟨⟨rfl, rfl, by show some (Body.plain _) = some (Body.plain _); congr 1; simp only [mulz_eq, addo_eq, Int.toNat_natCast, Nat.mul_one, Nat.zero_add, sL, ← set_mid hz (show i < B.length by omega) hZB, midL]; rw [List.map_set]⟩, trivial⟩
    have hnx := hrec (i + 1)
    refine hnx ?_ ?_
    · show i + 1 ≤ 15; omega
    · show 15 - (i + 1) < 15 - i; omega
  · intro h17
    obtain rfl : i = 15 := by omega
    refine ag_exit rfl ?_
    refine zB ?_
    iterate 2 refine pA ?_
    refine ar_nil ?_
    refine ag_ret tOk Try.func73 rfl rfl (by simp) ?_
    refine ⟨0, rfl, eqPl ?_⟩
    simp only [midL]
    rw [List.take_of_length_le (by omega), List.drop_of_length_le (by omega), List.append_nil]
def stParts_0 (B Z : List (List UInt8)) (text : List UInt8) : Nat → Regs × Hp := fun i => ([(7, .sl 0 0 15 1), (8, roI (digs text)), (9, .r (.int .i64 (i : Int)))], ⟨1, [(0, some (.plain (sL (midL B Z i))))], false⟩)
def prParts_0 (B Z : List (List UInt8)) (text : List UInt8) : Nat → Prop := fun i => i ≤ 15
theorem w_Parts (seed : List UInt8) (leaf : Int) (text : List UInt8) (hs : seed.length ≤ 140737488352000) (hb : text.length ≤ 140737488355000) : Own Try.prog 83 [.r (.str seed), .r (.int .i64 leaf), .r (.bs text)] 15 1 (.plain (sL (sgnL seed leaf text))) := by
  obtain ⟨B, hBe⟩ : ∃ B, B = begL seed leaf 15 := ⟨_, rfl⟩
  have hB : B.length = 15 := by rw [hBe]; exact begL_length _ _ _
  have hB8 : ∀ p ∈ B, p.length = 8 := by rw [hBe]; exact begL_8 _ _ _
  have hBg : Own Try.prog 127 [.r (.str seed), .r (.int .i64 leaf)] 15 1 (.plain (sL B)) := by rw [hBe]; exact w_rBegin seed leaf hs
  obtain ⟨Z, hZe⟩ : ∃ Z, Z = sgnL seed leaf text := ⟨_, rfl⟩
  have hZ : Z.length = 15 := by rw [hZe]; exact sgn_length _ _ _
  have hZB : Z.length = B.length := by omega
  have hD := digs_length text
  have hZg : ∀ (i : Nat) (p : List UInt8) (d : Int), B[i]? = some p → (digs text)[i]? = some d → Z[i]? = some (wlk (stp d) p) := by intro i p d hp hd; rw [hZe]; exact wks_get (f := fun d => d) (hBe ▸ hp) hd
  rw [← hZe]
  clear hBe hZe
  refine spec_of_go (N := 34) Try.func83 rfl (by decide) rfl rfl ?_
  refine zB ?_
  refine pA ?_
  refine zC ?_
  iterate 2 refine pA ?_
  refine ar_own (hBg) rfl rfl rfl rfl rfl rfl rfl ?_
  refine pA ?_
  refine ar_pur (w_rDigitsR text hb) rfl rfl rfl rfl rfl rfl rfl ?_
  iterate 2 refine pA ?_
  refine zA ?_
  refine zB ?_
  refine pA ?_
  refine ar_nil ?_
  refine ag_block ?_
  refine ag_loopS (stParts_0 B Z text) (prParts_0 B Z text) (fun (i : Nat) => 15 - i) 0 (ent_weak [0] rfl rfl rfl rfl ?_ ?_ rfl) (show prParts_0 B Z text 0 from ?_) ?_
  · exact ⟨⟨rfl, rfl⟩, ⟨rfl, rfl⟩, ⟨rfl, rfl⟩, trivial⟩
  · exact ⟨⟨rfl, rfl, by exact eqPl (by simp [midL])⟩, trivial⟩
  · exact Nat.zero_le _
  rintro i hp0 hrec
  have hi : i ≤ 15 := hp0
  refine ag_seq ?_
  refine zB ?_
  iterate 4 refine pA ?_
  refine ar_nil ?_
  refine ag_if rfl ?_ ?_
  · intro h18
    obtain ⟨p, d, hp, hd⟩ := getI3 (n := 15) (by omega) hB hD
    have hpl := hB8 p (memI hp)
    have hz := hZg i p d hp hd
    refine ag_skip ?_
    refine ag_seq ?_
    refine ag_block ?_
    apply ag_draw1 [] (by kernel_rfl) (by kernel_rfl)
    iterate 4 refine aq_pure tOk rfl rfl rfl trivial ?_
    refine aq_pure tOk rfl rfl rfl ?_ ?_
    · exact ⟨by omega, by omega⟩
    refine aq_loadAs0 tOk (.r (.str p)) rfl rfl rfl rfl rfl (by kernel_rfl) rfl rfl (.inl ⟨rfl, by simp only [Body.cells, mulz_eq, addo_eq, sL, Int.toNat_natCast, Nat.mul_one, Nat.zero_add, List.getElem?_map, midL, get_mid hp hZB]; rfl⟩) ?_
    iterate 2 refine aq_pure tOk rfl rfl rfl trivial ?_
    refine aq_pure tOk rfl rfl rfl ?_ ?_
    · refine ⟨?_, ?_⟩ <;> first | omega | exact ne_mp hd | (refine ⟨?_, ?_⟩ <;> omega)
    refine aq_loadAs tOk (.r (.int .i64 d)) rfl rfl rfl rfl (fun _ => rfl) rfl rfl (.inl ⟨rfl, by simp [Body.cells, mulz_eq, iL, hd]⟩) ?_
    refine aq_pur (w_rWalk p d (by omega)) rfl rfl rfl rfl rfl rfl rfl ?_
    refine aq_pure tOk rfl rfl rfl ?_ ?_
    · exact ⟨by omega, by omega⟩
    refine aq_store10 tOk rfl rfl rfl rfl ?_ ?_
    · simp [mulz_eq, addo_eq, sL, midL, hZ, hB]; omega
    refine aq_nil rfl ?_
    refine ag_inBlock ?_
    refine ag_reg ?_
    refine pA ?_
    refine ar_pure tOk rfl rfl rfl ?_ ?_
    · unfold inI64; omega
    refine pA ?_
    refine ar_nil ?_
    refine ag_ent (ent_weak (g' := (stParts_0 B Z text (i + 1)).1) (h' := (stParts_0 B Z text (i + 1)).2) [0] rfl rfl rfl rfl ?_ ?_ rfl) ?_
    · exact ⟨⟨rfl, rfl⟩, ⟨rfl, rfl⟩, ⟨rfl, by exact eqI (by omega)⟩, trivial⟩
    · exact ⟨⟨rfl, rfl, by show some (Body.plain _) = some (Body.plain _); congr 1; simp only [mulz_eq, addo_eq, Int.toNat_natCast, Nat.mul_one, Nat.zero_add, sL, ← set_mid hz (show i < B.length by omega) hZB, midL]; rw [List.map_set]⟩, trivial⟩
    have hnx := hrec (i + 1)
    refine hnx ?_ ?_
    · show i + 1 ≤ 15; omega
    · show 15 - (i + 1) < 15 - i; omega
  · intro h18
    obtain rfl : i = 15 := by omega
    refine ag_exit rfl ?_
    refine zB ?_
    iterate 2 refine pA ?_
    refine ar_nil ?_
    refine ag_ret tOk Try.func83 rfl rfl (by simp) ?_
    refine ⟨0, rfl, eqPl ?_⟩
    simp only [midL]
    rw [List.take_of_length_le (by omega), List.drop_of_length_le (by omega), List.append_nil]
theorem w_odd (s : List UInt8) : Pur Try.prog 125 [.r (.str s)] (.r (.bool (!decide (s.length = 8)))) := by
  refine spec_of_go (N := 6) Try.func125 rfl (by decide) rfl rfl ?_
  refine zB ?_
  refine pA ?_
  refine zC ?_
  iterate 4 refine pA ?_
  refine ar_nil ?_
  refine ag_ret tOk Try.func125 rfl rfl (by simp) ?_
  exact eqB (by simp; omega)
def idxF (i : Nat) : List (List UInt8) → Int
  | [] => -1
  | p :: r => bif decide (p.length = 8) then idxF (i + 1) r else (i : Int)
theorem idxF_at {P : List (List UInt8)} {i : Nat} {p : List UInt8} (hp : P[i]? = some p) : idxF i (P.drop i) = bif decide (p.length = 8) then idxF (i + 1) (P.drop (i + 1)) else (i : Int) := by
  obtain ⟨hlt, he⟩ := List.getElem?_eq_some_iff.1 hp
  rw [List.drop_eq_getElem_cons hlt, he]
  rfl
theorem idxF_ge : ∀ (P : List (List UInt8)) (i : Nat), decide (idxF i P ≥ 0) = !decide (∀ p ∈ P, p.length = 8)
  | [], i => by simp [idxF]
  | p :: P, i => by
    have ih := idxF_ge P (i + 1)
    simp only [idxF]
    by_cases h : p.length = 8
    · simp only [h, decide_true, cond_true, ih]
      simp [h]
    · simp only [h, decide_false, cond_false]
      simp [h]
def stIxF_0 (P : List (List UInt8)) : Nat → Regs × Hp := fun i => ([(0, roS P), (1, .func 125 []), (7, .r (.int .i64 (P.length : Int))), (8, .r (.int .i64 (i : Int)))], ⟨0, [], false⟩)
def prIxF_0 (P : List (List UInt8)) : Nat → Prop := fun i => idxF i (P.drop i) = idxF 0 P
theorem w_IndexF (P : List (List UInt8)) (hP : P.length ≤ 9223372036854775807) : Pur Try.prog 148 [roS P, .func 125 []] (.r (.int .i64 (idxF 0 P))) := by
  refine spec_of_go (N := 19) Try.func148 rfl (by decide) rfl rfl ?_
  refine zB ?_
  refine pA ?_
  refine zA ?_
  refine zB ?_
  iterate 3 refine pA ?_
  refine ar_nil ?_
  refine ag_block ?_
  refine ag_loopS (stIxF_0 P) (prIxF_0 P) (fun (i : Nat) => P.length - i) 0 (ent_weak [] rfl rfl rfl rfl ?_ ?_ rfl) (show prIxF_0 P 0 from ?_) ?_
  · exact ⟨⟨rfl, rfl⟩, ⟨rfl, rfl⟩, ⟨rfl, rfl⟩, ⟨rfl, rfl⟩, trivial⟩
  · trivial
  · exact rfl
  rintro i hp0 hrec
  have hx : idxF i (P.drop i) = idxF 0 P := hp0
  refine zB ?_
  refine pA ?_
  refine zA ?_
  refine ag_if rfl ?_ ?_
  · intro h9
    obtain ⟨p, hp⟩ := getI (L := P) (i := i) (by omega)
    rw [idxF_at hp] at hx
    refine ag_skip ?_
    refine ag_seq ?_
    refine ag_block ?_
    refine zB ?_
    iterate 2 refine pA ?_
    refine zC ?_
    iterate 3 refine pA ?_
    refine ar_pure tOk rfl rfl rfl ?_ ?_
    · refine ⟨?_, ?_⟩ <;> first | omega | exact ne_mp hp | (refine ⟨?_, ?_⟩ <;> omega)
    refine ar_loadAs tOk (.r (.str p)) rfl rfl rfl rfl rfl rfl rfl (.inl ⟨rfl, by simp [Body.cells, mulz_eq, sL, hp]⟩) ?_
    refine ar_pur (w_odd p) rfl rfl rfl rfl rfl rfl rfl ?_
    refine ar_nil ?_
    refine ag_cond rfl ?_ ?_
    · intro h16
      have h8 : decide (p.length = 8) = false := by simpa using h16
      rw [h8] at hx
      refine zB ?_
      iterate 2 refine pA ?_
      refine ar_nil ?_
      refine ag_ret tOk Try.func148 rfl rfl (by simp) ?_
      exact eqI hx
    · intro h16
      have h8 : decide (p.length = 8) = true := by simpa using h16
      rw [h8] at hx
      refine ag_skip ?_
      refine ag_inBlock ?_
      refine ag_reg ?_
      refine ar_pure tOk rfl rfl rfl ?_ ?_
      · unfold inI64; omega
      refine pA ?_
      refine ar_nil ?_
      refine ag_ent (ent_weak (g' := (stIxF_0 P (i + 1)).1) (h' := (stIxF_0 P (i + 1)).2) [] rfl rfl rfl rfl ?_ ?_ rfl) ?_
      · exact ⟨⟨rfl, rfl⟩, ⟨rfl, rfl⟩, ⟨rfl, rfl⟩, ⟨rfl, by exact eqI (by omega)⟩, trivial⟩
      · trivial
      have hnx := hrec (i + 1)
      refine hnx ?_ ?_
      · exact hx
      · show P.length - (i + 1) < P.length - i; omega
  · intro h9
    rw [List.drop_eq_nil_of_le (by omega)] at hx
    refine ag_exit rfl ?_
    refine zB ?_
    refine pA ?_
    refine ar_nil ?_
    refine ag_ret tOk Try.func148 rfl rfl (by simp) ?_
    exact eqI hx
theorem w_ContF (P : List (List UInt8)) (hP : P.length ≤ 9223372036854775807) : Pur Try.prog 124 [roS P, .func 125 []] (.r (.bool (!decide (∀ p ∈ P, p.length = 8)))) := by
  refine spec_of_go (N := 9) Try.func124 rfl (by decide) rfl rfl ?_
  refine zB ?_
  refine pA ?_
  refine zC ?_
  iterate 2 refine pA ?_
  refine ar_pur (w_IndexF P hP) rfl rfl rfl rfl rfl rfl rfl ?_
  iterate 2 refine pA ?_
  refine ar_nil ?_
  refine ag_ret tOk Try.func124 rfl rfl (by simp) ?_
  exact eqB (idxF_ge P 0)
theorem w_Open (text : List UInt8) (P : List (List UInt8)) (hb : text.length ≤ 140737488355000) (hP : P.length ≤ 9223372036854775807) : Pur Try.prog 79 [.r (.bs text), roS P] (.r (.str (opn text P))) := by
  refine spec_of_go (N := 18) Try.func79 rfl (by decide) rfl rfl ?_
  refine zB ?_
  refine pA ?_
  refine zC ?_
  refine pA ?_
  refine ar_pur (w_ContF P hP) rfl rfl rfl rfl rfl rfl rfl ?_
  refine pA ?_
  refine zA ?_
  refine zB ?_
  iterate 4 refine pA ?_
  refine ar_guard (t := decide (¬ (P.length : Int) = 15)) (fun ht => ?_) (fun ht => ?_)
  · refine ar_ent (ent_reg 11 (.r (.bool true)) (by show AVal.r (.bool _) = _; rw [ht])) ?_
    refine ar_skip rfl rfl rfl ?_
    refine pA ?_
    refine ar_nil ?_
    refine ag_true rfl (by rfl) ?_
    refine zB ?_
    refine pA ?_
    refine ar_nil ?_
    refine ag_ret tOk Try.func79 rfl rfl (by simp) ?_
    exact eqStr (by rw [opn, if_neg (fun e => by have := of_decide_eq_true ht; omega)])
  · refine ar_ent (ent_reg 11 (.r (.bool false)) (by show AVal.r (.bool _) = _; rw [ht])) ?_
    iterate 2 refine pA ?_
    refine ar_nil ?_
    refine ag_cond rfl ?_ ?_
    · intro h13
      have h88 : ¬ ∀ p ∈ P, p.length = 8 := by simpa using h13
      refine zB ?_
      refine pA ?_
      refine ar_nil ?_
      refine ag_ret tOk Try.func79 rfl rfl (by simp) ?_
      exact eqStr (by rw [opn, if_neg (fun e => h88 e.2)])
    · intro h13
      have h15 : P.length = 15 := by have := of_decide_eq_false ht; omega
      have h88 : ∀ p ∈ P, p.length = 8 := by simpa using h13
      refine ag_skip ?_
      refine zB ?_
      iterate 2 refine pA ?_
      refine ar_pur (w_DigitsR text hb) rfl rfl rfl rfl rfl rfl rfl ?_
      refine ar_pur (w_closed P (digs text) h15 (digs_length _) h88 (digs_bound _)) rfl rfl rfl rfl rfl rfl rfl ?_
      refine pA ?_
      refine ar_nil ?_
      refine ag_ret tOk Try.func79 rfl rfl (by simp) ?_
      exact eqStr (by rw [opn, if_pos ⟨h15, h88⟩])
end Go.Proofs.Ytnodpljgcdkbkaa

