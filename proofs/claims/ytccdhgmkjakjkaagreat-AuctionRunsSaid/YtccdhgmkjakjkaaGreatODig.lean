/-
  WALKS: digits of a text (ots.spread, ots.Digits, the reference's). (Printed by gen.py out of w_odig.py.)
-/
import Derived.Test.YtccdhgmkjakjkaaGreatHTxt
namespace Go.Proofs.YtccdhgmkjakjkaaGreat
open Go
set_option maxRecDepth 20000
set_option linter.unusedVariables false
set_option linter.unusedSimpArgs false
theorem w_bwI {f N : Nat} {m : Md} {ops : Array Oper} {o : Oper} {rest : List Oper} {k : List Item} {g : Regs} {h : Hp} {Post : AVal → Hp → Prop} {t : Bool} {d : Nat} {x : AVal} (hca : callA g o = some (107, [x])) (hd : o.dst = some d) (hN : Nat.blt d N = true)
  (hg : guardB ops g o = some t) (ht : t = true) {cs : List AVal} (hx : x.cellsA = some cs) (hk : AReg Tryz.prog f N m ops rest k ((d, .func 110 [.ptr h.nxt 0]) :: g) (h.push (.mixed cs)) Post) : AReg Tryz.prog f N m ops (o :: rest) k g h Post := by
 refine ar_inline (PostI := fun v h' => v = .func 110 [.ptr h.nxt 0] ∧ h' = h.push (.mixed cs)) Tryz.func107 hca rfl (by decide) rfl rfl hd hN hg ht ?_ ?_
 ·refine ag_seq ?_
  refine ag_reg ?_
  refine ar_new (v := .ptr h.nxt 0) (blk := .mixed cs) (c := True) (d := 1) tOk (by unfold stepNew; show (match cellsF x with | some cs => some (1, AVal.ptr h.nxt 0, Body.mixed cs, True) | none => none) = _; rw [cellsF_eq, hx]) rfl rfl trivial ?_
  refine pG ?_
  refine pA ?_
  refine pE ?_
  exact ag_ret tOk Tryz.func107 rfl rfl (by trivial) ⟨rfl, rfl⟩
 rintro v h' ⟨rfl, rfl⟩
 exact hk
def iL (l : List Int) : List RVal := l.map (.int .i64)
def roI (l : List Int) : AVal := .r (.ro l.length (iL l))
def oDigL : Nat → Int → List Int
 | 0, _ => []
 | k + 1, u => oDigL k (u / 4) ++ [u % 4]
theorem digL_length : ∀ (k : Nat) (u : Int), (oDigL k u).length = k
 | 0, _ => rfl
 | k + 1, u => by simp [oDigL, digL_length k]
theorem digL_bound : ∀ (k : Nat) (u : Int), ∀ d ∈ oDigL k u, 0 ≤ d ∧ d ≤ 3
 | 0, _, d, h => by simp [oDigL] at h
 | k + 1, u, d, h => by
  simp only [oDigL, List.mem_append, List.mem_singleton] at h
  rcases h with h | rfl
  ·exact digL_bound k _ d h
  ·omega
theorem sum_bound : ∀ (l : List Int), (∀ d ∈ l, 0 ≤ d ∧ d ≤ 3) → 0 ≤ l.sum ∧ l.sum ≤ 3 * (l.length : Int)
 | [], _ => by simp
 | x :: l, h => by
  have h1 := sum_bound l (fun d hd => h d (by simp [hd]))
  have h2 := h x (by simp)
  simp only [List.sum_cons, List.length_cons]
  omega
theorem sum_next {l : List Int} {i : Nat} {d : Int} (h : l[i]? = some d) : (l.take (i + 1)).sum = (l.take i).sum + d := by
 rw [List.take_add_one, h]; simp
theorem and3 {n : Int} (h0 : 0 ≤ n) (h1 : n < 4611686018427387904) : ibit .and .i64 n 3 = n % 4 := by
 obtain ⟨a, rfl⟩ := Int.eq_ofNat_of_zero_le h0
 simp only [ibit]
 have h2 : (BitVec.ofInt IntKind.i64.bits (a : Int) &&& BitVec.ofInt IntKind.i64.bits 3).toNat = a % 4 := by
  rw [BitVec.toNat_and, BitVec.toNat_ofInt, BitVec.toNat_ofInt]
  have e1 : ((a : Int) % ((2 ^ IntKind.i64.bits : Nat) : Int)).toNat = a := by simp [IntKind.bits]; omega
  have e2 : ((3 : Int) % ((2 ^ IntKind.i64.bits : Nat) : Int)).toNat = 2 ^ 2 - 1 := by decide
  rw [e1, e2, Nat.and_two_pow_sub_one_eq_mod]
 rw [h2]
 simp [IntKind.wrap, IntKind.bits, IntKind.signed]
 omega
theorem getI {α : Type} {L : List α} {i : Nat} (h : i < L.length) : ∃ s, L[i]? = some s := ⟨L[i], by simp [h]⟩
theorem ne_mp {α β : Type} {f : α → β} {L : List α} {i : Nat} {s : α} (h : L[i]? = some s) : L.map f ≠ [] := by
 cases L with
 | nil => simp at h
 | cons a l => simp
theorem memI {α : Type} {L : List α} {i : Nat} {s : α} (h : L[i]? = some s) : s ∈ L := List.mem_of_getElem? h
def hsS (K k : Nat) (n : Int) (acc : List Int) : Hp :=
 ⟨4, [(0, some (.mixed [.r (.int .i64 n)])), (1, some (.plain (List.replicate k (.int .i64 0) ++ iL acc))), (2, some (.mixed [.sl 1 0 K 1])), (3, some (.mixed [.sl 1 0 K 1]))], false⟩
def okS (n : Int) : Prop := 0 ≤ n ∧ n < 4611686018427387904
def yS (n0 : Int) (K : Nat) : YRel := fun args h v h' => ∃ (k : Nat) (n : Int) (acc : List Int) (b : Int), k + 1 + acc.length = K ∧ okS n ∧ oDigL (k + 1) n ++ acc = oDigL K n0 ∧
 args = [.r (.int .i64 (k : Int)), .r (.int .i64 b)] ∧ h = hsS K (k + 1) n acc ∧ v = true ∧ h' = hsS K k (n / 4) (n % 4 :: acc)
def gS4 : Regs := [(10, .func 110 [.ptr 3 0]), (5, .ptr 2 0), (2, .ptr 0 0)]
theorem digL_nil : ∀ {k : Nat} {u : Int} {acc s : List Int}, k = 0 → oDigL k u ++ acc = s → acc = s := by
 rintro k u acc s rfl h; exact h
def stspri_0 (n : Int) (K l : Nat) : Nat × Int × List Int → Regs × Hp := fun ⟨k, n', acc⟩ => ([(3, .r (.int .i64 ((k : Int) - 1))), (0, .yld l), (1, .ptr 3 0)], hsS K k n' acc)
def prspri_0 (n : Int) (K l : Nat) : Nat × Int × List Int → Prop := fun ⟨k, n', acc⟩ => k + acc.length = K ∧ okS n' ∧ oDigL k n' ++ acc = oDigL K n
theorem w_spread (n : Int) (K : Nat) (hn : okS n) (hK : K ≤ 1000) : Own Tryz.prog 96 [.r (.int .i64 n), .r (.int .i64 (K : Int))] K 1 (.plain (iL (oDigL K n))) := by
 refine spec_of_go (N := 21) Tryz.func96 rfl (by decide) rfl rfl ?_
 refine zB ?_
 refine pM ?_
 refine pG ?_
 refine pA ?_
 refine ar_make tOk rfl rfl rfl ?_ ?_
 ·exact ⟨⟨⟨by omega, by show (K : Int) * ((8 : Nat) : Int) ≤ 140737488355328; omega⟩, rfl, rfl, by omega⟩, rfl⟩
 refine pN ?_ ?_
 ·simp
 refine ar_store tOk rfl rfl rfl trivial ?_
 refine zA ?_
 refine zB ?_
 refine pB ?_
 refine w_bwI rfl rfl rfl rfl rfl rfl ?_
 refine ar_nil ?_
 refine ag_ent (ent_weak (g' := gS4) (h' := hsS K K n []) [0, 1, 2, 3] rfl rfl rfl rfl ?_ ?_ rfl) ?_
 ·exact ⟨⟨rfl, rfl⟩, ⟨rfl, rfl⟩, ⟨rfl, rfl⟩, trivial⟩
 ·exact ⟨⟨rfl, rfl, rfl⟩, ⟨rfl, rfl, eqPl (by simp [iL])⟩, ⟨rfl, rfl, rfl⟩, ⟨rfl, rfl, rfl⟩, trivial⟩
 refine ag_block ?_
 refine ag_range 4 (yS n K) (fun args => (6, args.getD 0 .any) :: (12, args.getD 1 .any) :: (11, args.getD 0 .any) :: gS4) (fun h' => ∃ n', h' = hsS K 0 n' (oDigL K n)) rfl rfl rfl rfl rfl rfl rfl Tryz.func110 rfl (by decide) rfl rfl rfl ?_ ?_ ?_ ?_
 ·rintro args h v h' ⟨k, n', acc, b, h1, hok, h2, rfl, rfl, rfl, rfl⟩
  exact ⟨rfl, asgOk_region tOk rfl ⟨trivial, trivial⟩⟩
 ·rintro args h v h' ⟨k, n', acc, b, h1, hok, h2, rfl, rfl, rfl, rfl⟩
  refine bX ?_
  refine pB ?_
  refine pA ?_
  refine pB ?_
  refine pA ?_
  refine ar_ent (ent_reg 16 (.r (.int .i64 (n' % 4))) (by show AVal.r (.int _ _) = _; exact eqI (and3 hok.1 hok.2))) ?_
  refine pC ?_ ?_
  ·exact ⟨by omega, by omega⟩
  refine ar_store tOk rfl rfl rfl ?_ ?_
  ·rw [addo_eq, mulz_eq]; simp; omega
  refine ar_nil ?_
  refine ag_reg ?_
  refine pB ?_
  refine pC ?_ ?_
  ·omega
  refine ar_store tOk rfl rfl rfl trivial ?_
  refine nI ?_
  refine ag_ent (ent_weak (g' := []) (h' := hsS K k (n' / 4) (n' % 4 :: acc)) [0, 1, 2, 3] rfl rfl rfl rfl trivial ?_ rfl) ?_
  ·exact ⟨⟨rfl, rfl, by show some (Body.mixed [AVal.r (.int .i64 _)]) = some (Body.mixed [AVal.r (.int .i64 _)]); rw [Int.fdiv_eq_ediv_of_nonneg _ (by decide)]; rfl⟩, ⟨rfl, rfl, by refine eqPl ?_; rw [addo_eq, mulz_eq, show 0 + ((k : Int).toNat * 1) = k by omega]; exact set_rep _ _ _ _⟩, ⟨rfl, rfl, rfl⟩, ⟨rfl, rfl, rfl⟩, trivial⟩
  refine ag_rend rfl ?_
  exact ⟨rfl, rfl⟩
 ·intro l
  refine zB ?_
  refine pB ?_
  refine pA ?_
  refine pC ?_ ?_
  ·unfold inI64; omega
  refine pE ?_
  refine ag_block ?_
  refine ag_loopS (stspri_0 n K l) (prspri_0 n K l) (fun ⟨k, n', acc⟩ => k) (K, n, []) (ent_weak [0, 1, 2, 3] rfl rfl rfl rfl ?_ ?_ rfl) (show prspri_0 n K l (K, n, []) from ?_) ?_
  ·exact ⟨⟨rfl, rfl⟩, ⟨rfl, rfl⟩, ⟨rfl, rfl⟩, trivial⟩
  ·exact ⟨⟨rfl, rfl, rfl⟩, ⟨rfl, rfl, rfl⟩, ⟨rfl, rfl, rfl⟩, ⟨rfl, rfl, rfl⟩, trivial⟩
  ·exact ⟨by simp, hn, by simp⟩
  rintro ⟨k, n', acc⟩ hp hrec
  obtain ⟨h1, hok, h2⟩ : _ := hp
  refine sZ ?_
  refine pA ?_
  refine pE ?_
  refine ag_if rfl ?_ ?_
  ·intro h8
   obtain ⟨j, rfl⟩ : ∃ j, k = j + 1 := ⟨k - 1, by omega⟩
   refine sS ?_
   refine bX ?_
   iterate 2 refine pA ?_
   refine pB ?_
   refine pA ?_
   refine pC ?_ ?_
   ·exact ⟨by omega, by omega⟩
   refine ar_loadAs tOk (.r (.int .i64 0)) rfl rfl rfl rfl rfl rfl rfl (.inl ⟨rfl, by simp only [addo_eq, mulz_eq, show 0 + ((((j + 1 : Nat) : Int) - 1).toNat * 1) = j by omega, Body.cells]; simp only [List.map_append, List.map_replicate]; rw [List.getElem?_append_left (by simp)]; simp⟩) ?_
   refine ar_yld (Y := yS n K) (h' := hsS K j (n' / 4) (n' % 4 :: acc)) (v := true) ⟨j, n', acc, _, by omega, hok, h2, by rw [show ((j + 1 : Nat) : Int) - 1 = (j : Int) by omega]; rfl, rfl, rfl, rfl⟩ rfl rfl rfl rfl rfl rfl rfl rfl ?_
   refine pE ?_
   refine ag_false rfl (rfl) ?_
   refine ag_skip ?_
   refine iR ?_
   refine pA ?_
   refine pC ?_ ?_
   ·unfold inI64; omega
   refine pE ?_
   refine ag_ent (ent_weak (g' := (stspri_0 n K l (j, n' / 4, n' % 4 :: acc)).1) (h' := (stspri_0 n K l (j, n' / 4, n' % 4 :: acc)).2) [0, 1, 2, 3] rfl rfl rfl rfl ?_ ?_ rfl) ?_
   ·exact ⟨⟨rfl, by exact eqI (by omega)⟩, ⟨rfl, rfl⟩, ⟨rfl, rfl⟩, trivial⟩
   ·exact ⟨⟨rfl, rfl, rfl⟩, ⟨rfl, rfl, rfl⟩, ⟨rfl, rfl, rfl⟩, ⟨rfl, rfl, rfl⟩, trivial⟩
   have hnx := hrec (j, n' / 4, n' % 4 :: acc)
   refine hnx ?_ ?_
   ·exact ⟨by simp; omega, by unfold okS at hok ⊢; omega, by simpa [oDigL] using h2⟩
   ·exact Nat.lt_succ_self j
  ·intro h8
   refine ag_exit rfl ?_
   refine ag_end tOk Tryz.func110 rfl rfl (trivial) ?_
   exact ⟨n', by rw [← digL_nil (k := k) (by omega) h2]; rw [show k = 0 by omega]; rfl⟩
 ·rintro h' ⟨n', rfl⟩
  refine ag_inBlock ?_
  refine zB ?_
  refine pB ?_
  refine pE ?_
  refine ag_ret tOk Tryz.func96 rfl rfl (⟨trivial, trivial⟩) ?_
  exact ⟨1, rfl, rfl⟩
def digA (text : List UInt8) : List Int := oDigL 12 (intB ((sha text).take 3))
def digC (text : List UInt8) : List Int := oDigL 3 (36 - (digA text).sum)
def digs (text : List UInt8) : List Int := digA text ++ digC text
theorem digA_length (t : List UInt8) : (digA t).length = 12 := digL_length _ _
theorem digC_length (t : List UInt8) : (digC t).length = 3 := digL_length _ _
theorem digs_length (t : List UInt8) : (digs t).length = 15 := by simp [digs, digA_length, digC_length]
theorem digs_bound (t : List UInt8) : ∀ d ∈ digs t, 0 ≤ d ∧ d ≤ 3 := by
 intro d hd
 rcases List.mem_append.1 hd with h | h
 ·exact digL_bound _ _ d h
 ·exact digL_bound _ _ d h
theorem digA_sum (t : List UInt8) : 0 ≤ (digA t).sum ∧ (digA t).sum ≤ 36 := by
 have := sum_bound (digA t) (digL_bound _ _)
 rw [digA_length] at this
 omega
theorem int3_ok (b : List UInt8) (h : 3 ≤ b.length) : okS (intB (b.take 3)) := by
 have h1 := intF_bound 3 b h
 unfold okS intB
 rw [List.take_of_length_le (by simp; omega)]
 have : (256 : Int) ^ 3 = 16777216 := by decide
 omega
def stDg_0 (text : List UInt8) : Nat → Regs × Hp := fun i => ([(12, .sl 0 0 12 1), (13, .r (.int .i64 12)), (14, .r (.int .i64 (i : Int))), (4, .r (.int .i64 (36 - ((digA text).take i).sum))), (3, .sl 0 0 12 1)], ⟨1, [(0, some (.plain (iL (digA text))))], false⟩)
def prDg_0 (text : List UInt8) : Nat → Prop := fun i => i ≤ 12
theorem w_oDigits (text : List UInt8) (hb : text.length ≤ 140737488355000) : Own Tryz.prog 85 [.r (.bs text)] 15 1 (.plain (iL (digs text))) := by
 have hA := digA_length text
 have hC := digC_length text
 have hsum := digA_sum text
 refine spec_of_go (N := 26) Tryz.func85 rfl (by decide) rfl rfl ?_
 refine zB ?_
 refine pG ?_
 refine pA ?_
 refine ar_pur (w_Sum text hb) rfl rfl rfl rfl rfl rfl rfl ?_
 refine pC ?_ ?_
 ·rw [sha_length]; simp only [boundsOk]; omega
 refine ar_pur (w_Int ((sha text).take 3)) rfl rfl rfl rfl rfl rfl rfl ?_
 refine ar_own (w_spread (intB ((sha text).take 3)) 12 (int3_ok _ (by rw [sha_length]; omega)) (by omega)) rfl rfl rfl rfl rfl rfl rfl ?_
 refine pG ?_
 refine pF ?_
 refine zB ?_
 iterate 2 refine pA ?_
 refine pE ?_
 refine ag_block ?_
 refine ag_loopS (stDg_0 text) (prDg_0 text) (fun (i : Nat) => 12 - i) 0 (ent_weak [0] rfl rfl rfl rfl ?_ ?_ rfl) (show prDg_0 text 0 from ?_) ?_
 ·exact ⟨⟨rfl, rfl⟩, ⟨rfl, rfl⟩, ⟨rfl, rfl⟩, ⟨rfl, rfl⟩, ⟨rfl, rfl⟩, trivial⟩
 ·exact ⟨⟨rfl, rfl, rfl⟩, trivial⟩
 ·exact Nat.zero_le _
 rintro i hp hrec
 have hp : i ≤ 12 := hp
 refine zB ?_
 refine pF ?_
 refine ag_if rfl ?_ ?_
 ·intro h15
  have hlt : i < (digA text).length := by omega
  obtain ⟨d, hd⟩ := getI hlt
  have hs1 := sum_bound ((digA text).take i) (fun d hd => digL_bound _ _ d (List.mem_of_mem_take hd))
  have hs2 := digL_bound _ _ d (memI hd)
  rw [List.length_take] at hs1
  refine sS ?_
  refine bX ?_
  refine pC ?_ ?_
  ·exact ⟨by omega, by omega⟩
  refine ar_loadAs tOk (.r (.int .i64 d)) rfl rfl rfl rfl rfl rfl rfl (.inl ⟨rfl, by show (((iL (digA text)).map AVal.r))[_]? = _; simp [iL, addo_eq, mulz_eq, hd]⟩) ?_
  refine pE ?_
  refine ag_reg ?_
  iterate 2 refine pA ?_
  refine pC ?_ ?_
  ·unfold inI64; omega
  refine pE ?_
  refine iR ?_
  refine pC ?_ ?_
  ·unfold inI64; omega
  refine pE ?_
  refine ag_ent (ent_weak (g' := (stDg_0 text (i + 1)).1) (h' := (stDg_0 text (i + 1)).2) [0] rfl rfl rfl rfl ?_ ?_ rfl) ?_
  ·exact ⟨⟨rfl, rfl⟩, ⟨rfl, rfl⟩, ⟨rfl, by exact eqI (by omega)⟩, ⟨rfl, by exact eqI (by rw [sum_next hd]; omega)⟩, ⟨rfl, rfl⟩, trivial⟩
  ·exact ⟨⟨rfl, rfl, rfl⟩, trivial⟩
  have hnx := hrec (i + 1)
  refine hnx ?_ ?_
  ·show i + 1 ≤ 12; omega
  ·show 12 - (i + 1) < 12 - i; omega
 ·intro h15
  have hi : i = 12 := by omega
  refine ag_exit rfl ?_
  refine zB ?_
  iterate 2 refine pA ?_
  refine ar_ent (ent_reg 23 (.r (.int .i64 (36 - (digA text).sum))) (by show AVal.r (.int _ _) = _; exact eqI (by rw [hi, List.take_of_length_le (by omega)]))) ?_
  refine ar_own (w_spread (36 - (digA text).sum) 3 (by unfold okS; omega) (by omega)) rfl rfl rfl rfl rfl rfl rfl ?_
  refine pP ?_ ?_
  ·refine ⟨⟨?_, ?_, ?_⟩, ⟨?_, ?_⟩, ⟨?_, ?_⟩, ?_⟩ <;> first | trivial | decide | omega | (simp [iL, hA, hC, digL_length]; done) | (simp [iL, hA, digL_length]; omega)
  refine pE ?_
  refine ag_ret tOk Tryz.func85 rfl rfl (by simp) ?_
  refine ⟨_, rfl, eqPl ?_⟩
  simp only [cutA_eq, List.drop_zero, digs, iL, List.map_append]
  rw [List.take_of_length_le (by simp [digL_length, hA]), List.take_of_length_le (by simp [digL_length])]
  rfl
def dig4 (x : Int) : List Int := [x / 64, x / 16 % 4, x / 4 % 4, x % 4]
theorem tdiv_nn {x : Int} (h : 0 ≤ x) (y : Int) : x.tdiv y = x / y := Int.tdiv_eq_ediv_of_nonneg h
theorem tmod_nn {x : Int} (h : 0 ≤ x) (y : Int) : x.tmod y = x % y := Int.tmod_eq_emod_of_nonneg h
theorem digA_eq {t : List UInt8} {a b c : UInt8} {r : List UInt8} (h : sha t = a :: b :: c :: r) : digA t = dig4 a.toNat ++ dig4 b.toNat ++ dig4 c.toNat := by
 have e : intB ((sha t).take 3) = ((a.toNat : Int) * 256 + b.toNat) * 256 + c.toNat := by
  rw [h]; simp [intB, intF]
 have ha := u8_lt a
 have hb := u8_lt b
 have hc := u8_lt c
 have ha0 : 0 ≤ (a.toNat : Int) := by omega
 have hb0 : 0 ≤ (b.toNat : Int) := by omega
 have hc0 : 0 ≤ (c.toNat : Int) := by omega
 unfold digA
 rw [e]
 generalize (a.toNat : Int) = x at *
 generalize (b.toNat : Int) = y at *
 generalize (c.toNat : Int) = z at *
 simp only [oDigL, dig4, List.nil_append, List.cons_append, List.cons.injEq, and_true]
 omega
structure D4 (x p u q v r s : Int) : Prop where
 hp : x.tdiv 64 = p
 hu : x.tdiv 16 = u
 hq : u.tmod 4 = q
 hv : x.tdiv 4 = v
 hr : v.tmod 4 = r
 hs : x.tmod 4 = s
 he : dig4 x = [p, q, r, s]
 ix : inI64 x
 ip : inI64 (x.tdiv 64)
 iu : inI64 (x.tdiv 16)
 iv : inI64 (x.tdiv 4)
 hb : ((0 ≤ p ∧ p ≤ 3) ∧ (0 ≤ q ∧ q ≤ 3) ∧ (0 ≤ r ∧ r ≤ 3) ∧ (0 ≤ s ∧ s ≤ 3)) ∧ (0 ≤ u ∧ u ≤ 15) ∧ (0 ≤ v ∧ v ≤ 63)
theorem d4_ex {x : Int} (h0 : 0 ≤ x) (h1 : x < 256) : ∃ p u q v r s, D4 x p u q v r s := by
 refine ⟨x / 64, x / 16, x / 16 % 4, x / 4, x / 4 % 4, x % 4, tdiv_nn h0 _, tdiv_nn h0 _, tmod_nn (by omega) _, tdiv_nn h0 _, tmod_nn (by omega) _, tmod_nn h0 _, rfl, by unfold inI64; omega, ?_, ?_, ?_, ?_⟩
 ·rw [tdiv_nn h0]; unfold inI64; omega
 ·rw [tdiv_nn h0]; unfold inI64; omega
 ·rw [tdiv_nn h0]; unfold inI64; omega
 ·omega
theorem w_rDigits (text : List UInt8) (hb : text.length ≤ 140737488355000) : Own Tryz.prog 58 [.r (.bs text)] 15 1 (.plain (iL (digs text))) := by
 obtain ⟨a, b, c, r, hs⟩ : ∃ a b c r, sha text = a :: b :: c :: r := by
  have hl := sha_length text
  match h : sha text with
  | a :: b :: c :: r => exact ⟨a, b, c, r, rfl⟩
  | [] | [_] | [_, _] => rw [h] at hl; simp at hl
 have hlr : r.length = 29 := by have hl := sha_length text; rw [hs] at hl; simpa using hl
 have hS : Pur Tryz.prog 60 [.r (.bs text)] (.r (.bs (a :: b :: c :: r))) := by rw [← hs]; exact w_rSum text hb
 have hq := digA_eq hs
 have hy0 := u8_lt a
 have hx0 : 0 ≤ (a.toNat : Int) := by omega
 have hy1 := u8_lt b
 have hx1 : 0 ≤ (b.toNat : Int) := by omega
 have hy2 := u8_lt c
 have hx2 : 0 ≤ (c.toNat : Int) := by omega
 obtain ⟨x0, he0⟩ : ∃ x, x = (a.toNat : Int) := ⟨_, rfl⟩
 rw [← he0] at hx0 hy0 hq
 obtain ⟨p0, u0, q0, v0, r0, s0, d0⟩ := d4_ex hx0 hy0
 clear hx0 hy0
 obtain ⟨x1, he1⟩ : ∃ x, x = (b.toNat : Int) := ⟨_, rfl⟩
 rw [← he1] at hx1 hy1 hq
 obtain ⟨p1, u1, q1, v1, r1, s1, d1⟩ := d4_ex hx1 hy1
 clear hx1 hy1
 obtain ⟨x2, he2⟩ : ∃ x, x = (c.toNat : Int) := ⟨_, rfl⟩
 rw [← he2] at hx2 hy2 hq
 obtain ⟨p2, u2, q2, v2, r2, s2, d2⟩ := d4_ex hx2 hy2
 clear hx2 hy2
 rw [d0.he, d1.he, d2.he] at hq
 refine spec_of_go (N := 57) Tryz.func58 rfl (by decide) rfl rfl ?_
 refine zB ?_
 refine pG ?_
 refine pA ?_
 refine ar_pur (hS) rfl rfl rfl rfl rfl rfl rfl ?_
 iterate 2 refine pG ?_
 refine pF ?_
 refine zB ?_
 refine pE ?_
 refine ag_block ?_
 refine ag_unroll ?_
 refine sZ ?_
 refine pA ?_
 refine pE ?_
 refine vA ?_
 refine sS ?_
 refine bX ?_
 iterate 2 refine pA ?_
 refine pC ?_ ?_
 ·simp only [List.length_cons]; omega
 refine ar_load tOk rfl rfl rfl ?_ ?_
 ·show _ < List.length _; simp
 refine ar_ent (ent_reg 17 (.r (.int .u8 x0)) (by show AVal.r (.int _ _) = _; exact eqI (by rw [he0]; rfl))) ?_
 refine pC ?_ ?_
 ·exact d0.ix
 refine pG ?_
 iterate 2 refine pA ?_
 refine pC ?_ ?_
 ·exact ⟨d0.ip, by decide⟩
 refine ar_ent (ent_reg 21 (.r (.int .i64 p0)) (by show AVal.r (.int _ _) = _; exact eqI d0.hp)) ?_
 refine pA ?_
 refine pC ?_ ?_
 ·exact ⟨d0.iu, by decide⟩
 refine ar_ent (ent_reg 23 (.r (.int .i64 u0)) (by show AVal.r (.int _ _) = _; exact eqI d0.hu)) ?_
 refine pC ?_ ?_
 ·decide
 refine ar_ent (ent_reg 24 (.r (.int .i64 q0)) (by show AVal.r (.int _ _) = _; exact eqI d0.hq)) ?_
 refine pA ?_
 refine pC ?_ ?_
 ·exact ⟨d0.iv, by decide⟩
 refine ar_ent (ent_reg 26 (.r (.int .i64 v0)) (by show AVal.r (.int _ _) = _; exact eqI d0.hv)) ?_
 refine pC ?_ ?_
 ·decide
 refine ar_ent (ent_reg 27 (.r (.int .i64 r0)) (by show AVal.r (.int _ _) = _; exact eqI d0.hr)) ?_
 refine pA ?_
 refine pC ?_ ?_
 ·decide
 refine ar_ent (ent_reg 29 (.r (.int .i64 s0)) (by show AVal.r (.int _ _) = _; exact eqI d0.hs)) ?_
 refine ar_qd rfl (qop_buildRo tOk rfl ?_ rfl) rfl rfl rfl rfl ?_
 ·repeat any_goals (first | trivial | decide | omega | (simp; done) | (rw [wu8]; omega) | refine ⟨?_, ?_⟩)
 refine pP ?_ ?_
 ·refine ⟨⟨?_, ?_, ?_⟩, ⟨?_, ?_⟩, ⟨?_, ?_⟩, ?_⟩ <;> first | trivial | decide | omega | (simp; done) | (simp [iL, dig4]; done) | (simp [iL, dig4]; omega)
 refine pE ?_
 refine ag_reg ?_
 iterate 2 refine pA ?_
 refine pC ?_ ?_
 ·exact ⟨d0.ip, by decide⟩
 refine ar_ent (ent_reg 34 (.r (.int .i64 p0)) (by show AVal.r (.int _ _) = _; exact eqI d0.hp)) ?_
 refine pC ?_ ?_
 ·have hb := d0.hb
  unfold inI64; omega
 refine pA ?_
 refine pC ?_ ?_
 ·exact ⟨d0.iu, by decide⟩
 refine ar_ent (ent_reg 37 (.r (.int .i64 u0)) (by show AVal.r (.int _ _) = _; exact eqI d0.hu)) ?_
 refine pC ?_ ?_
 ·decide
 refine ar_ent (ent_reg 38 (.r (.int .i64 q0)) (by show AVal.r (.int _ _) = _; exact eqI d0.hq)) ?_
 refine pC ?_ ?_
 ·have hb := d0.hb
  unfold inI64; omega
 refine pA ?_
 refine pC ?_ ?_
 ·exact ⟨d0.iv, by decide⟩
 refine ar_ent (ent_reg 41 (.r (.int .i64 v0)) (by show AVal.r (.int _ _) = _; exact eqI d0.hv)) ?_
 refine pC ?_ ?_
 ·decide
 refine ar_ent (ent_reg 42 (.r (.int .i64 r0)) (by show AVal.r (.int _ _) = _; exact eqI d0.hr)) ?_
 refine pC ?_ ?_
 ·have hb := d0.hb
  unfold inI64; omega
 refine pA ?_
 refine pC ?_ ?_
 ·decide
 refine ar_ent (ent_reg 45 (.r (.int .i64 s0)) (by show AVal.r (.int _ _) = _; exact eqI d0.hs)) ?_
 refine pC ?_ ?_
 ·have hb := d0.hb
  unfold inI64; omega
 refine pE ?_
 refine ag_ent (ent_weak (g' := [(3, .r (.bs (a :: b :: c :: r))), (4, .sl 0 0 4 1), (5, .r (.int .i64 (36 - p0 - q0 - r0 - s0))), (6, .r (.int .i64 0))]) (h' := ⟨1, [(0, some (.plain (iL [p0, q0, r0, s0])))], false⟩) [0] rfl rfl rfl rfl ?_ ?_ rfl) ?_
 ·exact ⟨⟨rfl, rfl⟩, ⟨rfl, rfl⟩, ⟨rfl, rfl⟩, ⟨rfl, rfl⟩, trivial⟩
 ·exact ⟨⟨rfl, rfl, eqPl (by rfl)⟩, trivial⟩
 obtain ⟨e0, hee0⟩ : ∃ e, e = 36 - p0 - q0 - r0 - s0 := ⟨_, rfl⟩
 have heb0 : 24 ≤ e0 ∧ e0 ≤ 36 := by have hb := d0.hb; omega
 rw [← hee0]
 refine iR ?_
 refine pA ?_
 refine pC ?_ ?_
 ·unfold inI64; omega
 refine pE ?_
 refine ag_again ?_
 refine sZ ?_
 refine pA ?_
 refine pE ?_
 refine vA ?_
 refine sS ?_
 refine bX ?_
 iterate 2 refine pA ?_
 refine pC ?_ ?_
 ·simp only [List.length_cons]; omega
 refine ar_load tOk rfl rfl rfl ?_ ?_
 ·show _ < List.length _; simp
 refine ar_ent (ent_reg 17 (.r (.int .u8 x1)) (by show AVal.r (.int _ _) = _; exact eqI (by rw [he1]; rfl))) ?_
 refine pC ?_ ?_
 ·exact d1.ix
 refine pG ?_
 iterate 2 refine pA ?_
 refine pC ?_ ?_
 ·exact ⟨d1.ip, by decide⟩
 refine ar_ent (ent_reg 21 (.r (.int .i64 p1)) (by show AVal.r (.int _ _) = _; exact eqI d1.hp)) ?_
 refine pA ?_
 refine pC ?_ ?_
 ·exact ⟨d1.iu, by decide⟩
 refine ar_ent (ent_reg 23 (.r (.int .i64 u1)) (by show AVal.r (.int _ _) = _; exact eqI d1.hu)) ?_
 refine pC ?_ ?_
 ·decide
 refine ar_ent (ent_reg 24 (.r (.int .i64 q1)) (by show AVal.r (.int _ _) = _; exact eqI d1.hq)) ?_
 refine pA ?_
 refine pC ?_ ?_
 ·exact ⟨d1.iv, by decide⟩
 refine ar_ent (ent_reg 26 (.r (.int .i64 v1)) (by show AVal.r (.int _ _) = _; exact eqI d1.hv)) ?_
 refine pC ?_ ?_
 ·decide
 refine ar_ent (ent_reg 27 (.r (.int .i64 r1)) (by show AVal.r (.int _ _) = _; exact eqI d1.hr)) ?_
 refine pA ?_
 refine pC ?_ ?_
 ·decide
 refine ar_ent (ent_reg 29 (.r (.int .i64 s1)) (by show AVal.r (.int _ _) = _; exact eqI d1.hs)) ?_
 refine ar_qd rfl (qop_buildRo tOk rfl ?_ rfl) rfl rfl rfl rfl ?_
 ·repeat any_goals (first | trivial | decide | omega | (simp; done) | (rw [wu8]; omega) | refine ⟨?_, ?_⟩)
 refine pP ?_ ?_
 ·refine ⟨⟨?_, ?_, ?_⟩, ⟨?_, ?_⟩, ⟨?_, ?_⟩, ?_⟩ <;> first | trivial | decide | omega | (simp; done) | (simp [iL, dig4]; done) | (simp [iL, dig4]; omega)
 refine pE ?_
 refine ag_reg ?_
 iterate 2 refine pA ?_
 refine pC ?_ ?_
 ·exact ⟨d1.ip, by decide⟩
 refine ar_ent (ent_reg 34 (.r (.int .i64 p1)) (by show AVal.r (.int _ _) = _; exact eqI d1.hp)) ?_
 refine pC ?_ ?_
 ·have hb := d1.hb
  unfold inI64; omega
 refine pA ?_
 refine pC ?_ ?_
 ·exact ⟨d1.iu, by decide⟩
 refine ar_ent (ent_reg 37 (.r (.int .i64 u1)) (by show AVal.r (.int _ _) = _; exact eqI d1.hu)) ?_
 refine pC ?_ ?_
 ·decide
 refine ar_ent (ent_reg 38 (.r (.int .i64 q1)) (by show AVal.r (.int _ _) = _; exact eqI d1.hq)) ?_
 refine pC ?_ ?_
 ·have hb := d1.hb
  unfold inI64; omega
 refine pA ?_
 refine pC ?_ ?_
 ·exact ⟨d1.iv, by decide⟩
 refine ar_ent (ent_reg 41 (.r (.int .i64 v1)) (by show AVal.r (.int _ _) = _; exact eqI d1.hv)) ?_
 refine pC ?_ ?_
 ·decide
 refine ar_ent (ent_reg 42 (.r (.int .i64 r1)) (by show AVal.r (.int _ _) = _; exact eqI d1.hr)) ?_
 refine pC ?_ ?_
 ·have hb := d1.hb
  unfold inI64; omega
 refine pA ?_
 refine pC ?_ ?_
 ·decide
 refine ar_ent (ent_reg 45 (.r (.int .i64 s1)) (by show AVal.r (.int _ _) = _; exact eqI d1.hs)) ?_
 refine pC ?_ ?_
 ·have hb := d1.hb
  unfold inI64; omega
 refine pE ?_
 refine ag_ent (ent_weak (g' := [(3, .r (.bs (a :: b :: c :: r))), (4, .sl 0 0 8 1), (5, .r (.int .i64 (e0 - p1 - q1 - r1 - s1))), (6, .r (.int .i64 1))]) (h' := ⟨1, [(0, some (.plain (iL [p0, q0, r0, s0, p1, q1, r1, s1])))], false⟩) [1] rfl rfl rfl rfl ?_ ?_ rfl) ?_
 ·exact ⟨⟨rfl, rfl⟩, ⟨rfl, rfl⟩, ⟨rfl, rfl⟩, ⟨rfl, rfl⟩, trivial⟩
 ·exact ⟨⟨rfl, rfl, eqPl (by rfl)⟩, trivial⟩
 obtain ⟨e1, hee1⟩ : ∃ e, e = e0 - p1 - q1 - r1 - s1 := ⟨_, rfl⟩
 have heb1 : 12 ≤ e1 ∧ e1 ≤ 36 := by have hb := d1.hb; omega
 rw [← hee1]
 refine iR ?_
 refine pA ?_
 refine pC ?_ ?_
 ·unfold inI64; omega
 refine pE ?_
 refine ag_again ?_
 refine sZ ?_
 refine pA ?_
 refine pE ?_
 refine vA ?_
 refine sS ?_
 refine bX ?_
 iterate 2 refine pA ?_
 refine pC ?_ ?_
 ·simp only [List.length_cons]; omega
 refine ar_load tOk rfl rfl rfl ?_ ?_
 ·show _ < List.length _; simp
 refine ar_ent (ent_reg 17 (.r (.int .u8 x2)) (by show AVal.r (.int _ _) = _; exact eqI (by rw [he2]; rfl))) ?_
 refine pC ?_ ?_
 ·exact d2.ix
 refine pG ?_
 iterate 2 refine pA ?_
 refine pC ?_ ?_
 ·exact ⟨d2.ip, by decide⟩
 refine ar_ent (ent_reg 21 (.r (.int .i64 p2)) (by show AVal.r (.int _ _) = _; exact eqI d2.hp)) ?_
 refine pA ?_
 refine pC ?_ ?_
 ·exact ⟨d2.iu, by decide⟩
 refine ar_ent (ent_reg 23 (.r (.int .i64 u2)) (by show AVal.r (.int _ _) = _; exact eqI d2.hu)) ?_
 refine pC ?_ ?_
 ·decide
 refine ar_ent (ent_reg 24 (.r (.int .i64 q2)) (by show AVal.r (.int _ _) = _; exact eqI d2.hq)) ?_
 refine pA ?_
 refine pC ?_ ?_
 ·exact ⟨d2.iv, by decide⟩
 refine ar_ent (ent_reg 26 (.r (.int .i64 v2)) (by show AVal.r (.int _ _) = _; exact eqI d2.hv)) ?_
 refine pC ?_ ?_
 ·decide
 refine ar_ent (ent_reg 27 (.r (.int .i64 r2)) (by show AVal.r (.int _ _) = _; exact eqI d2.hr)) ?_
 refine pA ?_
 refine pC ?_ ?_
 ·decide
 refine ar_ent (ent_reg 29 (.r (.int .i64 s2)) (by show AVal.r (.int _ _) = _; exact eqI d2.hs)) ?_
 refine ar_qd rfl (qop_buildRo tOk rfl ?_ rfl) rfl rfl rfl rfl ?_
 ·repeat any_goals (first | trivial | decide | omega | (simp; done) | (rw [wu8]; omega) | refine ⟨?_, ?_⟩)
 refine pP ?_ ?_
 ·refine ⟨⟨?_, ?_, ?_⟩, ⟨?_, ?_⟩, ⟨?_, ?_⟩, ?_⟩ <;> first | trivial | decide | omega | (simp; done) | (simp [iL, dig4]; done) | (simp [iL, dig4]; omega)
 refine pE ?_
 refine ag_reg ?_
 iterate 2 refine pA ?_
 refine pC ?_ ?_
 ·exact ⟨d2.ip, by decide⟩
 refine ar_ent (ent_reg 34 (.r (.int .i64 p2)) (by show AVal.r (.int _ _) = _; exact eqI d2.hp)) ?_
 refine pC ?_ ?_
 ·have hb := d2.hb
  unfold inI64; omega
 refine pA ?_
 refine pC ?_ ?_
 ·exact ⟨d2.iu, by decide⟩
 refine ar_ent (ent_reg 37 (.r (.int .i64 u2)) (by show AVal.r (.int _ _) = _; exact eqI d2.hu)) ?_
 refine pC ?_ ?_
 ·decide
 refine ar_ent (ent_reg 38 (.r (.int .i64 q2)) (by show AVal.r (.int _ _) = _; exact eqI d2.hq)) ?_
 refine pC ?_ ?_
 ·have hb := d2.hb
  unfold inI64; omega
 refine pA ?_
 refine pC ?_ ?_
 ·exact ⟨d2.iv, by decide⟩
 refine ar_ent (ent_reg 41 (.r (.int .i64 v2)) (by show AVal.r (.int _ _) = _; exact eqI d2.hv)) ?_
 refine pC ?_ ?_
 ·decide
 refine ar_ent (ent_reg 42 (.r (.int .i64 r2)) (by show AVal.r (.int _ _) = _; exact eqI d2.hr)) ?_
 refine pC ?_ ?_
 ·have hb := d2.hb
  unfold inI64; omega
 refine pA ?_
 refine pC ?_ ?_
 ·decide
 refine ar_ent (ent_reg 45 (.r (.int .i64 s2)) (by show AVal.r (.int _ _) = _; exact eqI d2.hs)) ?_
 refine pC ?_ ?_
 ·have hb := d2.hb
  unfold inI64; omega
 refine pE ?_
 refine ag_ent (ent_weak (g' := [(3, .r (.bs (a :: b :: c :: r))), (4, .sl 0 0 12 1), (5, .r (.int .i64 (e1 - p2 - q2 - r2 - s2))), (6, .r (.int .i64 2))]) (h' := ⟨1, [(0, some (.plain (iL [p0, q0, r0, s0, p1, q1, r1, s1, p2, q2, r2, s2])))], false⟩) [1] rfl rfl rfl rfl ?_ ?_ rfl) ?_
 ·exact ⟨⟨rfl, rfl⟩, ⟨rfl, rfl⟩, ⟨rfl, rfl⟩, ⟨rfl, rfl⟩, trivial⟩
 ·exact ⟨⟨rfl, rfl, eqPl (by rfl)⟩, trivial⟩
 obtain ⟨e2, hee2⟩ : ∃ e, e = e1 - p2 - q2 - r2 - s2 := ⟨_, rfl⟩
 have heb2 : 0 ≤ e2 ∧ e2 ≤ 36 := by have hb := d2.hb; omega
 rw [← hee2]
 refine iR ?_
 refine pA ?_
 refine pC ?_ ?_
 ·unfold inI64; omega
 refine pE ?_
 refine ag_again ?_
 refine sZ ?_
 refine pA ?_
 refine pE ?_
 refine vD ?_
 refine ag_exit rfl ?_
 refine ag_seq ?_
 have hsm : (digA text).sum = 36 - e2 := by rw [hq]; simp; omega
 have hsb := digA_sum text
 obtain ⟨R, hRe⟩ : ∃ R, R = 36 - (digA text).sum := ⟨_, rfl⟩
 have hR : 0 ≤ R ∧ R ≤ 36 := by omega
 refine ag_ent (ent_reg 5 (.r (.int .i64 R)) (by show AVal.r (.int _ _) = _; exact eqI (by rw [hRe, hsm]; omega))) ?_
 clear hee0 hee1 hee2 heb0 heb1 heb2 hsm hsb hb hlr
 refine ag_reg ?_
 iterate 2 refine pA ?_
 refine pC ?_ ?_
 ·refine ⟨?_, by decide⟩
  show inI64 (Int.tdiv _ _)
  rw [Int.tdiv_eq_ediv_of_nonneg (by omega)]; unfold inI64; omega
 refine ar_ent (ent_reg 49 (.r (.int .i64 (R / 16))) (by show AVal.r (.int _ _) = _; exact eqI (by simp only [tdiv_nn hR.1, tmod_nn (show 0 ≤ R / 4 by omega), tmod_nn hR.1]))) ?_
 refine pA ?_
 refine pC ?_ ?_
 ·refine ⟨?_, by decide⟩
  show inI64 (Int.tdiv _ _)
  rw [Int.tdiv_eq_ediv_of_nonneg (by omega)]; unfold inI64; omega
 refine ar_ent (ent_reg 51 (.r (.int .i64 (R / 4))) (by show AVal.r (.int _ _) = _; exact eqI (by simp only [tdiv_nn hR.1, tmod_nn (show 0 ≤ R / 4 by omega), tmod_nn hR.1]))) ?_
 refine pC ?_ ?_
 ·decide
 refine ar_ent (ent_reg 52 (.r (.int .i64 (R / 4 % 4))) (by show AVal.r (.int _ _) = _; exact eqI (by simp only [tdiv_nn hR.1, tmod_nn (show 0 ≤ R / 4 by omega), tmod_nn hR.1]))) ?_
 refine pA ?_
 refine pC ?_ ?_
 ·decide
 refine ar_ent (ent_reg 54 (.r (.int .i64 (R % 4))) (by show AVal.r (.int _ _) = _; exact eqI (by simp only [tdiv_nn hR.1, tmod_nn (show 0 ≤ R / 4 by omega), tmod_nn hR.1]))) ?_
 refine ar_qd rfl (qop_buildRo tOk rfl ?_ rfl) rfl rfl rfl rfl ?_
 ·repeat any_goals (first | trivial | decide | omega | (simp; done) | (rw [wu8]; omega) | refine ⟨?_, ?_⟩)
 refine pP ?_ ?_
 ·refine ⟨⟨?_, ?_, ?_⟩, ⟨?_, ?_⟩, ⟨?_, ?_⟩, ?_⟩ <;> first | trivial | decide | omega | (simp; done) | (simp [iL, dig4]; done) | (simp [iL, dig4]; omega)
 refine pE ?_
 refine ag_ret tOk Tryz.func58 rfl rfl (by simp) ?_
 refine ⟨_, rfl, eqPl ?_⟩
 rw [show digs text = [p0, q0, r0, s0, p1, q1, r1, s1, p2, q2, r2, s2, R / 16, R / 4 % 4, R % 4] by
  rw [digs, hq, digC, ← hRe]
  simp [oDigL]
  omega]
 rfl
end Go.Proofs.YtccdhgmkjakjkaaGreat
