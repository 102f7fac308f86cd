/-
  WALKS: the law BidBack. (Printed by gen.py out of w_lbid2.py.)
-/
import Derived.Test.YtnodpljgcdkbkaaBText
import Derived.Test.YtnodpljgcdkbkaaLMss
namespace Go.Proofs.Ytnodpljgcdkbkaa
open Go
set_option maxRecDepth 20000
set_option linter.unusedVariables false
set_option linter.unusedSimpArgs false
def sgB (b : BidV) (s : List UInt8) : BidV := ⟨b.r, b.a, b.x0, b.x1, b.x2, b.x3, b.e, s⟩
def plB (b : BidV) : BidV := ⟨b.r, b.a, b.x0, b.x1, b.x2, b.x3, b.e, []⟩
theorem plB_ok {b : BidV} (h : b.ok) : (plB b).ok := ⟨h.a, h.h0, h.h1, h.h2, h.h3, by simp [plB]⟩
theorem sgB_ok {b : BidV} (h : b.ok) {s : List UInt8} (hs : s.length ≤ 140737488351232) : (sgB b s).ok := ⟨h.a, h.h0, h.h1, h.h2, h.h3, hs⟩
theorem bidE_39 (b : BidV) : bidE b = 0 ∨ bidE b = 39 := by
  unfold bidE
  split
  · exact .inr rfl
  · unfold invE; split
    · exact .inr rfl
    · exact .inl rfl
theorem bidE_sg {b : BidV} {s : List UInt8} (hs : s.length ≤ 1024) : bidE (sgB b s) = bidE (plB b) := by
  have e : bidBad (sgB b s) ↔ bidBad (plB b) := by
    unfold bidBad amB cB sgB plB
    simp only [List.length_nil]
    constructor
    · rintro (h | h | h | h | h | h)
      · exact .inl h
      · exact .inr (.inl h)
      · exact .inr (.inr (.inl h))
      · exact .inr (.inr (.inr (.inl h)))
      · exact .inr (.inr (.inr (.inr (.inl h))))
      · omega
    · rintro (h | h | h | h | h | h)
      · exact .inl h
      · exact .inr (.inl h)
      · exact .inr (.inr (.inl h))
      · exact .inr (.inr (.inr (.inl h)))
      · exact .inr (.inr (.inr (.inr (.inl h))))
      · omega
  by_cases h : bidBad (plB b)
  · rw [bidE, if_pos (e.2 h), bidE, if_pos h]
  · rw [bidE, if_neg (fun q => h (e.1 q)), bidE, if_neg h]; rfl
theorem txtB_sg {b : BidV} {s : List UInt8} (hs : s.length ≤ 1024) : txtB (sgB b s) = txtB (plB b) := by
  unfold txtB; rw [bidE_sg hs]; rfl
theorem valB_sg {b : BidV} (hE : bidE (plB b) = 0) (seed : List UInt8) {n : Nat} (hn : n < 8) : valB (rootL seed) (sgB b (sigL seed n (txtB (plB b)))) = true := by
  have hl := sigL_length seed hn (txtB (plB b))
  have hv := vres_sig seed hn (txtB (plB b))
  generalize hS : sigL seed n (txtB (plB b)) = S at hl hv
  refine decide_eq_true ⟨by rw [bidE_sg (by omega)]; exact hE, ?_⟩
  rw [txtB_sg (by omega)]
  show vok (rootL seed) (txtB (plB b)) S
  by_cases h : vok (rootL seed) (txtB (plB b)) S
  · exact h
  · rw [vres, if_neg h] at hv; simp at hv
def seedL (r : Int) : List UInt8 := [114, 111, 117, 116, 101, 114] ++ [UInt8.ofNat (IntKind.u8.wrap r).toNat]
theorem seedL_length (r : Int) : (seedL r).length = 7 := rfl
theorem w_bSeed (r : Int) : Pur Try.prog 29 [.r (.int .i64 r)] (.r (.str (seedL r))) := by
  refine spec_of_go (N := 8) Try.func29 rfl (by decide) rfl rfl ?_
  refine zB ?_
  refine pA ?_
  refine zC ?_
  iterate 2 refine pA ?_
  refine ar_qd rfl (qop_buildRo tOk rfl ?_ rfl) rfl rfl rfl rfl ?_
  · repeat any_goals (first | trivial | decide | omega | (simp; done) | (rw [wu8]; omega) | refine ⟨?_, ?_⟩)
  refine pA ?_
  refine ar_pure tOk rfl rfl rfl ?_ ?_
  · show 7 ≤ 9223372036854775807
    decide
  refine pA ?_
  refine ar_nil ?_
  refine ag_ret tOk Try.func29 rfl rfl (by simp) ?_
  rfl
theorem w_bSignE (b : BidV) (hb : b.ok) (s : List UInt8) (n : Int) (hs : s.length ≤ 140737488352000) (hE : bidE (plB b) ≠ 0) : Pur Try.prog 30 [keyA s n, bidA b] (.tuple [bidA bid0, keyA [] 0, .r (.int .i64 (bidE (plB b)))]) := by
  have cE := w_bCheck (plB b)
  generalize bidE (plB b) = E at hE cE
  refine spec_of_go (N := 35) Try.func30 rfl (by decide) rfl rfl ?_
  refine zB ?_
  iterate 2 refine ar_new tOk rfl rfl rfl trivial ?_
  refine ar_new tOk rfl rfl rfl ?_ ?_
  · simp
  refine ar_new tOk rfl rfl rfl ?_ ?_
  · simp
  refine pA ?_
  refine zC ?_
  refine pA ?_
  refine ar_store (h' := ⟨4, [(1, some (.mixed ((bidC (plB b)).map .r))), (3, some (.mixed [.r (.str []), .r (.int .i64 0)])), (2, some (.mixed ((bidC bid0).map .r))), (1, some (.mixed ((bidC b).map .r))), (0, some (.mixed [.r (.str s), .r (.int .i64 n)]))], false⟩) (c := True) tOk (by kernel_rfl) rfl rfl trivial ?_
  refine ar_nil ?_
  refine ag_ent (ent_weak (g' := [(2, .ptr 0 0), (3, .ptr 1 0), (4, .ptr 2 0), (5, .ptr 3 0)]) (h' := ⟨4, [(0, some (.mixed [.r (.str s), .r (.int .i64 n)])), (1, some (.mixed ((bidC (plB b)).map .r))), (2, some (.mixed ((bidC bid0).map .r))), (3, some (.mixed [.r (.str []), .r (.int .i64 0)]))], false⟩) [0, 1, 2, 3] rfl rfl rfl rfl ?_ ?_ rfl) ?_
  · exact ⟨⟨rfl, rfl⟩, ⟨rfl, rfl⟩, ⟨rfl, rfl⟩, ⟨rfl, rfl⟩, trivial⟩
  · exact ⟨⟨rfl, rfl, rfl⟩, ⟨rfl, rfl, rfl⟩, ⟨rfl, rfl, rfl⟩, ⟨rfl, rfl, rfl⟩, trivial⟩
  refine ag_seq ?_
  refine zB ?_
  refine pB ?_
  refine ar_pur (cE) rfl rfl rfl rfl rfl rfl rfl ?_
  refine pA ?_
  refine ar_nil ?_
  refine ag_ent (ent_weak (g' := [(2, .ptr 0 0), (3, .ptr 1 0), (4, .ptr 2 0), (5, .ptr 3 0), (7, .r (.int .i64 E))]) (h' := ⟨4, [(0, some (.mixed [.r (.str s), .r (.int .i64 n)])), (1, some (.mixed ((bidC (plB b)).map .r))), (2, some (.mixed ((bidC bid0).map .r))), (3, some (.mixed [.r (.str []), .r (.int .i64 0)]))], false⟩) [0, 1, 2, 3] rfl rfl rfl rfl ?_ ?_ rfl) ?_
  · exact ⟨⟨rfl, rfl⟩, ⟨rfl, rfl⟩, ⟨rfl, rfl⟩, ⟨rfl, rfl⟩, ⟨rfl, rfl⟩, trivial⟩
  · exact ⟨⟨rfl, rfl, rfl⟩, ⟨rfl, rfl, rfl⟩, ⟨rfl, rfl, rfl⟩, ⟨rfl, rfl, rfl⟩, trivial⟩
  refine zB ?_
  iterate 2 refine pA ?_
  refine ar_nil ?_
  refine ag_true rfl (decide_eq_true hE) ?_
  refine zB ?_
  refine ar_pure tOk rfl rfl rfl ?_ ?_
  · simp
  refine ar_pure tOk rfl rfl rfl ?_ ?_
  · simp
  refine pA ?_
  refine ar_store (h' := ⟨4, [(2, some (.mixed ((bidC bid0).map .r))), (0, some (.mixed [.r (.str s), .r (.int .i64 n)])), (1, some (.mixed ((bidC (plB b)).map .r))), (2, some (.mixed ((bidC bid0).map .r))), (3, some (.mixed [.r (.str []), .r (.int .i64 0)]))], false⟩) (c := True) tOk (by kernel_rfl) rfl rfl trivial ?_
  refine ar_store (h' := ⟨4, [(3, some (.mixed [.r (.str []), .r (.int .i64 0)])), (2, some (.mixed ((bidC bid0).map .r))), (0, some (.mixed [.r (.str s), .r (.int .i64 n)])), (1, some (.mixed ((bidC (plB b)).map .r))), (2, some (.mixed ((bidC bid0).map .r))), (3, some (.mixed [.r (.str []), .r (.int .i64 0)]))], false⟩) (c := True) tOk (by kernel_rfl) rfl rfl trivial ?_
  refine pA ?_
  refine ar_nil ?_
  refine ag_ret tOk Try.func30 rfl rfl (by first | trivial | exact ⟨trivial, trivial⟩ | simp) ?_
  rfl
theorem w_bSignB (b : BidV) (hb : b.ok) (s : List UInt8) (n : Int) (hs : s.length ≤ 140737488352000) (hE : bidE (plB b) = 0) (hn : n < 0 ∨ 8 < n) : Pur Try.prog 30 [keyA s n, bidA b] (.tuple [bidA bid0, keyA [] 0, .r (.int .i64 9)]) := by
  have cE := w_bCheck (plB b)
  rw [hE] at cE
  have cT := w_bText (plB b) (plB_ok hb)
  have tl := txtB_length (plB b)
  have cS := w_mSignA s n (txtB (plB b)) hs (by omega)
  generalize txtB (plB b) = TX at cT cS tl ⊢
  rw [sgnT, if_pos hn] at cS
  refine spec_of_go (N := 35) Try.func30 rfl (by decide) rfl rfl ?_
  refine zB ?_
  iterate 2 refine ar_new tOk rfl rfl rfl trivial ?_
  refine ar_new tOk rfl rfl rfl ?_ ?_
  · simp
  refine ar_new tOk rfl rfl rfl ?_ ?_
  · simp
  refine pA ?_
  refine zC ?_
  refine pA ?_
  refine ar_store (h' := ⟨4, [(1, some (.mixed ((bidC (plB b)).map .r))), (3, some (.mixed [.r (.str []), .r (.int .i64 0)])), (2, some (.mixed ((bidC bid0).map .r))), (1, some (.mixed ((bidC b).map .r))), (0, some (.mixed [.r (.str s), .r (.int .i64 n)]))], false⟩) (c := True) tOk (by kernel_rfl) rfl rfl trivial ?_
  refine ar_nil ?_
  refine ag_ent (ent_weak (g' := [(2, .ptr 0 0), (3, .ptr 1 0), (4, .ptr 2 0), (5, .ptr 3 0)]) (h' := ⟨4, [(0, some (.mixed [.r (.str s), .r (.int .i64 n)])), (1, some (.mixed ((bidC (plB b)).map .r))), (2, some (.mixed ((bidC bid0).map .r))), (3, some (.mixed [.r (.str []), .r (.int .i64 0)]))], false⟩) [0, 1, 2, 3] rfl rfl rfl rfl ?_ ?_ rfl) ?_
  · exact ⟨⟨rfl, rfl⟩, ⟨rfl, rfl⟩, ⟨rfl, rfl⟩, ⟨rfl, rfl⟩, trivial⟩
  · exact ⟨⟨rfl, rfl, rfl⟩, ⟨rfl, rfl, rfl⟩, ⟨rfl, rfl, rfl⟩, ⟨rfl, rfl, rfl⟩, trivial⟩
  refine ag_seq ?_
  refine zB ?_
  refine pB ?_
  refine ar_pur (cE) rfl rfl rfl rfl rfl rfl rfl ?_
  refine pA ?_
  refine ar_nil ?_
  refine ag_ent (ent_weak (g' := [(2, .ptr 0 0), (3, .ptr 1 0), (4, .ptr 2 0), (5, .ptr 3 0), (7, .r (.int .i64 0))]) (h' := ⟨4, [(0, some (.mixed [.r (.str s), .r (.int .i64 n)])), (1, some (.mixed ((bidC (plB b)).map .r))), (2, some (.mixed ((bidC bid0).map .r))), (3, some (.mixed [.r (.str []), .r (.int .i64 0)]))], false⟩) [0, 1, 2, 3] rfl rfl rfl rfl ?_ ?_ rfl) ?_
  · exact ⟨⟨rfl, rfl⟩, ⟨rfl, rfl⟩, ⟨rfl, rfl⟩, ⟨rfl, rfl⟩, ⟨rfl, rfl⟩, trivial⟩
  · exact ⟨⟨rfl, rfl, rfl⟩, ⟨rfl, rfl, rfl⟩, ⟨rfl, rfl, rfl⟩, ⟨rfl, rfl, rfl⟩, trivial⟩
  refine zB ?_
  iterate 2 refine pA ?_
  refine ar_nil ?_
  refine ag_false rfl (by rfl) ?_
  refine ag_skip ?_
  refine ag_seq ?_
  apply ag_draw1 [] (by kernel_rfl) (by kernel_rfl)
  iterate 2 refine aq_load0 tOk rfl (by kernel_rfl) rfl rfl trivial ?_
  refine aq_pur (cT) rfl rfl rfl rfl rfl rfl rfl ?_
  refine aq_pur (cS) rfl rfl rfl rfl rfl rfl rfl ?_
  iterate 5 refine aq_pure tOk rfl rfl rfl trivial ?_
  refine aq_store10 (h' := ⟨4, [(0, some (.mixed [.r (.str []), .r (.int .i64 0)])), (0, some (.mixed [.r (.str s), .r (.int .i64 n)])), (1, some (.mixed ((bidC (plB b)).map .r))), (2, some (.mixed ((bidC bid0).map .r))), (3, some (.mixed [.r (.str []), .r (.int .i64 0)]))], false⟩) (c := True) tOk (by kernel_rfl) rfl rfl rfl trivial ?_
  refine aq_pure tOk rfl rfl rfl trivial ?_
  refine aq_nil rfl ?_
  refine ag_ent (ent_weak (g' := [(2, .ptr 0 0), (3, .ptr 1 0), (4, .ptr 2 0), (5, .ptr 3 0), (8, .r (.str [])), (9, .r (.int .i64 9))]) (h' := ⟨4, [(0, some (.mixed [.r (.str []), .r (.int .i64 0)])), (1, some (.mixed ((bidC (plB b)).map .r))), (2, some (.mixed ((bidC bid0).map .r))), (3, some (.mixed [.r (.str []), .r (.int .i64 0)]))], false⟩) [0, 1, 2, 3] rfl rfl rfl rfl ?_ ?_ rfl) ?_
  · exact ⟨⟨rfl, rfl⟩, ⟨rfl, rfl⟩, ⟨rfl, rfl⟩, ⟨rfl, rfl⟩, ⟨rfl, rfl⟩, ⟨rfl, rfl⟩, trivial⟩
  · exact ⟨⟨rfl, rfl, rfl⟩, ⟨rfl, rfl, rfl⟩, ⟨rfl, rfl, rfl⟩, ⟨rfl, rfl, rfl⟩, trivial⟩
  refine ag_seq ?_
  refine zB ?_
  iterate 2 refine pA ?_
  refine ar_nil ?_
  refine ag_true rfl (by decide) ?_
  refine zB ?_
  refine ar_pure tOk rfl rfl rfl ?_ ?_
  · simp
  refine ar_pure tOk rfl rfl rfl ?_ ?_
  · simp
  refine pA ?_
  refine ar_store (h' := ⟨4, [(2, some (.mixed ((bidC bid0).map .r))), (0, some (.mixed [.r (.str []), .r (.int .i64 0)])), (1, some (.mixed ((bidC (plB b)).map .r))), (2, some (.mixed ((bidC bid0).map .r))), (3, some (.mixed [.r (.str []), .r (.int .i64 0)]))], false⟩) (c := True) tOk (by kernel_rfl) rfl rfl trivial ?_
  refine ar_store (h' := ⟨4, [(3, some (.mixed [.r (.str []), .r (.int .i64 0)])), (2, some (.mixed ((bidC bid0).map .r))), (0, some (.mixed [.r (.str []), .r (.int .i64 0)])), (1, some (.mixed ((bidC (plB b)).map .r))), (2, some (.mixed ((bidC bid0).map .r))), (3, some (.mixed [.r (.str []), .r (.int .i64 0)]))], false⟩) (c := True) tOk (by kernel_rfl) rfl rfl trivial ?_
  refine pA ?_
  refine ar_nil ?_
  refine ag_ret tOk Try.func30 rfl rfl (by first | trivial | exact ⟨trivial, trivial⟩ | simp) ?_
  rfl
theorem w_bSignF (b : BidV) (hb : b.ok) (s : List UInt8) (n : Int) (hs : s.length ≤ 140737488352000) (hE : bidE (plB b) = 0) (hn : n = 8) : Pur Try.prog 30 [keyA s n, bidA b] (.tuple [bidA bid0, keyA [] 0, .r (.int .i64 10)]) := by
  have cE := w_bCheck (plB b)
  rw [hE] at cE
  have cT := w_bText (plB b) (plB_ok hb)
  have tl := txtB_length (plB b)
  have cS := w_mSignA s n (txtB (plB b)) hs (by omega)
  generalize txtB (plB b) = TX at cT cS tl ⊢
  rw [sgnT, if_neg (by omega), if_pos hn] at cS
  refine spec_of_go (N := 35) Try.func30 rfl (by decide) rfl rfl ?_
  refine zB ?_
  iterate 2 refine ar_new tOk rfl rfl rfl trivial ?_
  refine ar_new tOk rfl rfl rfl ?_ ?_
  · simp
  refine ar_new tOk rfl rfl rfl ?_ ?_
  · simp
  refine pA ?_
  refine zC ?_
  refine pA ?_
  refine ar_store (h' := ⟨4, [(1, some (.mixed ((bidC (plB b)).map .r))), (3, some (.mixed [.r (.str []), .r (.int .i64 0)])), (2, some (.mixed ((bidC bid0).map .r))), (1, some (.mixed ((bidC b).map .r))), (0, some (.mixed [.r (.str s), .r (.int .i64 n)]))], false⟩) (c := True) tOk (by kernel_rfl) rfl rfl trivial ?_
  refine ar_nil ?_
  refine ag_ent (ent_weak (g' := [(2, .ptr 0 0), (3, .ptr 1 0), (4, .ptr 2 0), (5, .ptr 3 0)]) (h' := ⟨4, [(0, some (.mixed [.r (.str s), .r (.int .i64 n)])), (1, some (.mixed ((bidC (plB b)).map .r))), (2, some (.mixed ((bidC bid0).map .r))), (3, some (.mixed [.r (.str []), .r (.int .i64 0)]))], false⟩) [0, 1, 2, 3] rfl rfl rfl rfl ?_ ?_ rfl) ?_
  · exact ⟨⟨rfl, rfl⟩, ⟨rfl, rfl⟩, ⟨rfl, rfl⟩, ⟨rfl, rfl⟩, trivial⟩
  · exact ⟨⟨rfl, rfl, rfl⟩, ⟨rfl, rfl, rfl⟩, ⟨rfl, rfl, rfl⟩, ⟨rfl, rfl, rfl⟩, trivial⟩
  refine ag_seq ?_
  refine zB ?_
  refine pB ?_
  refine ar_pur (cE) rfl rfl rfl rfl rfl rfl rfl ?_
  refine pA ?_
  refine ar_nil ?_
  refine ag_ent (ent_weak (g' := [(2, .ptr 0 0), (3, .ptr 1 0), (4, .ptr 2 0), (5, .ptr 3 0), (7, .r (.int .i64 0))]) (h' := ⟨4, [(0, some (.mixed [.r (.str s), .r (.int .i64 n)])), (1, some (.mixed ((bidC (plB b)).map .r))), (2, some (.mixed ((bidC bid0).map .r))), (3, some (.mixed [.r (.str []), .r (.int .i64 0)]))], false⟩) [0, 1, 2, 3] rfl rfl rfl rfl ?_ ?_ rfl) ?_
  · exact ⟨⟨rfl, rfl⟩, ⟨rfl, rfl⟩, ⟨rfl, rfl⟩, ⟨rfl, rfl⟩, ⟨rfl, rfl⟩, trivial⟩
  · exact ⟨⟨rfl, rfl, rfl⟩, ⟨rfl, rfl, rfl⟩, ⟨rfl, rfl, rfl⟩, ⟨rfl, rfl, rfl⟩, trivial⟩
  refine zB ?_
  iterate 2 refine pA ?_
  refine ar_nil ?_
  refine ag_false rfl (by rfl) ?_
  refine ag_skip ?_
  refine ag_seq ?_
  apply ag_draw1 [] (by kernel_rfl) (by kernel_rfl)
  iterate 2 refine aq_load0 tOk rfl (by kernel_rfl) rfl rfl trivial ?_
  refine aq_pur (cT) rfl rfl rfl rfl rfl rfl rfl ?_
  refine aq_pur (cS) rfl rfl rfl rfl rfl rfl rfl ?_
  iterate 5 refine aq_pure tOk rfl rfl rfl trivial ?_
  refine aq_store10 (h' := ⟨4, [(0, some (.mixed [.r (.str []), .r (.int .i64 0)])), (0, some (.mixed [.r (.str s), .r (.int .i64 n)])), (1, some (.mixed ((bidC (plB b)).map .r))), (2, some (.mixed ((bidC bid0).map .r))), (3, some (.mixed [.r (.str []), .r (.int .i64 0)]))], false⟩) (c := True) tOk (by kernel_rfl) rfl rfl rfl trivial ?_
  refine aq_pure tOk rfl rfl rfl trivial ?_
  refine aq_nil rfl ?_
  refine ag_ent (ent_weak (g' := [(2, .ptr 0 0), (3, .ptr 1 0), (4, .ptr 2 0), (5, .ptr 3 0), (8, .r (.str [])), (9, .r (.int .i64 10))]) (h' := ⟨4, [(0, some (.mixed [.r (.str []), .r (.int .i64 0)])), (1, some (.mixed ((bidC (plB b)).map .r))), (2, some (.mixed ((bidC bid0).map .r))), (3, some (.mixed [.r (.str []), .r (.int .i64 0)]))], false⟩) [0, 1, 2, 3] rfl rfl rfl rfl ?_ ?_ rfl) ?_
  · exact ⟨⟨rfl, rfl⟩, ⟨rfl, rfl⟩, ⟨rfl, rfl⟩, ⟨rfl, rfl⟩, ⟨rfl, rfl⟩, ⟨rfl, rfl⟩, trivial⟩
  · exact ⟨⟨rfl, rfl, rfl⟩, ⟨rfl, rfl, rfl⟩, ⟨rfl, rfl, rfl⟩, ⟨rfl, rfl, rfl⟩, trivial⟩
  refine ag_seq ?_
  refine zB ?_
  iterate 2 refine pA ?_
  refine ar_nil ?_
  refine ag_true rfl (by decide) ?_
  refine zB ?_
  refine ar_pure tOk rfl rfl rfl ?_ ?_
  · simp
  refine ar_pure tOk rfl rfl rfl ?_ ?_
  · simp
  refine pA ?_
  refine ar_store (h' := ⟨4, [(2, some (.mixed ((bidC bid0).map .r))), (0, some (.mixed [.r (.str []), .r (.int .i64 0)])), (1, some (.mixed ((bidC (plB b)).map .r))), (2, some (.mixed ((bidC bid0).map .r))), (3, some (.mixed [.r (.str []), .r (.int .i64 0)]))], false⟩) (c := True) tOk (by kernel_rfl) rfl rfl trivial ?_
  refine ar_store (h' := ⟨4, [(3, some (.mixed [.r (.str []), .r (.int .i64 0)])), (2, some (.mixed ((bidC bid0).map .r))), (0, some (.mixed [.r (.str []), .r (.int .i64 0)])), (1, some (.mixed ((bidC (plB b)).map .r))), (2, some (.mixed ((bidC bid0).map .r))), (3, some (.mixed [.r (.str []), .r (.int .i64 0)]))], false⟩) (c := True) tOk (by kernel_rfl) rfl rfl trivial ?_
  refine pA ?_
  refine ar_nil ?_
  refine ag_ret tOk Try.func30 rfl rfl (by first | trivial | exact ⟨trivial, trivial⟩ | simp) ?_
  rfl
theorem w_bSignG (b : BidV) (hb : b.ok) (s : List UInt8) (n : Int) (hs : s.length ≤ 140737488352000) (hE : bidE (plB b) = 0) (hn : 0 ≤ n ∧ n < 8) : Pur Try.prog 30 [keyA s n, bidA b] (.tuple [bidA (sgB b (sigL s n.toNat (txtB (plB b)))), keyA s (n + 1), .r (.int .i64 0)]) := by
  have cE := w_bCheck (plB b)
  rw [hE] at cE
  have cT := w_bText (plB b) (plB_ok hb)
  have tl := txtB_length (plB b)
  have cS := w_mSignA s n (txtB (plB b)) hs (by omega)
  generalize txtB (plB b) = TX at cT cS tl ⊢
  rw [sgnT, if_neg (by omega), if_neg (by omega)] at cS
  generalize sigL s n.toNat TX = S at cS ⊢
  refine spec_of_go (N := 35) Try.func30 rfl (by decide) rfl rfl ?_
  refine zB ?_
  iterate 2 refine ar_new tOk rfl rfl rfl trivial ?_
  refine ar_new tOk rfl rfl rfl ?_ ?_
  · simp
  refine ar_new tOk rfl rfl rfl ?_ ?_
  · simp
  refine pA ?_
  refine zC ?_
  refine pA ?_
  refine ar_store (h' := ⟨4, [(1, some (.mixed ((bidC (plB b)).map .r))), (3, some (.mixed [.r (.str []), .r (.int .i64 0)])), (2, some (.mixed ((bidC bid0).map .r))), (1, some (.mixed ((bidC b).map .r))), (0, some (.mixed [.r (.str s), .r (.int .i64 n)]))], false⟩) (c := True) tOk (by kernel_rfl) rfl rfl trivial ?_
  refine ar_nil ?_
  refine ag_ent (ent_weak (g' := [(2, .ptr 0 0), (3, .ptr 1 0), (4, .ptr 2 0), (5, .ptr 3 0)]) (h' := ⟨4, [(0, some (.mixed [.r (.str s), .r (.int .i64 n)])), (1, some (.mixed ((bidC (plB b)).map .r))), (2, some (.mixed ((bidC bid0).map .r))), (3, some (.mixed [.r (.str []), .r (.int .i64 0)]))], false⟩) [0, 1, 2, 3] rfl rfl rfl rfl ?_ ?_ rfl) ?_
  · exact ⟨⟨rfl, rfl⟩, ⟨rfl, rfl⟩, ⟨rfl, rfl⟩, ⟨rfl, rfl⟩, trivial⟩
  · exact ⟨⟨rfl, rfl, rfl⟩, ⟨rfl, rfl, rfl⟩, ⟨rfl, rfl, rfl⟩, ⟨rfl, rfl, rfl⟩, trivial⟩
  refine ag_seq ?_
  refine zB ?_
  refine pB ?_
  refine ar_pur (cE) rfl rfl rfl rfl rfl rfl rfl ?_
  refine pA ?_
  refine ar_nil ?_
  refine ag_ent (ent_weak (g' := [(2, .ptr 0 0), (3, .ptr 1 0), (4, .ptr 2 0), (5, .ptr 3 0), (7, .r (.int .i64 0))]) (h' := ⟨4, [(0, some (.mixed [.r (.str s), .r (.int .i64 n)])), (1, some (.mixed ((bidC (plB b)).map .r))), (2, some (.mixed ((bidC bid0).map .r))), (3, some (.mixed [.r (.str []), .r (.int .i64 0)]))], false⟩) [0, 1, 2, 3] rfl rfl rfl rfl ?_ ?_ rfl) ?_
  · exact ⟨⟨rfl, rfl⟩, ⟨rfl, rfl⟩, ⟨rfl, rfl⟩, ⟨rfl, rfl⟩, ⟨rfl, rfl⟩, trivial⟩
  · exact ⟨⟨rfl, rfl, rfl⟩, ⟨rfl, rfl, rfl⟩, ⟨rfl, rfl, rfl⟩, ⟨rfl, rfl, rfl⟩, trivial⟩
  refine zB ?_
  iterate 2 refine pA ?_
  refine ar_nil ?_
  refine ag_false rfl (by rfl) ?_
  refine ag_skip ?_
  refine ag_seq ?_
  apply ag_draw1 [] (by kernel_rfl) (by kernel_rfl)
  iterate 2 refine aq_load0 tOk rfl (by kernel_rfl) rfl rfl trivial ?_
  refine aq_pur (cT) rfl rfl rfl rfl rfl rfl rfl ?_
  refine aq_pur (cS) rfl rfl rfl rfl rfl rfl rfl ?_
  iterate 5 refine aq_pure tOk rfl rfl rfl trivial ?_
  refine aq_store10 (h' := ⟨4, [(0, some (.mixed [.r (.str s), .r (.int .i64 (n + 1))])), (0, some (.mixed [.r (.str s), .r (.int .i64 n)])), (1, some (.mixed ((bidC (plB b)).map .r))), (2, some (.mixed ((bidC bid0).map .r))), (3, some (.mixed [.r (.str []), .r (.int .i64 0)]))], false⟩) (c := True) tOk (by kernel_rfl) rfl rfl rfl trivial ?_
  refine aq_pure tOk rfl rfl rfl trivial ?_
  refine aq_nil rfl ?_
  refine ag_ent (ent_weak (g' := [(2, .ptr 0 0), (3, .ptr 1 0), (4, .ptr 2 0), (5, .ptr 3 0), (8, .r (.str S)), (9, .r (.int .i64 0))]) (h' := ⟨4, [(0, some (.mixed [.r (.str s), .r (.int .i64 (n + 1))])), (1, some (.mixed ((bidC (plB b)).map .r))), (2, some (.mixed ((bidC bid0).map .r))), (3, some (.mixed [.r (.str []), .r (.int .i64 0)]))], false⟩) [0, 1, 2, 3] rfl rfl rfl rfl ?_ ?_ rfl) ?_
  · exact ⟨⟨rfl, rfl⟩, ⟨rfl, rfl⟩, ⟨rfl, rfl⟩, ⟨rfl, rfl⟩, ⟨rfl, rfl⟩, ⟨rfl, rfl⟩, trivial⟩
  · exact ⟨⟨rfl, rfl, rfl⟩, ⟨rfl, rfl, rfl⟩, ⟨rfl, rfl, rfl⟩, ⟨rfl, rfl, rfl⟩, trivial⟩
  refine ag_seq ?_
  refine zB ?_
  iterate 2 refine pA ?_
  refine ar_nil ?_
  refine ag_false rfl (by decide) ?_
  refine ag_skip ?_
  refine zB ?_
  iterate 2 refine pA ?_
  refine ar_store (h' := ⟨4, [(1, some (.mixed ((bidC (sgB b S)).map .r))), (0, some (.mixed [.r (.str s), .r (.int .i64 (n + 1))])), (1, some (.mixed ((bidC (plB b)).map .r))), (2, some (.mixed ((bidC bid0).map .r))), (3, some (.mixed [.r (.str []), .r (.int .i64 0)]))], false⟩) (c := True) tOk (by kernel_rfl) rfl rfl trivial ?_
  refine ar_nil ?_
  refine ag_ent (ent_weak (g' := [(2, .ptr 0 0), (3, .ptr 1 0), (4, .ptr 2 0), (5, .ptr 3 0)]) (h' := ⟨4, [(0, some (.mixed [.r (.str s), .r (.int .i64 (n + 1))])), (1, some (.mixed ((bidC (sgB b S)).map .r))), (2, some (.mixed ((bidC bid0).map .r))), (3, some (.mixed [.r (.str []), .r (.int .i64 0)]))], false⟩) [0, 1, 2, 3] rfl rfl rfl rfl ?_ ?_ rfl) ?_
  · exact ⟨⟨rfl, rfl⟩, ⟨rfl, rfl⟩, ⟨rfl, rfl⟩, ⟨rfl, rfl⟩, trivial⟩
  · exact ⟨⟨rfl, rfl, rfl⟩, ⟨rfl, rfl, rfl⟩, ⟨rfl, rfl, rfl⟩, ⟨rfl, rfl, rfl⟩, trivial⟩
  refine ag_seq ?_
  refine ag_draw (Hs := hsL [⟨4, [(0, some (.mixed [.r (.str s), .r (.int .i64 (n + 1))])), (1, some (.mixed ((bidC (sgB b S)).map .r))), (2, some (.mixed ((bidC bid0).map .r))), (3, some (.mixed [.r (.str []), .r (.int .i64 0)]))], false⟩, ⟨4, [(2, some (.mixed ((bidC (sgB b S)).map .r))), (0, some (.mixed [.r (.str s), .r (.int .i64 (n + 1))])), (1, some (.mixed ((bidC (sgB b S)).map .r))), (2, some (.mixed ((bidC bid0).map .r))), (3, some (.mixed [.r (.str []), .r (.int .i64 0)]))], false⟩, ⟨4, [(3, some (.mixed [.r (.str s), .r (.int .i64 (n + 1))])), (2, some (.mixed ((bidC (sgB b S)).map .r))), (0, some (.mixed [.r (.str s), .r (.int .i64 (n + 1))])), (1, some (.mixed ((bidC (sgB b S)).map .r))), (2, some (.mixed ((bidC bid0).map .r))), (3, some (.mixed [.r (.str []), .r (.int .i64 0)]))], false⟩]) (K := 2) [] (by kernel_rfl) (by kernel_rfl) ?_
  refine aq_load0 tOk rfl (by kernel_rfl) rfl rfl trivial ?_
  refine aq_load1 tOk rfl (by kernel_rfl) rfl rfl rfl rfl trivial ⟨_, rfl, trivial⟩ ?_
  refine aq_store (hj := ⟨4, [(0, some (.mixed [.r (.str s), .r (.int .i64 (n + 1))])), (1, some (.mixed ((bidC (sgB b S)).map .r))), (2, some (.mixed ((bidC bid0).map .r))), (3, some (.mixed [.r (.str []), .r (.int .i64 0)]))], false⟩) (h' := ⟨4, [(2, some (.mixed ((bidC (sgB b S)).map .r))), (0, some (.mixed [.r (.str s), .r (.int .i64 (n + 1))])), (1, some (.mixed ((bidC (sgB b S)).map .r))), (2, some (.mixed ((bidC bid0).map .r))), (3, some (.mixed [.r (.str []), .r (.int .i64 0)]))], false⟩) (c := True) tOk rfl (by kernel_rfl) rfl rfl rfl trivial ?_
  refine aq_store (hj := ⟨4, [(2, some (.mixed ((bidC (sgB b S)).map .r))), (0, some (.mixed [.r (.str s), .r (.int .i64 (n + 1))])), (1, some (.mixed ((bidC (sgB b S)).map .r))), (2, some (.mixed ((bidC bid0).map .r))), (3, some (.mixed [.r (.str []), .r (.int .i64 0)]))], false⟩) (h' := ⟨4, [(3, some (.mixed [.r (.str s), .r (.int .i64 (n + 1))])), (2, some (.mixed ((bidC (sgB b S)).map .r))), (0, some (.mixed [.r (.str s), .r (.int .i64 (n + 1))])), (1, some (.mixed ((bidC (sgB b S)).map .r))), (2, some (.mixed ((bidC bid0).map .r))), (3, some (.mixed [.r (.str []), .r (.int .i64 0)]))], false⟩) (c := True) tOk rfl (by kernel_rfl) rfl rfl rfl trivial ?_
  refine aq_pure tOk rfl rfl rfl trivial ?_
  refine aq_nil rfl ?_
  refine ag_ret tOk Try.func30 rfl rfl (by first | trivial | exact ⟨trivial, trivial⟩ | simp) ?_
  rfl
theorem w_BackE (b : BidV) (hb : b.ok) (n : Int) (hE : bidE (plB b) ≠ 0) : Pur Try.prog 7 [bidA b, .r (.int .i64 n)] (.r (.bool true)) := by
  have cE := w_rBid (plB b) (plB_ok hb)
  have cS := w_bSignE b hb (seedL b.r) n (by rw [seedL_length]; decide) hE
  obtain hE9 := (bidE_39 (plB b)).resolve_left hE
  rw [hE9] at cS cE
  clear hE
  have hE : (39 : Int) ≠ 0 := by decide
  refine spec_of_go (N := 105) Try.func7 rfl (by decide) rfl rfl ?_
  refine zB ?_
  refine ar_new tOk rfl rfl rfl trivial ?_
  refine pA ?_
  refine zA ?_
  refine zB ?_
  refine ar_pur (w_alive08) rfl rfl rfl rfl rfl rfl rfl ?_
  refine pA ?_
  refine ar_nil ?_
  refine ag_false rfl (rfl) ?_
  refine ag_skip ?_
  refine zB ?_
  refine pA ?_
  refine pB ?_
  refine ar_pur (w_bSeed b.r) rfl rfl rfl rfl rfl rfl rfl ?_
  refine pA ?_
  refine ar_pure tOk rfl rfl rfl ?_ ?_
  · simp
  refine ar_new tOk rfl rfl rfl ?_ ?_
  · simp
  refine ar_store (h' := ⟨2, [(1, some (.mixed [.r (.str (seedL b.r)), .r (.int .i64 n)])), (1, some (.mixed [.r (.str []), .r (.int .i64 0)])), (0, some (.mixed ((bidC b).map .r)))], false⟩) (c := True) tOk (by kernel_rfl) rfl rfl trivial ?_
  refine ar_nil ?_
  refine ag_ent (ent_weak (g' := [(1, .r (.int .i64 n)), (2, .ptr 0 0), (5, .ptr 1 0)]) (h' := ⟨2, [(0, some (.mixed ((bidC b).map .r))), (1, some (.mixed [.r (.str (seedL b.r)), .r (.int .i64 n)]))], false⟩) [0, 1] rfl rfl rfl rfl ?_ ?_ rfl) ?_
  · exact ⟨⟨rfl, rfl⟩, ⟨rfl, rfl⟩, ⟨rfl, rfl⟩, trivial⟩
  · exact ⟨⟨rfl, rfl, rfl⟩, ⟨rfl, rfl, rfl⟩, trivial⟩
  refine zB ?_
  iterate 2 refine pB ?_
  refine ar_pur (cS) rfl rfl rfl rfl rfl rfl rfl ?_
  iterate 4 refine pA ?_
  refine ar_new tOk rfl rfl rfl ?_ ?_
  · simp
  refine ar_new tOk rfl rfl rfl ?_ ?_
  · simp
  refine ar_store (h' := ⟨4, [(2, some (.mixed ((bidC bid0).map .r))), (3, some (.mixed [.r (.str []), .r (.int .i64 0)])), (2, some (.mixed ((bidC bid0).map .r))), (0, some (.mixed ((bidC b).map .r))), (1, some (.mixed [.r (.str (seedL b.r)), .r (.int .i64 n)]))], false⟩) (c := True) tOk (by kernel_rfl) rfl rfl trivial ?_
  refine ar_store (h' := ⟨4, [(3, some (.mixed [.r (.str []), .r (.int .i64 0)])), (2, some (.mixed ((bidC bid0).map .r))), (3, some (.mixed [.r (.str []), .r (.int .i64 0)])), (2, some (.mixed ((bidC bid0).map .r))), (0, some (.mixed ((bidC b).map .r))), (1, some (.mixed [.r (.str (seedL b.r)), .r (.int .i64 n)]))], false⟩) (c := True) tOk (by kernel_rfl) rfl rfl trivial ?_
  refine pA ?_
  refine ar_nil ?_
  refine ag_ent (ent_weak (g' := [(1, .r (.int .i64 n)), (2, .ptr 0 0), (5, .ptr 1 0), (6, .ptr 2 0), (7, .ptr 3 0), (8, .r (.int .i64 39))]) (h' := ⟨4, [(0, some (.mixed ((bidC b).map .r))), (1, some (.mixed [.r (.str (seedL b.r)), .r (.int .i64 n)])), (2, some (.mixed ((bidC bid0).map .r))), (3, some (.mixed [.r (.str []), .r (.int .i64 0)]))], false⟩) [0, 1, 2, 3] rfl rfl rfl rfl ?_ ?_ rfl) ?_
  · exact ⟨⟨rfl, rfl⟩, ⟨rfl, rfl⟩, ⟨rfl, rfl⟩, ⟨rfl, rfl⟩, ⟨rfl, rfl⟩, ⟨rfl, rfl⟩, trivial⟩
  · exact ⟨⟨rfl, rfl, rfl⟩, ⟨rfl, rfl, rfl⟩, ⟨rfl, rfl, rfl⟩, ⟨rfl, rfl, rfl⟩, trivial⟩
  refine zB ?_
  refine pB ?_
  refine ar_new tOk rfl rfl rfl ?_ ?_
  · simp
  refine ar_store (h' := ⟨5, [(4, some (.mixed ((bidC b).map .r))), (4, some (.mixed ((bidC bid0).map .r))), (0, some (.mixed ((bidC b).map .r))), (1, some (.mixed [.r (.str (seedL b.r)), .r (.int .i64 n)])), (2, some (.mixed ((bidC bid0).map .r))), (3, some (.mixed [.r (.str []), .r (.int .i64 0)]))], false⟩) (c := True) tOk (by kernel_rfl) rfl rfl trivial ?_
  refine ar_nil ?_
  refine ag_ent (ent_weak (g' := [(1, .r (.int .i64 n)), (2, .ptr 0 0), (5, .ptr 1 0), (6, .ptr 2 0), (7, .ptr 3 0), (8, .r (.int .i64 39)), (9, .ptr 4 0)]) (h' := ⟨5, [(0, some (.mixed ((bidC b).map .r))), (1, some (.mixed [.r (.str (seedL b.r)), .r (.int .i64 n)])), (2, some (.mixed ((bidC bid0).map .r))), (3, some (.mixed [.r (.str []), .r (.int .i64 0)])), (4, some (.mixed ((bidC b).map .r)))], false⟩) [0, 1, 2, 3, 4] rfl rfl rfl rfl ?_ ?_ rfl) ?_
  · exact ⟨⟨rfl, rfl⟩, ⟨rfl, rfl⟩, ⟨rfl, rfl⟩, ⟨rfl, rfl⟩, ⟨rfl, rfl⟩, ⟨rfl, rfl⟩, ⟨rfl, rfl⟩, trivial⟩
  · exact ⟨⟨rfl, rfl, rfl⟩, ⟨rfl, rfl, rfl⟩, ⟨rfl, rfl, rfl⟩, ⟨rfl, rfl, rfl⟩, ⟨rfl, rfl, rfl⟩, trivial⟩
  refine zB ?_
  refine pA ?_
  refine ar_store (h' := ⟨5, [(4, some (.mixed ((bidC (plB b)).map .r))), (0, some (.mixed ((bidC b).map .r))), (1, some (.mixed [.r (.str (seedL b.r)), .r (.int .i64 n)])), (2, some (.mixed ((bidC bid0).map .r))), (3, some (.mixed [.r (.str []), .r (.int .i64 0)])), (4, some (.mixed ((bidC b).map .r)))], false⟩) (c := True) tOk (by kernel_rfl) rfl rfl trivial ?_
  refine ar_nil ?_
  refine ag_ent (ent_weak (g' := [(1, .r (.int .i64 n)), (2, .ptr 0 0), (5, .ptr 1 0), (6, .ptr 2 0), (7, .ptr 3 0), (8, .r (.int .i64 39)), (9, .ptr 4 0)]) (h' := ⟨5, [(0, some (.mixed ((bidC b).map .r))), (1, some (.mixed [.r (.str (seedL b.r)), .r (.int .i64 n)])), (2, some (.mixed ((bidC bid0).map .r))), (3, some (.mixed [.r (.str []), .r (.int .i64 0)])), (4, some (.mixed ((bidC (plB b)).map .r)))], false⟩) [0, 1, 2, 3, 4] rfl rfl rfl rfl ?_ ?_ rfl) ?_
  · exact ⟨⟨rfl, rfl⟩, ⟨rfl, rfl⟩, ⟨rfl, rfl⟩, ⟨rfl, rfl⟩, ⟨rfl, rfl⟩, ⟨rfl, rfl⟩, ⟨rfl, rfl⟩, trivial⟩
  · exact ⟨⟨rfl, rfl, rfl⟩, ⟨rfl, rfl, rfl⟩, ⟨rfl, rfl, rfl⟩, ⟨rfl, rfl, rfl⟩, ⟨rfl, rfl, rfl⟩, trivial⟩
  refine ag_seq ?_
  refine ag_block ?_
  refine zB ?_
  refine pB ?_
  refine ar_pur (cE) rfl rfl rfl rfl rfl rfl rfl ?_
  iterate 2 refine pA ?_
  refine ar_nil ?_
  refine ag_true rfl (decide_eq_true hE) ?_
  refine zB ?_
  iterate 3 refine pA ?_
  refine ar_ent (ent_reg 32 (.r (.bool true)) (by show AVal.r (.bool _) = _; exact eqB (by simp [bid0, ask0]))) ?_
  refine pB ?_
  refine ar_pure tOk rfl rfl rfl ?_ ?_
  · simp
  iterate 3 refine pA ?_
  refine ar_ent (ent_reg 37 (.r (.bool true)) (by show AVal.r (.bool _) = _; exact eqB (by simp [bid0, ask0]))) ?_
  refine pB ?_
  refine ar_pure tOk rfl rfl rfl ?_ ?_
  · simp
  iterate 3 refine pA ?_
  refine ar_nil ?_
  refine ag_ret tOk Try.func7 rfl rfl (by simp) ?_
  exact eqB (by simp [bid0, ask0])
theorem w_BackB (b : BidV) (hb : b.ok) (n : Int) (hE : bidE (plB b) = 0) (hn : n < 0 ∨ 8 < n) : Pur Try.prog 7 [bidA b, .r (.int .i64 n)] (.r (.bool true)) := by
  have cE := w_rBid (plB b) (plB_ok hb)
  have cS := w_bSignB b hb (seedL b.r) n (by rw [seedL_length]; decide) hE hn
  rw [hE] at cE
  refine spec_of_go (N := 105) Try.func7 rfl (by decide) rfl rfl ?_
  refine zB ?_
  refine ar_new tOk rfl rfl rfl trivial ?_
  refine pA ?_
  refine zA ?_
  refine zB ?_
  refine ar_pur (w_alive08) rfl rfl rfl rfl rfl rfl rfl ?_
  refine pA ?_
  refine ar_nil ?_
  refine ag_false rfl (rfl) ?_
  refine ag_skip ?_
  refine zB ?_
  refine pA ?_
  refine pB ?_
  refine ar_pur (w_bSeed b.r) rfl rfl rfl rfl rfl rfl rfl ?_
  refine pA ?_
  refine ar_pure tOk rfl rfl rfl ?_ ?_
  · simp
  refine ar_new tOk rfl rfl rfl ?_ ?_
  · simp
  refine ar_store (h' := ⟨2, [(1, some (.mixed [.r (.str (seedL b.r)), .r (.int .i64 n)])), (1, some (.mixed [.r (.str []), .r (.int .i64 0)])), (0, some (.mixed ((bidC b).map .r)))], false⟩) (c := True) tOk (by kernel_rfl) rfl rfl trivial ?_
  refine ar_nil ?_
  refine ag_ent (ent_weak (g' := [(1, .r (.int .i64 n)), (2, .ptr 0 0), (5, .ptr 1 0)]) (h' := ⟨2, [(0, some (.mixed ((bidC b).map .r))), (1, some (.mixed [.r (.str (seedL b.r)), .r (.int .i64 n)]))], false⟩) [0, 1] rfl rfl rfl rfl ?_ ?_ rfl) ?_
  · exact ⟨⟨rfl, rfl⟩, ⟨rfl, rfl⟩, ⟨rfl, rfl⟩, trivial⟩
  · exact ⟨⟨rfl, rfl, rfl⟩, ⟨rfl, rfl, rfl⟩, trivial⟩
  refine zB ?_
  iterate 2 refine pB ?_
  refine ar_pur (cS) rfl rfl rfl rfl rfl rfl rfl ?_
  iterate 4 refine pA ?_
  refine ar_new tOk rfl rfl rfl ?_ ?_
  · simp
  refine ar_new tOk rfl rfl rfl ?_ ?_
  · simp
  refine ar_store (h' := ⟨4, [(2, some (.mixed ((bidC bid0).map .r))), (3, some (.mixed [.r (.str []), .r (.int .i64 0)])), (2, some (.mixed ((bidC bid0).map .r))), (0, some (.mixed ((bidC b).map .r))), (1, some (.mixed [.r (.str (seedL b.r)), .r (.int .i64 n)]))], false⟩) (c := True) tOk (by kernel_rfl) rfl rfl trivial ?_
  refine ar_store (h' := ⟨4, [(3, some (.mixed [.r (.str []), .r (.int .i64 0)])), (2, some (.mixed ((bidC bid0).map .r))), (3, some (.mixed [.r (.str []), .r (.int .i64 0)])), (2, some (.mixed ((bidC bid0).map .r))), (0, some (.mixed ((bidC b).map .r))), (1, some (.mixed [.r (.str (seedL b.r)), .r (.int .i64 n)]))], false⟩) (c := True) tOk (by kernel_rfl) rfl rfl trivial ?_
  refine pA ?_
  refine ar_nil ?_
  refine ag_ent (ent_weak (g' := [(1, .r (.int .i64 n)), (2, .ptr 0 0), (5, .ptr 1 0), (6, .ptr 2 0), (7, .ptr 3 0), (8, .r (.int .i64 9))]) (h' := ⟨4, [(0, some (.mixed ((bidC b).map .r))), (1, some (.mixed [.r (.str (seedL b.r)), .r (.int .i64 n)])), (2, some (.mixed ((bidC bid0).map .r))), (3, some (.mixed [.r (.str []), .r (.int .i64 0)]))], false⟩) [0, 1, 2, 3] rfl rfl rfl rfl ?_ ?_ rfl) ?_
  · exact ⟨⟨rfl, rfl⟩, ⟨rfl, rfl⟩, ⟨rfl, rfl⟩, ⟨rfl, rfl⟩, ⟨rfl, rfl⟩, ⟨rfl, rfl⟩, trivial⟩
  · exact ⟨⟨rfl, rfl, rfl⟩, ⟨rfl, rfl, rfl⟩, ⟨rfl, rfl, rfl⟩, ⟨rfl, rfl, rfl⟩, trivial⟩
  refine zB ?_
  refine pB ?_
  refine ar_new tOk rfl rfl rfl ?_ ?_
  · simp
  refine ar_store (h' := ⟨5, [(4, some (.mixed ((bidC b).map .r))), (4, some (.mixed ((bidC bid0).map .r))), (0, some (.mixed ((bidC b).map .r))), (1, some (.mixed [.r (.str (seedL b.r)), .r (.int .i64 n)])), (2, some (.mixed ((bidC bid0).map .r))), (3, some (.mixed [.r (.str []), .r (.int .i64 0)]))], false⟩) (c := True) tOk (by kernel_rfl) rfl rfl trivial ?_
  refine ar_nil ?_
  refine ag_ent (ent_weak (g' := [(1, .r (.int .i64 n)), (2, .ptr 0 0), (5, .ptr 1 0), (6, .ptr 2 0), (7, .ptr 3 0), (8, .r (.int .i64 9)), (9, .ptr 4 0)]) (h' := ⟨5, [(0, some (.mixed ((bidC b).map .r))), (1, some (.mixed [.r (.str (seedL b.r)), .r (.int .i64 n)])), (2, some (.mixed ((bidC bid0).map .r))), (3, some (.mixed [.r (.str []), .r (.int .i64 0)])), (4, some (.mixed ((bidC b).map .r)))], false⟩) [0, 1, 2, 3, 4] rfl rfl rfl rfl ?_ ?_ rfl) ?_
  · exact ⟨⟨rfl, rfl⟩, ⟨rfl, rfl⟩, ⟨rfl, rfl⟩, ⟨rfl, rfl⟩, ⟨rfl, rfl⟩, ⟨rfl, rfl⟩, ⟨rfl, rfl⟩, trivial⟩
  · exact ⟨⟨rfl, rfl, rfl⟩, ⟨rfl, rfl, rfl⟩, ⟨rfl, rfl, rfl⟩, ⟨rfl, rfl, rfl⟩, ⟨rfl, rfl, rfl⟩, trivial⟩
  refine zB ?_
  refine pA ?_
  refine ar_store (h' := ⟨5, [(4, some (.mixed ((bidC (plB b)).map .r))), (0, some (.mixed ((bidC b).map .r))), (1, some (.mixed [.r (.str (seedL b.r)), .r (.int .i64 n)])), (2, some (.mixed ((bidC bid0).map .r))), (3, some (.mixed [.r (.str []), .r (.int .i64 0)])), (4, some (.mixed ((bidC b).map .r)))], false⟩) (c := True) tOk (by kernel_rfl) rfl rfl trivial ?_
  refine ar_nil ?_
  refine ag_ent (ent_weak (g' := [(1, .r (.int .i64 n)), (2, .ptr 0 0), (5, .ptr 1 0), (6, .ptr 2 0), (7, .ptr 3 0), (8, .r (.int .i64 9)), (9, .ptr 4 0)]) (h' := ⟨5, [(0, some (.mixed ((bidC b).map .r))), (1, some (.mixed [.r (.str (seedL b.r)), .r (.int .i64 n)])), (2, some (.mixed ((bidC bid0).map .r))), (3, some (.mixed [.r (.str []), .r (.int .i64 0)])), (4, some (.mixed ((bidC (plB b)).map .r)))], false⟩) [0, 1, 2, 3, 4] rfl rfl rfl rfl ?_ ?_ rfl) ?_
  · exact ⟨⟨rfl, rfl⟩, ⟨rfl, rfl⟩, ⟨rfl, rfl⟩, ⟨rfl, rfl⟩, ⟨rfl, rfl⟩, ⟨rfl, rfl⟩, ⟨rfl, rfl⟩, trivial⟩
  · exact ⟨⟨rfl, rfl, rfl⟩, ⟨rfl, rfl, rfl⟩, ⟨rfl, rfl, rfl⟩, ⟨rfl, rfl, rfl⟩, ⟨rfl, rfl, rfl⟩, trivial⟩
  refine ag_seq ?_
  refine ag_block ?_
  refine zB ?_
  refine pB ?_
  refine ar_pur (cE) rfl rfl rfl rfl rfl rfl rfl ?_
  iterate 2 refine pA ?_
  refine ar_nil ?_
  refine ag_false rfl (by rfl) ?_
  refine zB ?_
  iterate 3 refine pA ?_
  refine ar_guard (t := decide (n < 0)) (fun ht => ?_) (fun ht => ?_)
  · refine ar_ent (ent_reg 45 (.r (.bool true)) (by show AVal.r (.bool _) = _; rw [ht])) ?_
    have hn0 := of_decide_eq_true ht
    iterate 2 refine ar_skip rfl rfl rfl ?_
    iterate 2 refine pA ?_
    refine ar_nil ?_
    refine ag_true rfl (by rfl) ?_
    refine zB ?_
    iterate 3 refine pA ?_
    refine ar_ent (ent_reg 51 (.r (.bool true)) (by show AVal.r (.bool _) = _; exact eqB (by simp [bid0, ask0]))) ?_
    refine pB ?_
    refine ar_pure tOk rfl rfl rfl ?_ ?_
    · simp
    iterate 3 refine pA ?_
    refine ar_nil ?_
    refine ag_ret tOk Try.func7 rfl rfl (by simp) ?_
    exact eqB (by simp [bid0, ask0])
  · refine ar_ent (ent_reg 45 (.r (.bool false)) (by show AVal.r (.bool _) = _; rw [ht])) ?_
    have hn0 := of_decide_eq_false ht
    iterate 4 refine pA ?_
    refine ar_nil ?_
    refine ag_true rfl (by simp; omega) ?_
    refine zB ?_
    iterate 3 refine pA ?_
    refine ar_ent (ent_reg 51 (.r (.bool true)) (by show AVal.r (.bool _) = _; exact eqB (by simp [bid0, ask0]))) ?_
    refine pB ?_
    refine ar_pure tOk rfl rfl rfl ?_ ?_
    · simp
    iterate 3 refine pA ?_
    refine ar_nil ?_
    refine ag_ret tOk Try.func7 rfl rfl (by simp) ?_
    exact eqB (by simp [bid0, ask0])
theorem w_BackF (b : BidV) (hb : b.ok) (n : Int) (hE : bidE (plB b) = 0) (hn : n = 8) : Pur Try.prog 7 [bidA b, .r (.int .i64 n)] (.r (.bool true)) := by
  have cE := w_rBid (plB b) (plB_ok hb)
  have cS := w_bSignF b hb (seedL b.r) n (by rw [seedL_length]; decide) hE hn
  rw [hE] at cE
  refine spec_of_go (N := 105) Try.func7 rfl (by decide) rfl rfl ?_
  refine zB ?_
  refine ar_new tOk rfl rfl rfl trivial ?_
  refine pA ?_
  refine zA ?_
  refine zB ?_
  refine ar_pur (w_alive08) rfl rfl rfl rfl rfl rfl rfl ?_
  refine pA ?_
  refine ar_nil ?_
  refine ag_false rfl (rfl) ?_
  refine ag_skip ?_
  refine zB ?_
  refine pA ?_
  refine pB ?_
  refine ar_pur (w_bSeed b.r) rfl rfl rfl rfl rfl rfl rfl ?_
  refine pA ?_
  refine ar_pure tOk rfl rfl rfl ?_ ?_
  · simp
  refine ar_new tOk rfl rfl rfl ?_ ?_
  · simp
  refine ar_store (h' := ⟨2, [(1, some (.mixed [.r (.str (seedL b.r)), .r (.int .i64 n)])), (1, some (.mixed [.r (.str []), .r (.int .i64 0)])), (0, some (.mixed ((bidC b).map .r)))], false⟩) (c := True) tOk (by kernel_rfl) rfl rfl trivial ?_
  refine ar_nil ?_
  refine ag_ent (ent_weak (g' := [(1, .r (.int .i64 n)), (2, .ptr 0 0), (5, .ptr 1 0)]) (h' := ⟨2, [(0, some (.mixed ((bidC b).map .r))), (1, some (.mixed [.r (.str (seedL b.r)), .r (.int .i64 n)]))], false⟩) [0, 1] rfl rfl rfl rfl ?_ ?_ rfl) ?_
  · exact ⟨⟨rfl, rfl⟩, ⟨rfl, rfl⟩, ⟨rfl, rfl⟩, trivial⟩
  · exact ⟨⟨rfl, rfl, rfl⟩, ⟨rfl, rfl, rfl⟩, trivial⟩
  refine zB ?_
  iterate 2 refine pB ?_
  refine ar_pur (cS) rfl rfl rfl rfl rfl rfl rfl ?_
  iterate 4 refine pA ?_
  refine ar_new tOk rfl rfl rfl ?_ ?_
  · simp
  refine ar_new tOk rfl rfl rfl ?_ ?_
  · simp
  refine ar_store (h' := ⟨4, [(2, some (.mixed ((bidC bid0).map .r))), (3, some (.mixed [.r (.str []), .r (.int .i64 0)])), (2, some (.mixed ((bidC bid0).map .r))), (0, some (.mixed ((bidC b).map .r))), (1, some (.mixed [.r (.str (seedL b.r)), .r (.int .i64 n)]))], false⟩) (c := True) tOk (by kernel_rfl) rfl rfl trivial ?_
  refine ar_store (h' := ⟨4, [(3, some (.mixed [.r (.str []), .r (.int .i64 0)])), (2, some (.mixed ((bidC bid0).map .r))), (3, some (.mixed [.r (.str []), .r (.int .i64 0)])), (2, some (.mixed ((bidC bid0).map .r))), (0, some (.mixed ((bidC b).map .r))), (1, some (.mixed [.r (.str (seedL b.r)), .r (.int .i64 n)]))], false⟩) (c := True) tOk (by kernel_rfl) rfl rfl trivial ?_
  refine pA ?_
  refine ar_nil ?_
  refine ag_ent (ent_weak (g' := [(1, .r (.int .i64 n)), (2, .ptr 0 0), (5, .ptr 1 0), (6, .ptr 2 0), (7, .ptr 3 0), (8, .r (.int .i64 10))]) (h' := ⟨4, [(0, some (.mixed ((bidC b).map .r))), (1, some (.mixed [.r (.str (seedL b.r)), .r (.int .i64 n)])), (2, some (.mixed ((bidC bid0).map .r))), (3, some (.mixed [.r (.str []), .r (.int .i64 0)]))], false⟩) [0, 1, 2, 3] rfl rfl rfl rfl ?_ ?_ rfl) ?_
  · exact ⟨⟨rfl, rfl⟩, ⟨rfl, rfl⟩, ⟨rfl, rfl⟩, ⟨rfl, rfl⟩, ⟨rfl, rfl⟩, ⟨rfl, rfl⟩, trivial⟩
  · exact ⟨⟨rfl, rfl, rfl⟩, ⟨rfl, rfl, rfl⟩, ⟨rfl, rfl, rfl⟩, ⟨rfl, rfl, rfl⟩, trivial⟩
  refine zB ?_
  refine pB ?_
  refine ar_new tOk rfl rfl rfl ?_ ?_
  · simp
  refine ar_store (h' := ⟨5, [(4, some (.mixed ((bidC b).map .r))), (4, some (.mixed ((bidC bid0).map .r))), (0, some (.mixed ((bidC b).map .r))), (1, some (.mixed [.r (.str (seedL b.r)), .r (.int .i64 n)])), (2, some (.mixed ((bidC bid0).map .r))), (3, some (.mixed [.r (.str []), .r (.int .i64 0)]))], false⟩) (c := True) tOk (by kernel_rfl) rfl rfl trivial ?_
  refine ar_nil ?_
  refine ag_ent (ent_weak (g' := [(1, .r (.int .i64 n)), (2, .ptr 0 0), (5, .ptr 1 0), (6, .ptr 2 0), (7, .ptr 3 0), (8, .r (.int .i64 10)), (9, .ptr 4 0)]) (h' := ⟨5, [(0, some (.mixed ((bidC b).map .r))), (1, some (.mixed [.r (.str (seedL b.r)), .r (.int .i64 n)])), (2, some (.mixed ((bidC bid0).map .r))), (3, some (.mixed [.r (.str []), .r (.int .i64 0)])), (4, some (.mixed ((bidC b).map .r)))], false⟩) [0, 1, 2, 3, 4] rfl rfl rfl rfl ?_ ?_ rfl) ?_
  · exact ⟨⟨rfl, rfl⟩, ⟨rfl, rfl⟩, ⟨rfl, rfl⟩, ⟨rfl, rfl⟩, ⟨rfl, rfl⟩, ⟨rfl, rfl⟩, ⟨rfl, rfl⟩, trivial⟩
  · exact ⟨⟨rfl, rfl, rfl⟩, ⟨rfl, rfl, rfl⟩, ⟨rfl, rfl, rfl⟩, ⟨rfl, rfl, rfl⟩, ⟨rfl, rfl, rfl⟩, trivial⟩
  refine zB ?_
  refine pA ?_
  refine ar_store (h' := ⟨5, [(4, some (.mixed ((bidC (plB b)).map .r))), (0, some (.mixed ((bidC b).map .r))), (1, some (.mixed [.r (.str (seedL b.r)), .r (.int .i64 n)])), (2, some (.mixed ((bidC bid0).map .r))), (3, some (.mixed [.r (.str []), .r (.int .i64 0)])), (4, some (.mixed ((bidC b).map .r)))], false⟩) (c := True) tOk (by kernel_rfl) rfl rfl trivial ?_
  refine ar_nil ?_
  refine ag_ent (ent_weak (g' := [(1, .r (.int .i64 n)), (2, .ptr 0 0), (5, .ptr 1 0), (6, .ptr 2 0), (7, .ptr 3 0), (8, .r (.int .i64 10)), (9, .ptr 4 0)]) (h' := ⟨5, [(0, some (.mixed ((bidC b).map .r))), (1, some (.mixed [.r (.str (seedL b.r)), .r (.int .i64 n)])), (2, some (.mixed ((bidC bid0).map .r))), (3, some (.mixed [.r (.str []), .r (.int .i64 0)])), (4, some (.mixed ((bidC (plB b)).map .r)))], false⟩) [0, 1, 2, 3, 4] rfl rfl rfl rfl ?_ ?_ rfl) ?_
  · exact ⟨⟨rfl, rfl⟩, ⟨rfl, rfl⟩, ⟨rfl, rfl⟩, ⟨rfl, rfl⟩, ⟨rfl, rfl⟩, ⟨rfl, rfl⟩, ⟨rfl, rfl⟩, trivial⟩
  · exact ⟨⟨rfl, rfl, rfl⟩, ⟨rfl, rfl, rfl⟩, ⟨rfl, rfl, rfl⟩, ⟨rfl, rfl, rfl⟩, ⟨rfl, rfl, rfl⟩, trivial⟩
  refine ag_seq ?_
  refine ag_block ?_
  refine zB ?_
  refine pB ?_
  refine ar_pur (cE) rfl rfl rfl rfl rfl rfl rfl ?_
  iterate 2 refine pA ?_
  refine ar_nil ?_
  refine ag_false rfl (by rfl) ?_
  refine zB ?_
  iterate 3 refine pA ?_
  refine ar_ent (ent_reg 45 (.r (.bool false)) (by show AVal.r (.bool _) = _; exact eqB (by first | (simp; done) | (simp; omega)))) ?_
  iterate 4 refine pA ?_
  refine ar_nil ?_
  refine ag_false rfl (by first | (simp; done) | (simp; omega)) ?_
  refine zB ?_
  iterate 3 refine pA ?_
  refine ar_nil ?_
  refine ag_true rfl (by simp [hn]) ?_
  refine zB ?_
  iterate 3 refine pA ?_
  refine ar_ent (ent_reg 61 (.r (.bool true)) (by show AVal.r (.bool _) = _; exact eqB (by simp [bid0, ask0]))) ?_
  refine pB ?_
  refine ar_pure tOk rfl rfl rfl ?_ ?_
  · simp
  iterate 3 refine pA ?_
  refine ar_nil ?_
  refine ag_ret tOk Try.func7 rfl rfl (by simp) ?_
  exact eqB (by simp [bid0, ask0])
theorem w_BackG (b : BidV) (hb : b.ok) (hE : bidE (plB b) = 0) (m : Nat) (hm : m < 8) : Pur Try.prog 7 [bidA b, .r (.int .i64 (m : Int))] (.r (.bool true)) := by
  have cE := w_rBid (plB b) (plB_ok hb)
  have cS := w_bSignG b hb (seedL b.r) m (by rw [seedL_length]; decide) hE ⟨by omega, by omega⟩
  rw [Int.toNat_natCast] at cS
  have hv := valB_sg hE (seedL b.r) hm
  have hSl := sigL_length (seedL b.r) hm (txtB (plB b))
  rw [hE] at cE
  have cT := w_rBidText (plB b) (plB_ok hb)
  have tl := txtB_length (plB b)
  have cG := w_rSig (seedL b.r) m (txtB (plB b)) (by rw [seedL_length]; decide) (by omega) hm
  have cR := w_Root (seedL b.r) (by rw [seedL_length]; decide)
  generalize rootL (seedL b.r) = RT at cR hv
  generalize sigL (seedL b.r) m (txtB (plB b)) = S at cS cG hv hSl
  have cV := w_bValid (sgB b S) (sgB_ok hb (by omega)) RT
  rw [hv] at cV
  generalize txtB (plB b) = TX at cT cG
  refine spec_of_go (N := 105) Try.func7 rfl (by decide) rfl rfl ?_
  refine zB ?_
  refine ar_new tOk rfl rfl rfl trivial ?_
  refine pA ?_
  refine zA ?_
  refine zB ?_
  refine ar_pur (w_alive08) rfl rfl rfl rfl rfl rfl rfl ?_
  refine pA ?_
  refine ar_nil ?_
  refine ag_false rfl (rfl) ?_
  refine ag_skip ?_
  refine zB ?_
  refine pA ?_
  refine pB ?_
  refine ar_pur (w_bSeed b.r) rfl rfl rfl rfl rfl rfl rfl ?_
  refine pA ?_
  refine ar_pure tOk rfl rfl rfl ?_ ?_
  · simp
  refine ar_new tOk rfl rfl rfl ?_ ?_
  · simp
  refine ar_store (h' := ⟨2, [(1, some (.mixed [.r (.str (seedL b.r)), .r (.int .i64 (m : Int))])), (1, some (.mixed [.r (.str []), .r (.int .i64 0)])), (0, some (.mixed ((bidC b).map .r)))], false⟩) (c := True) tOk (by kernel_rfl) rfl rfl trivial ?_
  refine ar_nil ?_
  refine ag_ent (ent_weak (g' := [(1, .r (.int .i64 (m : Int))), (2, .ptr 0 0), (5, .ptr 1 0)]) (h' := ⟨2, [(0, some (.mixed ((bidC b).map .r))), (1, some (.mixed [.r (.str (seedL b.r)), .r (.int .i64 (m : Int))]))], false⟩) [0, 1] rfl rfl rfl rfl ?_ ?_ rfl) ?_
  · exact ⟨⟨rfl, rfl⟩, ⟨rfl, rfl⟩, ⟨rfl, rfl⟩, trivial⟩
  · exact ⟨⟨rfl, rfl, rfl⟩, ⟨rfl, rfl, rfl⟩, trivial⟩
  refine zB ?_
  iterate 2 refine pB ?_
  refine ar_pur (cS) rfl rfl rfl rfl rfl rfl rfl ?_
  iterate 4 refine pA ?_
  refine ar_new tOk rfl rfl rfl ?_ ?_
  · simp
  refine ar_new tOk rfl rfl rfl ?_ ?_
  · simp
  refine ar_store (h' := ⟨4, [(2, some (.mixed ((bidC (sgB b S)).map .r))), (3, some (.mixed [.r (.str []), .r (.int .i64 0)])), (2, some (.mixed ((bidC bid0).map .r))), (0, some (.mixed ((bidC b).map .r))), (1, some (.mixed [.r (.str (seedL b.r)), .r (.int .i64 (m : Int))]))], false⟩) (c := True) tOk (by kernel_rfl) rfl rfl trivial ?_
  refine ar_store (h' := ⟨4, [(3, some (.mixed [.r (.str (seedL b.r)), .r (.int .i64 ((m : Int) + 1))])), (2, some (.mixed ((bidC (sgB b S)).map .r))), (3, some (.mixed [.r (.str []), .r (.int .i64 0)])), (2, some (.mixed ((bidC bid0).map .r))), (0, some (.mixed ((bidC b).map .r))), (1, some (.mixed [.r (.str (seedL b.r)), .r (.int .i64 (m : Int))]))], false⟩) (c := True) tOk (by kernel_rfl) rfl rfl trivial ?_
  refine pA ?_
  refine ar_nil ?_
  refine ag_ent (ent_weak (g' := [(1, .r (.int .i64 (m : Int))), (2, .ptr 0 0), (5, .ptr 1 0), (6, .ptr 2 0), (7, .ptr 3 0), (8, .r (.int .i64 0))]) (h' := ⟨4, [(0, some (.mixed ((bidC b).map .r))), (1, some (.mixed [.r (.str (seedL b.r)), .r (.int .i64 (m : Int))])), (2, some (.mixed ((bidC (sgB b S)).map .r))), (3, some (.mixed [.r (.str (seedL b.r)), .r (.int .i64 ((m : Int) + 1))]))], false⟩) [0, 1, 2, 3] rfl rfl rfl rfl ?_ ?_ rfl) ?_
  · exact ⟨⟨rfl, rfl⟩, ⟨rfl, rfl⟩, ⟨rfl, rfl⟩, ⟨rfl, rfl⟩, ⟨rfl, rfl⟩, ⟨rfl, rfl⟩, trivial⟩
  · exact ⟨⟨rfl, rfl, rfl⟩, ⟨rfl, rfl, rfl⟩, ⟨rfl, rfl, rfl⟩, ⟨rfl, rfl, rfl⟩, trivial⟩
  refine zB ?_
  refine pB ?_
  refine ar_new tOk rfl rfl rfl ?_ ?_
  · simp
  refine ar_store (h' := ⟨5, [(4, some (.mixed ((bidC b).map .r))), (4, some (.mixed ((bidC bid0).map .r))), (0, some (.mixed ((bidC b).map .r))), (1, some (.mixed [.r (.str (seedL b.r)), .r (.int .i64 (m : Int))])), (2, some (.mixed ((bidC (sgB b S)).map .r))), (3, some (.mixed [.r (.str (seedL b.r)), .r (.int .i64 ((m : Int) + 1))]))], false⟩) (c := True) tOk (by kernel_rfl) rfl rfl trivial ?_
  refine ar_nil ?_
  refine ag_ent (ent_weak (g' := [(1, .r (.int .i64 (m : Int))), (2, .ptr 0 0), (5, .ptr 1 0), (6, .ptr 2 0), (7, .ptr 3 0), (8, .r (.int .i64 0)), (9, .ptr 4 0)]) (h' := ⟨5, [(0, some (.mixed ((bidC b).map .r))), (1, some (.mixed [.r (.str (seedL b.r)), .r (.int .i64 (m : Int))])), (2, some (.mixed ((bidC (sgB b S)).map .r))), (3, some (.mixed [.r (.str (seedL b.r)), .r (.int .i64 ((m : Int) + 1))])), (4, some (.mixed ((bidC b).map .r)))], false⟩) [0, 1, 2, 3, 4] rfl rfl rfl rfl ?_ ?_ rfl) ?_
  · exact ⟨⟨rfl, rfl⟩, ⟨rfl, rfl⟩, ⟨rfl, rfl⟩, ⟨rfl, rfl⟩, ⟨rfl, rfl⟩, ⟨rfl, rfl⟩, ⟨rfl, rfl⟩, trivial⟩
  · exact ⟨⟨rfl, rfl, rfl⟩, ⟨rfl, rfl, rfl⟩, ⟨rfl, rfl, rfl⟩, ⟨rfl, rfl, rfl⟩, ⟨rfl, rfl, rfl⟩, trivial⟩
  refine zB ?_
  refine pA ?_
  refine ar_store (h' := ⟨5, [(4, some (.mixed ((bidC (plB b)).map .r))), (0, some (.mixed ((bidC b).map .r))), (1, some (.mixed [.r (.str (seedL b.r)), .r (.int .i64 (m : Int))])), (2, some (.mixed ((bidC (sgB b S)).map .r))), (3, some (.mixed [.r (.str (seedL b.r)), .r (.int .i64 ((m : Int) + 1))])), (4, some (.mixed ((bidC b).map .r)))], false⟩) (c := True) tOk (by kernel_rfl) rfl rfl trivial ?_
  refine ar_nil ?_
  refine ag_ent (ent_weak (g' := [(1, .r (.int .i64 (m : Int))), (2, .ptr 0 0), (5, .ptr 1 0), (6, .ptr 2 0), (7, .ptr 3 0), (8, .r (.int .i64 0)), (9, .ptr 4 0)]) (h' := ⟨5, [(0, some (.mixed ((bidC b).map .r))), (1, some (.mixed [.r (.str (seedL b.r)), .r (.int .i64 (m : Int))])), (2, some (.mixed ((bidC (sgB b S)).map .r))), (3, some (.mixed [.r (.str (seedL b.r)), .r (.int .i64 ((m : Int) + 1))])), (4, some (.mixed ((bidC (plB b)).map .r)))], false⟩) [0, 1, 2, 3, 4] rfl rfl rfl rfl ?_ ?_ rfl) ?_
  · exact ⟨⟨rfl, rfl⟩, ⟨rfl, rfl⟩, ⟨rfl, rfl⟩, ⟨rfl, rfl⟩, ⟨rfl, rfl⟩, ⟨rfl, rfl⟩, ⟨rfl, rfl⟩, trivial⟩
  · exact ⟨⟨rfl, rfl, rfl⟩, ⟨rfl, rfl, rfl⟩, ⟨rfl, rfl, rfl⟩, ⟨rfl, rfl, rfl⟩, ⟨rfl, rfl, rfl⟩, trivial⟩
  refine ag_seq ?_
  refine ag_block ?_
  refine zB ?_
  refine pB ?_
  refine ar_pur (cE) rfl rfl rfl rfl rfl rfl rfl ?_
  iterate 2 refine pA ?_
  refine ar_nil ?_
  refine ag_false rfl (by rfl) ?_
  refine zB ?_
  iterate 3 refine pA ?_
  refine ar_ent (ent_reg 45 (.r (.bool false)) (by show AVal.r (.bool _) = _; exact eqB (by first | (simp; done) | (simp; omega)))) ?_
  iterate 4 refine pA ?_
  refine ar_nil ?_
  refine ag_false rfl (by first | (simp; done) | (simp; omega)) ?_
  refine zB ?_
  iterate 3 refine pA ?_
  refine ar_nil ?_
  refine ag_false rfl (by first | (simp; done) | (simp; omega)) ?_
  refine ag_skip ?_
  refine ag_inBlock ?_
  refine ag_seq ?_
  apply ag_draw1 [] (by kernel_rfl) (by kernel_rfl)
  refine aq_pure tOk rfl rfl rfl trivial ?_
  refine aq_load0 tOk rfl (by kernel_rfl) rfl rfl trivial ?_
  refine aq_pure tOk rfl rfl rfl trivial ?_
  refine aq_load0 tOk rfl (by kernel_rfl) rfl rfl trivial ?_
  refine aq_pur (cT) rfl rfl rfl rfl rfl rfl rfl ?_
  refine aq_pur (cG) rfl rfl rfl rfl rfl rfl rfl ?_
  refine aq_pure tOk rfl rfl rfl trivial ?_
  refine aq_store10 (h' := ⟨5, [(4, some (.mixed ((bidC (sgB b S)).map .r))), (0, some (.mixed ((bidC b).map .r))), (1, some (.mixed [.r (.str (seedL b.r)), .r (.int .i64 (m : Int))])), (2, some (.mixed ((bidC (sgB b S)).map .r))), (3, some (.mixed [.r (.str (seedL b.r)), .r (.int .i64 ((m : Int) + 1))])), (4, some (.mixed ((bidC (plB b)).map .r)))], false⟩) (c := True) tOk (by kernel_rfl) rfl rfl rfl trivial ?_
  refine aq_nil rfl ?_
  refine ag_ent (ent_weak (g' := [(1, .r (.int .i64 (m : Int))), (2, .ptr 0 0), (5, .ptr 1 0), (6, .ptr 2 0), (7, .ptr 3 0), (8, .r (.int .i64 0)), (9, .ptr 4 0)]) (h' := ⟨5, [(0, some (.mixed ((bidC b).map .r))), (1, some (.mixed [.r (.str (seedL b.r)), .r (.int .i64 (m : Int))])), (2, some (.mixed ((bidC (sgB b S)).map .r))), (3, some (.mixed [.r (.str (seedL b.r)), .r (.int .i64 ((m : Int) + 1))])), (4, some (.mixed ((bidC (sgB b S)).map .r)))], false⟩) [0, 1, 2, 3, 4] rfl rfl rfl rfl ?_ ?_ rfl) ?_
  · exact ⟨⟨rfl, rfl⟩, ⟨rfl, rfl⟩, ⟨rfl, rfl⟩, ⟨rfl, rfl⟩, ⟨rfl, rfl⟩, ⟨rfl, rfl⟩, ⟨rfl, rfl⟩, trivial⟩
  · exact ⟨⟨rfl, rfl, rfl⟩, ⟨rfl, rfl, rfl⟩, ⟨rfl, rfl, rfl⟩, ⟨rfl, rfl, rfl⟩, ⟨rfl, rfl, rfl⟩, trivial⟩
  refine ag_seq ?_
  refine ag_draw0 (by kernel_rfl) (by kernel_rfl) ?_
  refine aq_pure tOk rfl rfl rfl trivial ?_
  refine aq_pureE tOk (.r (.bool true)) rfl (by show AVal.r (.bool _) = _; exact eqB (by simp)) rfl (by rfl) trivial ?_
  refine aq_pure tOk rfl rfl rfl trivial ?_
  iterate 2 refine aq_load0 tOk rfl (by kernel_rfl) rfl rfl trivial ?_
  refine aq_pureE tOk (.r (.bool true)) rfl (by show AVal.r (.bool _) = _; exact eqB (by simp)) rfl (by rfl) trivial ?_
  iterate 3 refine aq_pure tOk rfl rfl rfl trivial ?_
  refine aq_load0 tOk rfl (by kernel_rfl) rfl rfl trivial ?_
  refine aq_pure tOk rfl rfl rfl trivial ?_
  refine aq_pure tOk rfl rfl rfl ?_ ?_
  · unfold inI64; omega
  refine aq_pureE tOk (.r (.bool true)) rfl (by show AVal.r (.bool _) = _; exact eqB (by simp)) rfl (by rfl) trivial ?_
  iterate 2 refine aq_pure tOk rfl rfl rfl trivial ?_
  refine aq_load0 tOk rfl (by kernel_rfl) rfl rfl trivial ?_
  refine aq_pure tOk rfl rfl rfl trivial ?_
  refine aq_load0 tOk rfl (by kernel_rfl) rfl rfl trivial ?_
  refine aq_pur (cR) rfl rfl rfl rfl rfl rfl rfl ?_
  refine aq_pur (cV) rfl rfl rfl rfl rfl rfl rfl ?_
  iterate 3 refine aq_pure tOk rfl rfl rfl trivial ?_
  refine aq_load0 tOk rfl (by kernel_rfl) rfl rfl trivial ?_
  refine aq_pure tOk rfl rfl rfl trivial ?_
  refine aq_load0 tOk rfl (by kernel_rfl) rfl rfl trivial ?_
  refine aq_pure tOk rfl rfl rfl trivial ?_
  refine aq_qd (fun _ => qop_buildRo tOk rfl ?_ rfl) rfl rfl rfl rfl ?_
  · repeat any_goals (first | trivial | decide | omega | (simp; done) | (rw [wu8]; omega) | refine ⟨?_, ?_⟩)
  refine aq_pure tOk rfl rfl rfl trivial ?_
  refine aq_pure tOk rfl rfl rfl ?_ ?_
  · show 7 ≤ 9223372036854775807
    decide
  refine aq_pureE tOk (.r (.bool true)) rfl (by show AVal.r (.bool _) = _; exact eqB (decide_eq_true rfl)) rfl (by rfl) trivial ?_
  iterate 2 refine aq_pure tOk rfl rfl rfl trivial ?_
  refine aq_nil rfl ?_
  refine ag_ret tOk Try.func7 rfl rfl (by simp) ?_
  rfl
theorem w_BidBack (b : BidV) (hb : b.ok) (n : Int) : Pur Try.prog 7 [bidA b, .r (.int .i64 n)] (.r (.bool true)) := by
  by_cases hE : bidE (plB b) = 0
  · by_cases h1 : n < 0 ∨ 8 < n
    · exact w_BackB b hb n hE h1
    · by_cases h2 : n = 8
      · exact w_BackF b hb n hE h2
      · obtain ⟨m, rfl⟩ : ∃ m : Nat, n = (m : Int) := ⟨n.toNat, by omega⟩
        exact w_BackG b hb hE m (by omega)
  · exact w_BackE b hb n hE
end Go.Proofs.Ytnodpljgcdkbkaa

