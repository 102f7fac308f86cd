/-
  WALKS: the laws HashPads and HashJoins. (Printed by gen.py out of w_lhash.py.)
-/
import Derived.Test.YtplfajhaehkhnaaHAbc
import Derived.Test.YtplfajhaehkhnaaCat
namespace Go.Proofs.Ytplfajhaehkhnaa
open Go
set_option maxRecDepth 20000
set_option linter.unusedVariables false
set_option linter.unusedSimpArgs false

theorem w_alive03  : Pur Try.prog 32 [] (.r (.bool true)) := by
  obtain ⟨s, hs, hl, h4⟩ : ∃ s, Pur Try.prog 34 [.r (.bs [97, 98, 99])] (.r (.bs s)) ∧ s.length = 32 ∧ s.take 4 = [186, 120, 22, 191] := ⟨sha [97, 98, 99], w_Sum _ (by decide), sha_length _, sha_abc⟩
  obtain ⟨r, rfl⟩ : ∃ r, s = 186 :: 120 :: 22 :: 191 :: r := ⟨s.drop 4, by rw [show (186 :: 120 :: 22 :: 191 :: s.drop 4 : List UInt8) = [186, 120, 22, 191] ++ s.drop 4 from rfl, ← h4, List.take_append_drop]⟩
  simp only [List.length_cons] at hl
  refine spec_of_go (N := 32) Try.func32 rfl (by decide) rfl rfl ?_
  refine ag_seq ?_
  refine ag_reg ?_
  refine ar_pure tOk rfl rfl rfl trivial ?_
  refine ar_nil ?_
  refine ag_seq ?_
  refine ag_reg ?_
  refine ar_new tOk rfl rfl rfl ?_ ?_
  · simp
  refine ar_qd rfl (qop_convSl tOk rfl) rfl rfl rfl rfl ?_
  refine ar_ent (ent_body 0 (.mixed [.r (.int .u8 97), .r (.int .u8 98), .r (.int .u8 99)]) (.bytes [97, 98, 99]) rfl rfl) ?_
  refine ar_ent (ent_freeze 3 rfl rfl rfl ⟨by simp, rfl⟩) ?_
  refine ar_ent (ent_reg 3 (.r (.bs [97, 98, 99])) rfl) ?_
  refine ar_pur (hs) rfl rfl rfl rfl rfl rfl rfl ?_
  refine ar_pure tOk rfl rfl rfl trivial ?_
  refine ar_nil ?_
  refine ag_seq ?_
  refine ag_reg ?_
  refine ar_pure tOk rfl rfl rfl trivial ?_
  refine ar_pure tOk rfl rfl rfl trivial ?_
  refine ar_pure tOk rfl rfl rfl trivial ?_
  refine ar_pure tOk rfl rfl rfl trivial ?_
  refine ar_ent (ent_reg 8 (.r (.bool true)) (by show AVal.r (.bool _) = _; exact eqB (by simp; omega))) ?_
  refine ar_pure tOk rfl rfl rfl trivial ?_
  refine ar_pure tOk rfl rfl rfl ?_ ?_
  · exact ⟨by decide, by simp only [List.length_cons]; omega⟩
  refine ar_load tOk rfl rfl rfl ?_ ?_
  · show _ < List.length _; simp
  refine ar_pure tOk rfl rfl rfl trivial ?_
  refine ar_pure tOk rfl rfl rfl trivial ?_
  refine ar_pure tOk rfl rfl rfl trivial ?_
  refine ar_pure tOk rfl rfl rfl trivial ?_
  refine ar_pure tOk rfl rfl rfl ?_ ?_
  · exact ⟨by decide, by simp only [List.length_cons]; omega⟩
  refine ar_load tOk rfl rfl rfl ?_ ?_
  · show _ < List.length _; simp
  refine ar_pure tOk rfl rfl rfl trivial ?_
  refine ar_pure tOk rfl rfl rfl trivial ?_
  refine ar_pure tOk rfl rfl rfl trivial ?_
  refine ar_pure tOk rfl rfl rfl trivial ?_
  refine ar_pure tOk rfl rfl rfl ?_ ?_
  · exact ⟨by decide, by simp only [List.length_cons]; omega⟩
  refine ar_load tOk rfl rfl rfl ?_ ?_
  · show _ < List.length _; simp
  refine ar_pure tOk rfl rfl rfl trivial ?_
  refine ar_pure tOk rfl rfl rfl trivial ?_
  refine ar_pure tOk rfl rfl rfl trivial ?_
  refine ar_pure tOk rfl rfl rfl trivial ?_
  refine ar_pure tOk rfl rfl rfl ?_ ?_
  · exact ⟨by decide, by simp only [List.length_cons]; omega⟩
  refine ar_load tOk rfl rfl rfl ?_ ?_
  · show _ < List.length _; simp
  refine ar_pure tOk rfl rfl rfl trivial ?_
  refine ar_pure tOk rfl rfl rfl trivial ?_
  refine ar_pure tOk rfl rfl rfl trivial ?_
  refine ar_nil ?_
  refine ag_ret tOk Try.func32 rfl rfl (by simp) ?_
  rfl

theorem w_HashPads (b : List UInt8) (hb : b.length ≤ 140737488355000) : Pur Try.prog 9 [.r (.bs b)] (.r (.bool true)) := by
  have h64 := padL_64 b
  generalize hpd : padL b = p at h64
  have h65 : ((p.length : Nat) : Int).tmod 64 = 0 := by rw [Int.tmod_eq_emod_of_nonneg (by omega)]; omega
  refine spec_of_go (N := 21) Try.func9 rfl (by decide) rfl rfl ?_
  refine ag_seq ?_
  refine ag_reg ?_
  refine ar_pure tOk rfl rfl rfl trivial ?_
  refine ar_nil ?_
  refine ag_seq ?_
  refine ag_reg ?_
  refine ar_pure tOk rfl rfl rfl trivial ?_
  refine ar_pur (hpd ▸ w_Pad b hb) rfl rfl rfl rfl rfl rfl rfl ?_
  refine ar_pure tOk rfl rfl rfl trivial ?_
  refine ar_nil ?_
  refine ag_seq ?_
  refine ag_draw0 (by kernel_rfl) (by kernel_rfl) ?_
  refine aq_pure tOk rfl rfl rfl trivial ?_
  refine aq_pure tOk rfl rfl rfl trivial ?_
  refine aq_pure tOk rfl rfl rfl trivial ?_
  refine aq_pur (hpd ▸ w_rPad b hb) rfl rfl rfl rfl rfl rfl rfl ?_
  refine aq_pure tOk rfl rfl rfl trivial ?_
  refine aq_pure tOk rfl rfl rfl trivial ?_
  refine aq_pure tOk rfl rfl rfl trivial ?_
  refine aq_pure tOk rfl rfl (by simp) trivial ?_
  refine aq_pure tOk rfl rfl (by simp) trivial ?_
  refine aq_pure tOk rfl rfl (by simp) ?_ ?_
  · decide
  refine aq_pure tOk rfl rfl (by simp) trivial ?_
  refine aq_pure tOk rfl rfl rfl trivial ?_
  refine aq_pure tOk rfl rfl rfl trivial ?_
  refine aq_pur (w_alive03) rfl rfl rfl rfl rfl rfl (by simp; omega) ?_
  refine aq_pure tOk rfl rfl rfl trivial ?_
  refine aq_pure tOk rfl rfl rfl trivial ?_
  refine aq_nil rfl ?_
  refine ag_ret tOk Try.func9 rfl rfl (by simp) ?_
  exact eqB (by simp; omega)

theorem w_Text (L : List (List UInt8)) (hL : L.length ≤ 1048576) (hF : L.flatten.length ≤ 1048576) : Pur Try.prog 39 [roL L] (.r (.str (sha L.flatten))) := by
  refine spec_of_go (N := 7) Try.func39 rfl (by decide) rfl rfl ?_
  refine ag_seq ?_
  refine ag_reg ?_
  refine ar_pure tOk rfl rfl rfl trivial ?_
  refine ar_nil ?_
  refine ag_seq ?_
  refine ag_reg ?_
  refine ar_pure tOk rfl rfl rfl trivial ?_
  refine ar_pur (w_Cat L (by omega) (by omega)) rfl rfl rfl rfl rfl rfl rfl ?_
  refine ar_pur (w_Sum L.flatten (by omega)) rfl rfl rfl rfl rfl rfl rfl ?_
  refine ar_pure tOk rfl rfl rfl trivial ?_
  refine ar_pure tOk rfl rfl rfl trivial ?_
  refine ar_nil ?_
  refine ag_ret tOk Try.func39 rfl rfl (by simp) ?_
  rfl

theorem w_Short (L : List (List UInt8)) (hL : L.length ≤ 1048576) (hF : L.flatten.length ≤ 1048576) : Pur Try.prog 40 [roL L] (.r (.str ((sha L.flatten).take 8))) := by
  refine spec_of_go (N := 6) Try.func40 rfl (by decide) rfl rfl ?_
  refine ag_seq ?_
  refine ag_reg ?_
  refine ar_pure tOk rfl rfl rfl trivial ?_
  refine ar_nil ?_
  refine ag_seq ?_
  refine ag_reg ?_
  refine ar_pure tOk rfl rfl rfl trivial ?_
  refine ar_pur (w_Text L hL hF) rfl rfl rfl rfl rfl rfl rfl ?_
  refine ar_pure tOk rfl rfl rfl ?_ ?_
  · rw [sha_length]; simp only [boundsOk]; omega
  refine ar_pure tOk rfl rfl rfl trivial ?_
  refine ar_nil ?_
  refine ag_ret tOk Try.func40 rfl rfl (by simp) ?_
  rfl

/-- What is there so far. -/
inductive JR where
  | nil : JR
  | buf (s : List UInt8) : JR
def JR.reg : JR → AVal
  | .nil => .r .nil
  | .buf s => .sl 0 0 s.length 1
def JR.hp : JR → Hp
  | .nil => ⟨0, [], false⟩
  | .buf s => hB s
def JR.of (a : List UInt8) : JR → Prop
  | .nil => a = []
  | .buf s => a = s

def stHJ_0 (L : List (List UInt8)) : Nat × JR → Regs × Hp := fun x => ([(0, roL L), (3, x.2.reg), (4, .r (.int .i64 (x.1 : Int)))], x.2.hp)
def prHJ_0 (L : List (List UInt8)) : Nat × JR → Prop := fun ⟨i, r⟩ => i ≤ L.length ∧ r.of (L.take i).flatten
theorem w_HashJoins (L : List (List UInt8)) (hL : L.length ≤ 1048576) (hF : L.flatten.length ≤ 1048576) : Pur Try.prog 10 [roL L] (.r (.bool true)) := by
  refine spec_of_go (N := 37) Try.func10 rfl (by decide) rfl rfl ?_
  refine ag_seq ?_
  refine ag_reg ?_
  refine ar_pure tOk rfl rfl rfl trivial ?_
  refine ar_nil ?_
  refine ag_seq ?_
  refine ag_seq ?_
  refine ag_reg ?_
  refine ar_pur (w_alive03) rfl rfl rfl rfl rfl rfl rfl ?_
  refine ar_pure tOk rfl rfl rfl trivial ?_
  refine ar_nil ?_
  refine ag_false rfl (rfl) ?_
  refine ag_skip ?_
  refine ag_seq ?_
  refine ag_reg ?_
  refine ar_pure tOk rfl rfl rfl trivial ?_
  refine ar_nil ?_
  refine ag_seq ?_
  refine ag_seq ?_
  refine ag_reg ?_
  refine ar_pure tOk rfl rfl rfl trivial ?_
  refine ar_nil ?_
  refine ag_block ?_
  refine ag_loopS (stHJ_0 L) (prHJ_0 L) (fun ⟨i, r⟩ => L.length - i) (0, JR.nil) (ent_weak [] rfl rfl rfl rfl ?_ ?_ rfl) (show prHJ_0 L (0, JR.nil) from ?_) ?_
  · exact ⟨⟨rfl, rfl⟩, ⟨rfl, rfl⟩, ⟨rfl, rfl⟩, trivial⟩
  · trivial
  · exact ⟨Nat.zero_le _, rfl⟩
  rintro ⟨i, r⟩ hp hrec
  cases r with
  | nil =>
    obtain ⟨hi, hr⟩ : _ := hp
    refine ag_ent (ent_weak (g' := [(0, roL L), (3, .r .nil), (4, .r (.int .i64 (i : Int)))]) (h' := ⟨0, [], false⟩) [] rfl rfl rfl rfl ?_ ?_ rfl) ?_
    · exact ⟨⟨rfl, rfl⟩, ⟨rfl, rfl⟩, ⟨rfl, rfl⟩, trivial⟩
    · trivial
    have hr : (L.take i).flatten = [] := hr
    refine ag_seq ?_
    refine ag_seq ?_
    refine ag_reg ?_
    refine ar_pure tOk rfl rfl rfl trivial ?_
    refine ar_pure tOk rfl rfl rfl trivial ?_
    refine ar_pure tOk rfl rfl rfl trivial ?_
    refine ar_pure tOk rfl rfl rfl trivial ?_
    refine ar_nil ?_
    refine ag_if rfl ?_ ?_
    · intro h11
      have hlt : i < L.length := by omega
      obtain ⟨c, hs⟩ := get_of hlt
      have hle := lenTo_le L (i + 1)
      rw [lenTo_next hs] at hle
      have hln : (L.take i).flatten.length = lenTo L i := rfl
      refine ag_skip ?_
      refine ag_seq ?_
      refine ag_block ?_
      rcases (show c = [] ∨ 0 < c.length by cases c <;> simp) with hc | hc
      · skip
        refine ag_reg ?_
        refine ar_pure tOk rfl rfl rfl trivial ?_
        refine ar_pure tOk rfl rfl rfl trivial ?_
        refine ar_pure tOk rfl rfl rfl trivial ?_
        refine ar_pure tOk rfl rfl rfl ?_ ?_
        · refine ⟨?_, ?_⟩ <;> first | omega | exact ne_of hs | (refine ⟨?_, ?_⟩ <;> omega)
        refine ar_loadAs tOk (.r (.bs c)) rfl rfl rfl rfl rfl rfl rfl (.inl ⟨rfl, by rw [mulz_eq, Int.toNat_natCast, Nat.mul_one]; simp [Body.cells, hs]⟩) ?_
        refine ar_ent (ent_reg 18 (.r (.bs [])) (by show AVal.r (.bs _) = _; rw [hc])) ?_
        refine ar_qd rfl (qop_app0 tOk rfl ⟨⟨rfl, rfl⟩, by simp, rfl⟩) rfl rfl rfl rfl ?_
        refine ar_pure tOk rfl rfl rfl trivial ?_
        refine ar_nil ?_
        refine ag_inBlock ?_
        refine ag_reg ?_
        refine ar_pure tOk rfl rfl rfl trivial ?_
        refine ar_pure tOk rfl rfl rfl ?_ ?_
        · unfold inI64; omega
        refine ar_pure tOk rfl rfl rfl trivial ?_
        refine ar_nil ?_
        refine ag_ent (ent_weak (g' := (stHJ_0 L (i + 1, JR.nil)).1) (h' := (stHJ_0 L (i + 1, JR.nil)).2) [] rfl rfl rfl rfl ?_ ?_ rfl) (hrec _ (show prHJ_0 L (i + 1, JR.nil) from ?_) (show _ < _ from ?_))
        · exact ⟨⟨rfl, rfl⟩, ⟨rfl, by rfl⟩, ⟨rfl, by exact eqI (by omega)⟩, trivial⟩
        · trivial
        · refine ⟨by omega, ?_⟩
          show _ = _
          rw [take_next hs, hr, hc]
          rfl
        · show L.length - (i + 1) < L.length - i; omega
      · skip
        refine ag_reg ?_
        refine ar_pure tOk rfl rfl rfl trivial ?_
        refine ar_pure tOk rfl rfl rfl trivial ?_
        refine ar_pure tOk rfl rfl rfl trivial ?_
        refine ar_pure tOk rfl rfl rfl ?_ ?_
        · refine ⟨?_, ?_⟩ <;> first | omega | exact ne_of hs | (refine ⟨?_, ?_⟩ <;> omega)
        refine ar_loadAs tOk (.r (.bs c)) rfl rfl rfl rfl rfl rfl rfl (.inl ⟨rfl, by rw [mulz_eq, Int.toNat_natCast, Nat.mul_one]; simp [Body.cells, hs]⟩) ?_
        skip
        refine ar_app tOk rfl rfl rfl ?_ ?_
        · refine ⟨⟨?_, ?_, ?_⟩, ⟨?_, ?_⟩, ⟨?_, ?_⟩, ?_⟩ <;> first | trivial | decide | omega | (simp; done) | (simp; omega) | (simp at *; omega)
        refine ar_pure tOk rfl rfl rfl trivial ?_
        refine ar_nil ?_
        refine ag_inBlock ?_
        refine ag_reg ?_
        refine ar_pure tOk rfl rfl rfl trivial ?_
        refine ar_pure tOk rfl rfl rfl ?_ ?_
        · unfold inI64; omega
        refine ar_pure tOk rfl rfl rfl trivial ?_
        refine ar_nil ?_
        refine ag_ent (ent_weak (g' := (stHJ_0 L (i + 1, JR.buf c)).1) (h' := (stHJ_0 L (i + 1, JR.buf c)).2) [0] rfl rfl rfl rfl ?_ ?_ rfl) (hrec _ (show prHJ_0 L (i + 1, JR.buf c) from ?_) (show _ < _ from ?_))
        · exact ⟨⟨rfl, rfl⟩, ⟨rfl, by exact eqSl (by simp)⟩, ⟨rfl, by exact eqI (by omega)⟩, trivial⟩
        · exact ⟨⟨rfl, rfl, by exact eqBs (by simp [cutA_eq])⟩, trivial⟩
        · refine ⟨by omega, ?_⟩
          show _ = _
          rw [take_next hs, hr]
          rfl
        · show L.length - (i + 1) < L.length - i; omega
    · intro h11
      have hiL : i = L.length := by omega
      subst hiL
      rw [List.take_length] at hr
      refine ag_exit rfl ?_
      refine ag_seq ?_
      refine ag_seq ?_
      refine ag_reg ?_
      refine ar_pure tOk rfl rfl rfl trivial ?_
      refine ar_pure tOk rfl rfl rfl trivial ?_
      refine ar_pure tOk rfl rfl rfl trivial ?_
      refine ar_nil ?_
      refine ag_if rfl ?_ ?_
      · intro h22
        refine ag_seq ?_
        refine ag_reg ?_
        refine ar_pure tOk rfl rfl rfl trivial ?_
        refine ar_nil ?_
        refine ag_ret tOk Try.func10 rfl rfl (by simp) ?_
        first | rfl | exact eqB (by simp [cutL, mulz])
      · intro h22
        refine ag_skip ?_
        refine ag_seq ?_
        refine ag_reg ?_
        refine ar_pure tOk rfl rfl rfl trivial ?_
        refine ar_ent (ent_nil 23 (.bs []) rfl (.inl rfl)) ?_
        refine ar_ent (ent_reg 23 (.r (.bs L.flatten)) (by show AVal.r (.bs _) = _; exact eqBsv hr.symm)) ?_
        refine ar_pur (w_rSum L.flatten (by omega)) rfl rfl rfl rfl rfl rfl rfl ?_
        refine ar_pure tOk rfl rfl rfl trivial ?_
        refine ar_pure tOk rfl rfl rfl trivial ?_
        refine ar_nil ?_
        refine ag_seq ?_
        refine ag_draw0 (by kernel_rfl) (by kernel_rfl) ?_
        refine aq_pure tOk rfl rfl rfl trivial ?_
        refine aq_pur (w_Text L hL hF) rfl rfl rfl rfl rfl rfl rfl ?_
        refine aq_pure tOk rfl rfl rfl trivial ?_
        refine aq_pure tOk rfl rfl rfl trivial ?_
        refine aq_pure tOk rfl rfl rfl trivial ?_
        refine aq_pure tOk rfl rfl (by simp) trivial ?_
        refine aq_pur (w_Short L hL hF) rfl rfl rfl rfl rfl rfl (by simp) ?_
        refine aq_pure tOk rfl rfl (by simp) trivial ?_
        refine aq_pure tOk rfl rfl (by simp) ?_ ?_
        · rw [sha_length]; simp only [boundsOk]; omega
        refine aq_pure tOk rfl rfl (by simp) trivial ?_
        refine aq_pure tOk rfl rfl rfl trivial ?_
        refine aq_pure tOk rfl rfl rfl trivial ?_
        refine aq_nil rfl ?_
        refine ag_ret tOk Try.func10 rfl rfl (by simp) ?_
        first | rfl | exact eqB (by simp [cutL, mulz])
  | buf s =>
    obtain ⟨hi, hr⟩ : _ := hp
    refine ag_ent (ent_weak (g' := [(0, roL L), (3, .sl 0 0 s.length 1), (4, .r (.int .i64 (i : Int)))]) (h' := hB s) [0] rfl rfl rfl rfl ?_ ?_ rfl) ?_
    · exact ⟨⟨rfl, rfl⟩, ⟨rfl, rfl⟩, ⟨rfl, rfl⟩, trivial⟩
    · exact ⟨⟨rfl, rfl, rfl⟩, trivial⟩
    have hr : (L.take i).flatten = s := hr
    have hsl : s.length = lenTo L i := by rw [← hr]; rfl
    refine ag_seq ?_
    refine ag_seq ?_
    refine ag_reg ?_
    refine ar_pure tOk rfl rfl rfl trivial ?_
    refine ar_pure tOk rfl rfl rfl trivial ?_
    refine ar_pure tOk rfl rfl rfl trivial ?_
    refine ar_pure tOk rfl rfl rfl trivial ?_
    refine ar_nil ?_
    refine ag_if rfl ?_ ?_
    · intro h11
      have hlt : i < L.length := by omega
      obtain ⟨c, hs⟩ := get_of hlt
      have hle := lenTo_le L (i + 1)
      rw [lenTo_next hs] at hle
      have hln : (L.take i).flatten.length = lenTo L i := rfl
      refine ag_skip ?_
      refine ag_seq ?_
      refine ag_block ?_
      refine ag_reg ?_
      refine ar_pure tOk rfl rfl rfl trivial ?_
      refine ar_pure tOk rfl rfl rfl trivial ?_
      refine ar_pure tOk rfl rfl rfl trivial ?_
      refine ar_pure tOk rfl rfl rfl ?_ ?_
      · refine ⟨?_, ?_⟩ <;> first | omega | exact ne_of hs | (refine ⟨?_, ?_⟩ <;> omega)
      refine ar_loadAs tOk (.r (.bs c)) rfl rfl rfl rfl rfl rfl rfl (.inl ⟨rfl, by rw [mulz_eq, Int.toNat_natCast, Nat.mul_one]; simp [Body.cells, hs]⟩) ?_
      skip
      refine ar_app tOk rfl rfl rfl ?_ ?_
      · refine ⟨⟨?_, ?_, ?_⟩, ⟨?_, ?_⟩, ⟨?_, ?_⟩, ?_⟩ <;> first | trivial | decide | omega | (simp; done) | (simp; omega) | (simp at *; omega)
      refine ar_pure tOk rfl rfl rfl trivial ?_
      refine ar_nil ?_
      refine ag_inBlock ?_
      refine ag_reg ?_
      refine ar_pure tOk rfl rfl rfl trivial ?_
      refine ar_pure tOk rfl rfl rfl ?_ ?_
      · unfold inI64; omega
      refine ar_pure tOk rfl rfl rfl trivial ?_
      refine ar_nil ?_
      refine ag_ent (ent_weak (g' := (stHJ_0 L (i + 1, JR.buf (s ++ c))).1) (h' := (stHJ_0 L (i + 1, JR.buf (s ++ c))).2) [1] rfl rfl rfl rfl ?_ ?_ rfl) (hrec _ (show prHJ_0 L (i + 1, JR.buf (s ++ c)) from ?_) (show _ < _ from ?_))
      · exact ⟨⟨rfl, rfl⟩, ⟨rfl, by exact eqSl (by simp)⟩, ⟨rfl, by exact eqI (by omega)⟩, trivial⟩
      · exact ⟨⟨rfl, rfl, by exact eqBs (by simp [cutA_eq])⟩, trivial⟩
      · refine ⟨by omega, ?_⟩
        show _ = _
        rw [take_next hs, hr]
      · show L.length - (i + 1) < L.length - i; omega
    · intro h11
      have hiL : i = L.length := by omega
      subst hiL
      rw [List.take_length] at hr
      refine ag_exit rfl ?_
      refine ag_seq ?_
      refine ag_seq ?_
      refine ag_reg ?_
      refine ar_pure tOk rfl rfl rfl trivial ?_
      refine ar_pure tOk rfl rfl rfl trivial ?_
      refine ar_pure tOk rfl rfl rfl trivial ?_
      refine ar_nil ?_
      refine ag_if rfl ?_ ?_
      · intro h22
        refine ag_seq ?_
        refine ag_reg ?_
        refine ar_pure tOk rfl rfl rfl trivial ?_
        refine ar_nil ?_
        refine ag_ret tOk Try.func10 rfl rfl (by simp) ?_
        first | rfl | exact eqB (by simp [cutL, mulz])
      · intro h22
        refine ag_skip ?_
        refine ag_seq ?_
        refine ag_reg ?_
        refine ar_pure tOk rfl rfl rfl trivial ?_
        refine ar_ent (ent_freeze 23 rfl rfl rfl ⟨by simp, rfl⟩) ?_
        refine ar_ent (ent_reg 23 (.r (.bs L.flatten)) (by show AVal.r (.bs _) = _; exact eqBsv (by rw [cutA_eq]; simp; exact hr.symm))) ?_
        refine ar_pur (w_rSum L.flatten (by omega)) rfl rfl rfl rfl rfl rfl rfl ?_
        refine ar_pure tOk rfl rfl rfl trivial ?_
        refine ar_pure tOk rfl rfl rfl trivial ?_
        refine ar_nil ?_
        refine ag_seq ?_
        refine ag_draw0 (by kernel_rfl) (by kernel_rfl) ?_
        refine aq_pure tOk rfl rfl rfl trivial ?_
        refine aq_pur (w_Text L hL hF) rfl rfl rfl rfl rfl rfl rfl ?_
        refine aq_pure tOk rfl rfl rfl trivial ?_
        refine aq_pure tOk rfl rfl rfl trivial ?_
        refine aq_pure tOk rfl rfl rfl trivial ?_
        refine aq_pure tOk rfl rfl (by simp) trivial ?_
        refine aq_pur (w_Short L hL hF) rfl rfl rfl rfl rfl rfl (by simp) ?_
        refine aq_pure tOk rfl rfl (by simp) trivial ?_
        refine aq_pure tOk rfl rfl (by simp) ?_ ?_
        · rw [sha_length]; simp only [boundsOk]; omega
        refine aq_pure tOk rfl rfl (by simp) trivial ?_
        refine aq_pure tOk rfl rfl rfl trivial ?_
        refine aq_pure tOk rfl rfl rfl trivial ?_
        refine aq_nil rfl ?_
        refine ag_ret tOk Try.func10 rfl rfl (by simp) ?_
        first | rfl | exact eqB (by simp [cutL, mulz])

end Go.Proofs.Ytplfajhaehkhnaa
