/-
  THE SEAT'S TYPES, as a table (made by types.py).
-/
import Derived.KernelRfl
import Derived.Test.YtccdhgmkjakjkaaGreatProg
import Derived.Test.YtccdhgmkjakjkaaGreatMB
namespace Go.Proofs.YtccdhgmkjakjkaaGreat
open Go
theorem tyOk_mk {P : Program} {t : Nat} {ty : Ty} {d : TypeDesc} (hu : P.underlying t = some d) (hi : (P.info? t).map (fun i => (i.size, i.bytes)) = some (ty.size, ty.bytes))
  (hl : (ty.k.agg || Nat.beq ty.size 1) = true) (hk : ty.k.ok d) (hg : (!ty.k.agg || (!P.stoodInHeld t && !P.eqGuardType P.depth t)) = true)
  (hz : ty.zero = [] ∨ ((P.info? t).bind (fun i => i.zero.map fun z => z.cells.toList) = some (ty.zero.map RVal.conc) ∧ ty.zero.all RVal.flat = true)) : TyOk P t ty := by
 cases hi' : P.info? t with
 | none => rw [hi'] at hi; cases hi
 | some i =>
  rw [hi'] at hi hz
  simp only [Option.map_some, Option.some.injEq, Prod.mk.injEq] at hi
  refine ⟨fun h => ?_, d, i, hu, hi', hi.1, hi.2, hk, fun h => ?_, ?_⟩
  ·rw [h] at hl; exact Nat.eq_of_beq_eq_true (by simpa using hl)
  ·rw [h] at hg; simpa using hg
  ·rcases hz with hz | ⟨hz, hf⟩
   ·exact Or.inl hz
   ·right
    cases hz2 : i.zero with
    | none => simp [hz2] at hz
    | some z => exact ⟨z, rfl, by simpa [hz2] using hz, hf⟩
theorem ty1 : TyOk Tryz.prog 1 ⟨.other, 1, 8, []⟩ := tyOk_mk Tryz.underlying1 (by kernel_rfl) rfl (rfl) (by kernel_rfl) (Or.inl rfl)
theorem ty2 : TyOk Tryz.prog 2 ⟨.int .i64, 1, 8, [.int .i64 0]⟩ := tyOk_mk Tryz.underlying2 (by kernel_rfl) rfl (rfl) (by kernel_rfl) (Or.inr ⟨by kernel_rfl, by kernel_rfl⟩)
theorem ty3 : TyOk Tryz.prog 3 ⟨.int .i64, 1, 8, [.int .i64 0]⟩ := tyOk_mk Tryz.underlying3 (by kernel_rfl) rfl (rfl) (by kernel_rfl) (Or.inr ⟨by kernel_rfl, by kernel_rfl⟩)
theorem ty4 : TyOk Tryz.prog 4 ⟨.bool, 1, 1, [.bool false]⟩ := tyOk_mk Tryz.underlying4 (by kernel_rfl) rfl (rfl) (by kernel_rfl) (Or.inr ⟨by kernel_rfl, by kernel_rfl⟩)
theorem ty5 : TyOk Tryz.prog 5 ⟨.int .u8, 1, 1, [.int .u8 0]⟩ := tyOk_mk Tryz.underlying5 (by kernel_rfl) rfl (rfl) (by kernel_rfl) (Or.inr ⟨by kernel_rfl, by kernel_rfl⟩)
theorem ty6 : TyOk Tryz.prog 6 ⟨.int .u8, 1, 1, [.int .u8 0]⟩ := tyOk_mk Tryz.underlying6 (by kernel_rfl) rfl (rfl) (by kernel_rfl) (Or.inr ⟨by kernel_rfl, by kernel_rfl⟩)
theorem ty7 : TyOk Tryz.prog 7 ⟨.struct [(0, 2), (1, 3), (2, 4), (3, 6)], 4, 24, [.int .i64 0, .int .i64 0, .bool false, .int .u8 0]⟩ := tyOk_mk Tryz.underlying7 (by kernel_rfl) rfl (⟨_, rfl, rfl, by kernel_rfl⟩) (by kernel_rfl) (Or.inr ⟨by kernel_rfl, by kernel_rfl⟩)
theorem ty8 : TyOk Tryz.prog 8 ⟨.struct [(0, 2), (1, 3), (2, 4), (3, 6)], 4, 24, [.int .i64 0, .int .i64 0, .bool false, .int .u8 0]⟩ := tyOk_mk Tryz.underlying8 (by kernel_rfl) rfl (⟨_, rfl, rfl, by kernel_rfl⟩) (by kernel_rfl) (Or.inr ⟨by kernel_rfl, by kernel_rfl⟩)
theorem ty9 : TyOk Tryz.prog 9 ⟨.str, 1, 16, [.str []]⟩ := tyOk_mk Tryz.underlying9 (by kernel_rfl) rfl (rfl) (by kernel_rfl) (Or.inr ⟨by kernel_rfl, by kernel_rfl⟩)
theorem ty10 : TyOk Tryz.prog 10 ⟨.str, 1, 16, [.str []]⟩ := tyOk_mk Tryz.underlying10 (by kernel_rfl) rfl (rfl) (by kernel_rfl) (Or.inr ⟨by kernel_rfl, by kernel_rfl⟩)
theorem ty11 : TyOk Tryz.prog 11 ⟨.str, 1, 16, [.str []]⟩ := tyOk_mk Tryz.underlying11 (by kernel_rfl) rfl (rfl) (by kernel_rfl) (Or.inr ⟨by kernel_rfl, by kernel_rfl⟩)
theorem ty12 : TyOk Tryz.prog 12 ⟨.int .u64, 1, 8, [.int .u64 0]⟩ := tyOk_mk Tryz.underlying12 (by kernel_rfl) rfl (rfl) (by kernel_rfl) (Or.inr ⟨by kernel_rfl, by kernel_rfl⟩)
theorem ty15 : TyOk Tryz.prog 15 ⟨.ptr 161, 1, 8, [.nilp]⟩ := tyOk_mk Tryz.underlying15 (by kernel_rfl) rfl (rfl) (by kernel_rfl) (Or.inr ⟨by kernel_rfl, by kernel_rfl⟩)
theorem ty16 : TyOk Tryz.prog 16 ⟨.ptr 164, 1, 8, [.nilp]⟩ := tyOk_mk Tryz.underlying16 (by kernel_rfl) rfl (rfl) (by kernel_rfl) (Or.inr ⟨by kernel_rfl, by kernel_rfl⟩)
theorem ty17 : TyOk Tryz.prog 17 ⟨.ptr 173, 1, 8, [.nilp]⟩ := tyOk_mk Tryz.underlying17 (by kernel_rfl) rfl (rfl) (by kernel_rfl) (Or.inr ⟨by kernel_rfl, by kernel_rfl⟩)
theorem ty20 : TyOk Tryz.prog 20 ⟨.other, 1, 16, []⟩ := tyOk_mk Tryz.underlying20 (by kernel_rfl) rfl (rfl) (by kernel_rfl) (Or.inl rfl)
theorem ty21 : TyOk Tryz.prog 21 ⟨.int .i32, 1, 4, [.int .i32 0]⟩ := tyOk_mk Tryz.underlying21 (by kernel_rfl) rfl (rfl) (by kernel_rfl) (Or.inr ⟨by kernel_rfl, by kernel_rfl⟩)
theorem ty22 : TyOk Tryz.prog 22 ⟨.slice 38, 1, 24, [.nil]⟩ := tyOk_mk Tryz.underlying22 (by kernel_rfl) rfl (rfl) (by kernel_rfl) (Or.inr ⟨by kernel_rfl, by kernel_rfl⟩)
theorem ty23 : TyOk Tryz.prog 23 ⟨.other, 1, 8, []⟩ := tyOk_mk Tryz.underlying23 (by kernel_rfl) rfl (rfl) (by kernel_rfl) (Or.inl rfl)
theorem ty24 : TyOk Tryz.prog 24 ⟨.other, 1, 8, []⟩ := tyOk_mk Tryz.underlying24 (by kernel_rfl) rfl (rfl) (by kernel_rfl) (Or.inl rfl)
theorem ty25 : TyOk Tryz.prog 25 ⟨.other, 1, 8, []⟩ := tyOk_mk Tryz.underlying25 (by kernel_rfl) rfl (rfl) (by kernel_rfl) (Or.inl rfl)
theorem ty26 : TyOk Tryz.prog 26 ⟨.slice 9, 1, 24, [.nil]⟩ := tyOk_mk Tryz.underlying26 (by kernel_rfl) rfl (rfl) (by kernel_rfl) (Or.inr ⟨by kernel_rfl, by kernel_rfl⟩)
theorem ty27 : TyOk Tryz.prog 27 ⟨.ptr 60, 1, 8, [.nilp]⟩ := tyOk_mk Tryz.underlying27 (by kernel_rfl) rfl (rfl) (by kernel_rfl) (Or.inr ⟨by kernel_rfl, by kernel_rfl⟩)
theorem ty28 : TyOk Tryz.prog 28 ⟨.other, 1, 8, []⟩ := tyOk_mk Tryz.underlying28 (by kernel_rfl) rfl (rfl) (by kernel_rfl) (Or.inl rfl)
theorem ty29 : TyOk Tryz.prog 29 ⟨.slice 45, 1, 24, [.nil]⟩ := tyOk_mk Tryz.underlying29 (by kernel_rfl) rfl (rfl) (by kernel_rfl) (Or.inr ⟨by kernel_rfl, by kernel_rfl⟩)
theorem ty30 : TyOk Tryz.prog 30 ⟨.int .u64, 1, 8, [.int .u64 0]⟩ := tyOk_mk Tryz.underlying30 (by kernel_rfl) rfl (rfl) (by kernel_rfl) (Or.inr ⟨by kernel_rfl, by kernel_rfl⟩)
theorem ty31 : TyOk Tryz.prog 31 ⟨.arr 4 30, 4, 32, [.int .u64 0, .int .u64 0, .int .u64 0, .int .u64 0]⟩ := tyOk_mk Tryz.underlying31 (by kernel_rfl) rfl (rfl) (by kernel_rfl) (Or.inr ⟨by kernel_rfl, by kernel_rfl⟩)
theorem ty32 : TyOk Tryz.prog 32 ⟨.arr 4 30, 4, 32, [.int .u64 0, .int .u64 0, .int .u64 0, .int .u64 0]⟩ := tyOk_mk Tryz.underlying32 (by kernel_rfl) rfl (rfl) (by kernel_rfl) (Or.inr ⟨by kernel_rfl, by kernel_rfl⟩)
theorem ty33 : TyOk Tryz.prog 33 ⟨.struct [(0, 3), (1, 3), (2, 3), (3, 3), (4, 32), (8, 9)], 9, 80, [.int .i64 0, .int .i64 0, .int .i64 0, .int .i64 0, .int .u64 0, .int .u64 0, .int .u64 0, .int .u64 0, .str []]⟩ := tyOk_mk Tryz.underlying33 (by kernel_rfl) rfl (⟨_, rfl, rfl, by kernel_rfl⟩) (by kernel_rfl) (Or.inr ⟨by kernel_rfl, by kernel_rfl⟩)
theorem ty34 : TyOk Tryz.prog 34 ⟨.struct [(0, 3), (1, 3), (2, 3), (3, 3), (4, 32), (8, 9)], 9, 80, [.int .i64 0, .int .i64 0, .int .i64 0, .int .i64 0, .int .u64 0, .int .u64 0, .int .u64 0, .int .u64 0, .str []]⟩ := tyOk_mk Tryz.underlying34 (by kernel_rfl) rfl (⟨_, rfl, rfl, by kernel_rfl⟩) (by kernel_rfl) (Or.inr ⟨by kernel_rfl, by kernel_rfl⟩)
theorem ty35 : TyOk Tryz.prog 35 ⟨.struct [(0, 3), (1, 34), (10, 32), (14, 3), (15, 9)], 16, 144, [.int .i64 0, .int .i64 0, .int .i64 0, .int .i64 0, .int .i64 0, .int .u64 0, .int .u64 0, .int .u64 0, .int .u64 0, .str [], .int .u64 0, .int .u64 0, .int .u64 0, .int .u64 0, .int .i64 0, .str []]⟩ := tyOk_mk Tryz.underlying35 (by kernel_rfl) rfl (⟨_, rfl, rfl, by kernel_rfl⟩) (by kernel_rfl) (Or.inr ⟨by kernel_rfl, by kernel_rfl⟩)
theorem ty36 : TyOk Tryz.prog 36 ⟨.struct [(0, 3), (1, 34), (10, 32), (14, 3), (15, 9)], 16, 144, [.int .i64 0, .int .i64 0, .int .i64 0, .int .i64 0, .int .i64 0, .int .u64 0, .int .u64 0, .int .u64 0, .int .u64 0, .str [], .int .u64 0, .int .u64 0, .int .u64 0, .int .u64 0, .int .i64 0, .str []]⟩ := tyOk_mk Tryz.underlying36 (by kernel_rfl) rfl (⟨_, rfl, rfl, by kernel_rfl⟩) (by kernel_rfl) (Or.inr ⟨by kernel_rfl, by kernel_rfl⟩)
theorem ty37 : TyOk Tryz.prog 37 ⟨.struct [(0, 3), (1, 36), (17, 3)], 18, 160, [.int .i64 0, .int .i64 0, .int .i64 0, .int .i64 0, .int .i64 0, .int .i64 0, .int .u64 0, .int .u64 0, .int .u64 0, .int .u64 0, .str [], .int .u64 0, .int .u64 0, .int .u64 0, .int .u64 0, .int .i64 0, .str [], .int .i64 0]⟩ := tyOk_mk Tryz.underlying37 (by kernel_rfl) rfl (⟨_, rfl, rfl, by kernel_rfl⟩) (by kernel_rfl) (Or.inr ⟨by kernel_rfl, by kernel_rfl⟩)
theorem ty38 : TyOk Tryz.prog 38 ⟨.struct [(0, 3), (1, 36), (17, 3)], 18, 160, [.int .i64 0, .int .i64 0, .int .i64 0, .int .i64 0, .int .i64 0, .int .i64 0, .int .u64 0, .int .u64 0, .int .u64 0, .int .u64 0, .str [], .int .u64 0, .int .u64 0, .int .u64 0, .int .u64 0, .int .i64 0, .str [], .int .i64 0]⟩ := tyOk_mk Tryz.underlying38 (by kernel_rfl) rfl (⟨_, rfl, rfl, by kernel_rfl⟩) (by kernel_rfl) (Or.inr ⟨by kernel_rfl, by kernel_rfl⟩)
theorem ty39 : TyOk Tryz.prog 39 ⟨.other, 1, 8, []⟩ := tyOk_mk Tryz.underlying39 (by kernel_rfl) rfl (rfl) (by kernel_rfl) (Or.inl rfl)
theorem ty40 : TyOk Tryz.prog 40 ⟨.int .i64, 1, 8, [.int .i64 0]⟩ := tyOk_mk Tryz.underlying40 (by kernel_rfl) rfl (rfl) (by kernel_rfl) (Or.inr ⟨by kernel_rfl, by kernel_rfl⟩)
theorem ty41 : TyOk Tryz.prog 41 ⟨.other, 1, 8, []⟩ := tyOk_mk Tryz.underlying41 (by kernel_rfl) rfl (rfl) (by kernel_rfl) (Or.inl rfl)
theorem ty42 : TyOk Tryz.prog 42 ⟨.other, 1, 8, []⟩ := tyOk_mk Tryz.underlying42 (by kernel_rfl) rfl (rfl) (by kernel_rfl) (Or.inl rfl)
theorem ty43 : TyOk Tryz.prog 43 ⟨.slice 36, 1, 24, [.nil]⟩ := tyOk_mk Tryz.underlying43 (by kernel_rfl) rfl (rfl) (by kernel_rfl) (Or.inr ⟨by kernel_rfl, by kernel_rfl⟩)
theorem ty44 : TyOk Tryz.prog 44 ⟨.struct [(0, 34), (9, 3), (10, 43)], 11, 112, [.int .i64 0, .int .i64 0, .int .i64 0, .int .i64 0, .int .u64 0, .int .u64 0, .int .u64 0, .int .u64 0, .str [], .int .i64 0, .nil]⟩ := tyOk_mk Tryz.underlying44 (by kernel_rfl) rfl (⟨_, rfl, rfl, by kernel_rfl⟩) (by kernel_rfl) (Or.inr ⟨by kernel_rfl, by kernel_rfl⟩)
theorem ty45 : TyOk Tryz.prog 45 ⟨.struct [(0, 34), (9, 3), (10, 43)], 11, 112, [.int .i64 0, .int .i64 0, .int .i64 0, .int .i64 0, .int .u64 0, .int .u64 0, .int .u64 0, .int .u64 0, .str [], .int .i64 0, .nil]⟩ := tyOk_mk Tryz.underlying45 (by kernel_rfl) rfl (⟨_, rfl, rfl, by kernel_rfl⟩) (by kernel_rfl) (Or.inr ⟨by kernel_rfl, by kernel_rfl⟩)
theorem ty46 : TyOk Tryz.prog 46 ⟨.other, 1, 8, []⟩ := tyOk_mk Tryz.underlying46 (by kernel_rfl) rfl (rfl) (by kernel_rfl) (Or.inl rfl)
theorem ty47 : TyOk Tryz.prog 47 ⟨.other, 1, 8, []⟩ := tyOk_mk Tryz.underlying47 (by kernel_rfl) rfl (rfl) (by kernel_rfl) (Or.inl rfl)
theorem ty49 : TyOk Tryz.prog 49 ⟨.other, 1, 8, []⟩ := tyOk_mk Tryz.underlying49 (by kernel_rfl) rfl (rfl) (by kernel_rfl) (Or.inl rfl)
theorem ty50 : TyOk Tryz.prog 50 ⟨.other, 1, 8, []⟩ := tyOk_mk Tryz.underlying50 (by kernel_rfl) rfl (rfl) (by kernel_rfl) (Or.inl rfl)
theorem ty51 : TyOk Tryz.prog 51 ⟨.slice 34, 1, 24, [.nil]⟩ := tyOk_mk Tryz.underlying51 (by kernel_rfl) rfl (rfl) (by kernel_rfl) (Or.inr ⟨by kernel_rfl, by kernel_rfl⟩)
theorem ty52 : TyOk Tryz.prog 52 ⟨.other, 1, 8, []⟩ := tyOk_mk Tryz.underlying52 (by kernel_rfl) rfl (rfl) (by kernel_rfl) (Or.inl rfl)
theorem ty53 : TyOk Tryz.prog 53 ⟨.other, 1, 8, []⟩ := tyOk_mk Tryz.underlying53 (by kernel_rfl) rfl (rfl) (by kernel_rfl) (Or.inl rfl)
theorem ty54 : TyOk Tryz.prog 54 ⟨.other, 1, 8, []⟩ := tyOk_mk Tryz.underlying54 (by kernel_rfl) rfl (rfl) (by kernel_rfl) (Or.inl rfl)
theorem ty55 : TyOk Tryz.prog 55 ⟨.other, 1, 8, []⟩ := tyOk_mk Tryz.underlying55 (by kernel_rfl) rfl (rfl) (by kernel_rfl) (Or.inl rfl)
theorem ty56 : TyOk Tryz.prog 56 ⟨.other, 1, 8, []⟩ := tyOk_mk Tryz.underlying56 (by kernel_rfl) rfl (rfl) (by kernel_rfl) (Or.inl rfl)
theorem ty57 : TyOk Tryz.prog 57 ⟨.slice 5, 1, 24, [.nil]⟩ := tyOk_mk Tryz.underlying57 (by kernel_rfl) rfl (rfl) (by kernel_rfl) (Or.inr ⟨by kernel_rfl, by kernel_rfl⟩)
theorem ty58 : TyOk Tryz.prog 58 ⟨.slice 62, 1, 24, [.nil]⟩ := tyOk_mk Tryz.underlying58 (by kernel_rfl) rfl (rfl) (by kernel_rfl) (Or.inr ⟨by kernel_rfl, by kernel_rfl⟩)
theorem ty59 : TyOk Tryz.prog 59 ⟨.struct [(0, 26), (1, 58), (2, 4)], 3, 56, [.nil, .nil, .bool false]⟩ := tyOk_mk Tryz.underlying59 (by kernel_rfl) rfl (⟨_, rfl, rfl, by kernel_rfl⟩) (by kernel_rfl) (Or.inr ⟨by kernel_rfl, by kernel_rfl⟩)
theorem ty60 : TyOk Tryz.prog 60 ⟨.struct [(0, 26), (1, 58), (2, 4)], 3, 56, [.nil, .nil, .bool false]⟩ := tyOk_mk Tryz.underlying60 (by kernel_rfl) rfl (⟨_, rfl, rfl, by kernel_rfl⟩) (by kernel_rfl) (Or.inr ⟨by kernel_rfl, by kernel_rfl⟩)
theorem ty61 : TyOk Tryz.prog 61 ⟨.other, 1, 8, []⟩ := tyOk_mk Tryz.underlying61 (by kernel_rfl) rfl (rfl) (by kernel_rfl) (Or.inl rfl)
theorem ty62 : TyOk Tryz.prog 62 ⟨.ptr 65, 1, 8, [.nilp]⟩ := tyOk_mk Tryz.underlying62 (by kernel_rfl) rfl (rfl) (by kernel_rfl) (Or.inr ⟨by kernel_rfl, by kernel_rfl⟩)
theorem ty63 : TyOk Tryz.prog 63 ⟨.other, 1, 8, []⟩ := tyOk_mk Tryz.underlying63 (by kernel_rfl) rfl (rfl) (by kernel_rfl) (Or.inl rfl)
theorem ty64 : TyOk Tryz.prog 64 ⟨.struct [(0, 34), (9, 3), (10, 43)], 11, 112, [.int .i64 0, .int .i64 0, .int .i64 0, .int .i64 0, .int .u64 0, .int .u64 0, .int .u64 0, .int .u64 0, .str [], .int .i64 0, .nil]⟩ := tyOk_mk Tryz.underlying64 (by kernel_rfl) rfl (⟨_, rfl, rfl, by kernel_rfl⟩) (by kernel_rfl) (Or.inr ⟨by kernel_rfl, by kernel_rfl⟩)
theorem ty65 : TyOk Tryz.prog 65 ⟨.struct [(0, 34), (9, 3), (10, 43)], 11, 112, [.int .i64 0, .int .i64 0, .int .i64 0, .int .i64 0, .int .u64 0, .int .u64 0, .int .u64 0, .int .u64 0, .str [], .int .i64 0, .nil]⟩ := tyOk_mk Tryz.underlying65 (by kernel_rfl) rfl (⟨_, rfl, rfl, by kernel_rfl⟩) (by kernel_rfl) (Or.inr ⟨by kernel_rfl, by kernel_rfl⟩)
theorem ty66 : TyOk Tryz.prog 66 ⟨.other, 1, 8, []⟩ := tyOk_mk Tryz.underlying66 (by kernel_rfl) rfl (rfl) (by kernel_rfl) (Or.inl rfl)
theorem ty67 : TyOk Tryz.prog 67 ⟨.struct [(0, 3), (1, 9), (2, 3), (3, 3), (4, 3), (5, 3), (6, 9)], 7, 72, [.int .i64 0, .str [], .int .i64 0, .int .i64 0, .int .i64 0, .int .i64 0, .str []]⟩ := tyOk_mk Tryz.underlying67 (by kernel_rfl) rfl (⟨_, rfl, rfl, by kernel_rfl⟩) (by kernel_rfl) (Or.inr ⟨by kernel_rfl, by kernel_rfl⟩)
theorem ty68 : TyOk Tryz.prog 68 ⟨.struct [(0, 3), (1, 9), (2, 3), (3, 3), (4, 3), (5, 3), (6, 9)], 7, 72, [.int .i64 0, .str [], .int .i64 0, .int .i64 0, .int .i64 0, .int .i64 0, .str []]⟩ := tyOk_mk Tryz.underlying68 (by kernel_rfl) rfl (⟨_, rfl, rfl, by kernel_rfl⟩) (by kernel_rfl) (Or.inr ⟨by kernel_rfl, by kernel_rfl⟩)
theorem ty69 : TyOk Tryz.prog 69 ⟨.other, 1, 8, []⟩ := tyOk_mk Tryz.underlying69 (by kernel_rfl) rfl (rfl) (by kernel_rfl) (Or.inl rfl)
theorem ty70 : TyOk Tryz.prog 70 ⟨.other, 1, 8, []⟩ := tyOk_mk Tryz.underlying70 (by kernel_rfl) rfl (rfl) (by kernel_rfl) (Or.inl rfl)
theorem ty72 : TyOk Tryz.prog 72 ⟨.other, 1, 8, []⟩ := tyOk_mk Tryz.underlying72 (by kernel_rfl) rfl (rfl) (by kernel_rfl) (Or.inl rfl)
theorem ty73 : TyOk Tryz.prog 73 ⟨.other, 1, 8, []⟩ := tyOk_mk Tryz.underlying73 (by kernel_rfl) rfl (rfl) (by kernel_rfl) (Or.inl rfl)
theorem ty74 : TyOk Tryz.prog 74 ⟨.other, 1, 8, []⟩ := tyOk_mk Tryz.underlying74 (by kernel_rfl) rfl (rfl) (by kernel_rfl) (Or.inl rfl)
theorem ty75 : TyOk Tryz.prog 75 ⟨.other, 1, 8, []⟩ := tyOk_mk Tryz.underlying75 (by kernel_rfl) rfl (rfl) (by kernel_rfl) (Or.inl rfl)
theorem ty76 : TyOk Tryz.prog 76 ⟨.other, 1, 8, []⟩ := tyOk_mk Tryz.underlying76 (by kernel_rfl) rfl (rfl) (by kernel_rfl) (Or.inl rfl)
theorem ty77 : TyOk Tryz.prog 77 ⟨.other, 1, 8, []⟩ := tyOk_mk Tryz.underlying77 (by kernel_rfl) rfl (rfl) (by kernel_rfl) (Or.inl rfl)
theorem ty78 : TyOk Tryz.prog 78 ⟨.other, 1, 8, []⟩ := tyOk_mk Tryz.underlying78 (by kernel_rfl) rfl (rfl) (by kernel_rfl) (Or.inl rfl)
theorem ty79 : TyOk Tryz.prog 79 ⟨.other, 1, 8, []⟩ := tyOk_mk Tryz.underlying79 (by kernel_rfl) rfl (rfl) (by kernel_rfl) (Or.inl rfl)
theorem ty80 : TyOk Tryz.prog 80 ⟨.other, 1, 8, []⟩ := tyOk_mk Tryz.underlying80 (by kernel_rfl) rfl (rfl) (by kernel_rfl) (Or.inl rfl)
theorem ty81 : TyOk Tryz.prog 81 ⟨.other, 1, 8, []⟩ := tyOk_mk Tryz.underlying81 (by kernel_rfl) rfl (rfl) (by kernel_rfl) (Or.inl rfl)
theorem ty82 : TyOk Tryz.prog 82 ⟨.other, 1, 8, []⟩ := tyOk_mk Tryz.underlying82 (by kernel_rfl) rfl (rfl) (by kernel_rfl) (Or.inl rfl)
theorem ty83 : TyOk Tryz.prog 83 ⟨.other, 1, 8, []⟩ := tyOk_mk Tryz.underlying83 (by kernel_rfl) rfl (rfl) (by kernel_rfl) (Or.inl rfl)
theorem ty84 : TyOk Tryz.prog 84 ⟨.other, 1, 8, []⟩ := tyOk_mk Tryz.underlying84 (by kernel_rfl) rfl (rfl) (by kernel_rfl) (Or.inl rfl)
theorem ty85 : TyOk Tryz.prog 85 ⟨.other, 1, 8, []⟩ := tyOk_mk Tryz.underlying85 (by kernel_rfl) rfl (rfl) (by kernel_rfl) (Or.inl rfl)
theorem ty86 : TyOk Tryz.prog 86 ⟨.struct [(0, 57), (1, 3)], 2, 32, [.nil, .int .i64 0]⟩ := tyOk_mk Tryz.underlying86 (by kernel_rfl) rfl (⟨_, rfl, rfl, by kernel_rfl⟩) (by kernel_rfl) (Or.inr ⟨by kernel_rfl, by kernel_rfl⟩)
theorem ty87 : TyOk Tryz.prog 87 ⟨.struct [(0, 57), (1, 3)], 2, 32, [.nil, .int .i64 0]⟩ := tyOk_mk Tryz.underlying87 (by kernel_rfl) rfl (⟨_, rfl, rfl, by kernel_rfl⟩) (by kernel_rfl) (Or.inr ⟨by kernel_rfl, by kernel_rfl⟩)
theorem ty88 : TyOk Tryz.prog 88 ⟨.other, 1, 8, []⟩ := tyOk_mk Tryz.underlying88 (by kernel_rfl) rfl (rfl) (by kernel_rfl) (Or.inl rfl)
theorem ty89 : TyOk Tryz.prog 89 ⟨.other, 1, 8, []⟩ := tyOk_mk Tryz.underlying89 (by kernel_rfl) rfl (rfl) (by kernel_rfl) (Or.inl rfl)
theorem ty90 : TyOk Tryz.prog 90 ⟨.other, 1, 8, []⟩ := tyOk_mk Tryz.underlying90 (by kernel_rfl) rfl (rfl) (by kernel_rfl) (Or.inl rfl)
theorem ty91 : TyOk Tryz.prog 91 ⟨.other, 1, 8, []⟩ := tyOk_mk Tryz.underlying91 (by kernel_rfl) rfl (rfl) (by kernel_rfl) (Or.inl rfl)
theorem ty92 : TyOk Tryz.prog 92 ⟨.other, 1, 8, []⟩ := tyOk_mk Tryz.underlying92 (by kernel_rfl) rfl (rfl) (by kernel_rfl) (Or.inl rfl)
theorem ty93 : TyOk Tryz.prog 93 ⟨.other, 1, 8, []⟩ := tyOk_mk Tryz.underlying93 (by kernel_rfl) rfl (rfl) (by kernel_rfl) (Or.inl rfl)
theorem ty94 : TyOk Tryz.prog 94 ⟨.other, 1, 8, []⟩ := tyOk_mk Tryz.underlying94 (by kernel_rfl) rfl (rfl) (by kernel_rfl) (Or.inl rfl)
theorem ty95 : TyOk Tryz.prog 95 ⟨.other, 1, 8, []⟩ := tyOk_mk Tryz.underlying95 (by kernel_rfl) rfl (rfl) (by kernel_rfl) (Or.inl rfl)
theorem ty96 : TyOk Tryz.prog 96 ⟨.slice 3, 1, 24, [.nil]⟩ := tyOk_mk Tryz.underlying96 (by kernel_rfl) rfl (rfl) (by kernel_rfl) (Or.inr ⟨by kernel_rfl, by kernel_rfl⟩)
theorem ty97 : TyOk Tryz.prog 97 ⟨.other, 1, 8, []⟩ := tyOk_mk Tryz.underlying97 (by kernel_rfl) rfl (rfl) (by kernel_rfl) (Or.inl rfl)
theorem ty98 : TyOk Tryz.prog 98 ⟨.other, 1, 8, []⟩ := tyOk_mk Tryz.underlying98 (by kernel_rfl) rfl (rfl) (by kernel_rfl) (Or.inl rfl)
theorem ty99 : TyOk Tryz.prog 99 ⟨.other, 1, 8, []⟩ := tyOk_mk Tryz.underlying99 (by kernel_rfl) rfl (rfl) (by kernel_rfl) (Or.inl rfl)
theorem ty100 : TyOk Tryz.prog 100 ⟨.other, 1, 8, []⟩ := tyOk_mk Tryz.underlying100 (by kernel_rfl) rfl (rfl) (by kernel_rfl) (Or.inl rfl)
theorem ty101 : TyOk Tryz.prog 101 ⟨.other, 1, 8, []⟩ := tyOk_mk Tryz.underlying101 (by kernel_rfl) rfl (rfl) (by kernel_rfl) (Or.inl rfl)
theorem ty102 : TyOk Tryz.prog 102 ⟨.other, 1, 8, []⟩ := tyOk_mk Tryz.underlying102 (by kernel_rfl) rfl (rfl) (by kernel_rfl) (Or.inl rfl)
theorem ty103 : TyOk Tryz.prog 103 ⟨.other, 1, 8, []⟩ := tyOk_mk Tryz.underlying103 (by kernel_rfl) rfl (rfl) (by kernel_rfl) (Or.inl rfl)
theorem ty104 : TyOk Tryz.prog 104 ⟨.other, 1, 8, []⟩ := tyOk_mk Tryz.underlying104 (by kernel_rfl) rfl (rfl) (by kernel_rfl) (Or.inl rfl)
theorem ty105 : TyOk Tryz.prog 105 ⟨.other, 1, 8, []⟩ := tyOk_mk Tryz.underlying105 (by kernel_rfl) rfl (rfl) (by kernel_rfl) (Or.inl rfl)
theorem ty106 : TyOk Tryz.prog 106 ⟨.other, 1, 8, []⟩ := tyOk_mk Tryz.underlying106 (by kernel_rfl) rfl (rfl) (by kernel_rfl) (Or.inl rfl)
theorem ty107 : TyOk Tryz.prog 107 ⟨.slice 57, 1, 24, [.nil]⟩ := tyOk_mk Tryz.underlying107 (by kernel_rfl) rfl (rfl) (by kernel_rfl) (Or.inr ⟨by kernel_rfl, by kernel_rfl⟩)
theorem ty108 : TyOk Tryz.prog 108 ⟨.other, 1, 8, []⟩ := tyOk_mk Tryz.underlying108 (by kernel_rfl) rfl (rfl) (by kernel_rfl) (Or.inl rfl)
theorem ty109 : TyOk Tryz.prog 109 ⟨.other, 1, 8, []⟩ := tyOk_mk Tryz.underlying109 (by kernel_rfl) rfl (rfl) (by kernel_rfl) (Or.inl rfl)
theorem ty110 : TyOk Tryz.prog 110 ⟨.ptr 134, 1, 8, [.nilp]⟩ := tyOk_mk Tryz.underlying110 (by kernel_rfl) rfl (rfl) (by kernel_rfl) (Or.inr ⟨by kernel_rfl, by kernel_rfl⟩)
theorem ty111 : TyOk Tryz.prog 111 ⟨.other, 1, 8, []⟩ := tyOk_mk Tryz.underlying111 (by kernel_rfl) rfl (rfl) (by kernel_rfl) (Or.inl rfl)
theorem ty112 : TyOk Tryz.prog 112 ⟨.other, 1, 8, []⟩ := tyOk_mk Tryz.underlying112 (by kernel_rfl) rfl (rfl) (by kernel_rfl) (Or.inl rfl)
theorem ty113 : TyOk Tryz.prog 113 ⟨.other, 1, 8, []⟩ := tyOk_mk Tryz.underlying113 (by kernel_rfl) rfl (rfl) (by kernel_rfl) (Or.inl rfl)
theorem ty114 : TyOk Tryz.prog 114 ⟨.other, 1, 8, []⟩ := tyOk_mk Tryz.underlying114 (by kernel_rfl) rfl (rfl) (by kernel_rfl) (Or.inl rfl)
theorem ty115 : TyOk Tryz.prog 115 ⟨.other, 1, 8, []⟩ := tyOk_mk Tryz.underlying115 (by kernel_rfl) rfl (rfl) (by kernel_rfl) (Or.inl rfl)
theorem ty117 : TyOk Tryz.prog 117 ⟨.other, 1, 8, []⟩ := tyOk_mk Tryz.underlying117 (by kernel_rfl) rfl (rfl) (by kernel_rfl) (Or.inl rfl)
theorem ty118 : TyOk Tryz.prog 118 ⟨.other, 1, 8, []⟩ := tyOk_mk Tryz.underlying118 (by kernel_rfl) rfl (rfl) (by kernel_rfl) (Or.inl rfl)
theorem ty119 : TyOk Tryz.prog 119 ⟨.other, 1, 8, []⟩ := tyOk_mk Tryz.underlying119 (by kernel_rfl) rfl (rfl) (by kernel_rfl) (Or.inl rfl)
theorem ty120 : TyOk Tryz.prog 120 ⟨.other, 1, 8, []⟩ := tyOk_mk Tryz.underlying120 (by kernel_rfl) rfl (rfl) (by kernel_rfl) (Or.inl rfl)
theorem ty121 : TyOk Tryz.prog 121 ⟨.slice 30, 1, 24, [.nil]⟩ := tyOk_mk Tryz.underlying121 (by kernel_rfl) rfl (rfl) (by kernel_rfl) (Or.inr ⟨by kernel_rfl, by kernel_rfl⟩)
theorem ty122 : TyOk Tryz.prog 122 ⟨.other, 1, 8, []⟩ := tyOk_mk Tryz.underlying122 (by kernel_rfl) rfl (rfl) (by kernel_rfl) (Or.inl rfl)
theorem ty123 : TyOk Tryz.prog 123 ⟨.int .u32, 1, 4, [.int .u32 0]⟩ := tyOk_mk Tryz.underlying123 (by kernel_rfl) rfl (rfl) (by kernel_rfl) (Or.inr ⟨by kernel_rfl, by kernel_rfl⟩)
theorem ty124 : TyOk Tryz.prog 124 ⟨.arr 8 123, 8, 32, [.int .u32 0, .int .u32 0, .int .u32 0, .int .u32 0, .int .u32 0, .int .u32 0, .int .u32 0, .int .u32 0]⟩ := tyOk_mk Tryz.underlying124 (by kernel_rfl) rfl (rfl) (by kernel_rfl) (Or.inr ⟨by kernel_rfl, by kernel_rfl⟩)
theorem ty125 : TyOk Tryz.prog 125 ⟨.arr 64 123, 64, 256, [.int .u32 0, .int .u32 0, .int .u32 0, .int .u32 0, .int .u32 0, .int .u32 0, .int .u32 0, .int .u32 0, .int .u32 0, .int .u32 0, .int .u32 0, .int .u32 0, .int .u32 0, .int .u32 0, .int .u32 0, .int .u32 0, .int .u32 0, .int .u32 0, .int .u32 0, .int .u32 0, .int .u32 0, .int .u32 0, .int .u32 0, .int .u32 0, .int .u32 0, .int .u32 0, .int .u32 0, .int .u32 0, .int .u32 0, .int .u32 0, .int .u32 0, .int .u32 0, .int .u32 0, .int .u32 0, .int .u32 0, .int .u32 0, .int .u32 0, .int .u32 0, .int .u32 0, .int .u32 0, .int .u32 0, .int .u32 0, .int .u32 0, .int .u32 0, .int .u32 0, .int .u32 0, .int .u32 0, .int .u32 0, .int .u32 0, .int .u32 0, .int .u32 0, .int .u32 0, .int .u32 0, .int .u32 0, .int .u32 0, .int .u32 0, .int .u32 0, .int .u32 0, .int .u32 0, .int .u32 0, .int .u32 0, .int .u32 0, .int .u32 0, .int .u32 0]⟩ := tyOk_mk Tryz.underlying125 (by kernel_rfl) rfl (rfl) (by kernel_rfl) (Or.inr ⟨by kernel_rfl, by kernel_rfl⟩)
theorem ty126 : TyOk Tryz.prog 126 ⟨.other, 1, 8, []⟩ := tyOk_mk Tryz.underlying126 (by kernel_rfl) rfl (rfl) (by kernel_rfl) (Or.inl rfl)
theorem ty127 : TyOk Tryz.prog 127 ⟨.other, 1, 8, []⟩ := tyOk_mk Tryz.underlying127 (by kernel_rfl) rfl (rfl) (by kernel_rfl) (Or.inl rfl)
theorem ty128 : TyOk Tryz.prog 128 ⟨.other, 1, 8, []⟩ := tyOk_mk Tryz.underlying128 (by kernel_rfl) rfl (rfl) (by kernel_rfl) (Or.inl rfl)
theorem ty129 : TyOk Tryz.prog 129 ⟨.other, 1, 8, []⟩ := tyOk_mk Tryz.underlying129 (by kernel_rfl) rfl (rfl) (by kernel_rfl) (Or.inl rfl)
theorem ty130 : TyOk Tryz.prog 130 ⟨.int .u64, 1, 8, [.int .u64 0]⟩ := tyOk_mk Tryz.underlying130 (by kernel_rfl) rfl (rfl) (by kernel_rfl) (Or.inr ⟨by kernel_rfl, by kernel_rfl⟩)
theorem ty131 : TyOk Tryz.prog 131 ⟨.other, 1, 8, []⟩ := tyOk_mk Tryz.underlying131 (by kernel_rfl) rfl (rfl) (by kernel_rfl) (Or.inl rfl)
theorem ty132 : TyOk Tryz.prog 132 ⟨.other, 1, 8, []⟩ := tyOk_mk Tryz.underlying132 (by kernel_rfl) rfl (rfl) (by kernel_rfl) (Or.inl rfl)
theorem ty133 : TyOk Tryz.prog 133 ⟨.struct [(0, 57), (1, 40), (2, 4)], 3, 40, [.nil, .int .i64 0, .bool false]⟩ := tyOk_mk Tryz.underlying133 (by kernel_rfl) rfl (⟨_, rfl, rfl, by kernel_rfl⟩) (by kernel_rfl) (Or.inr ⟨by kernel_rfl, by kernel_rfl⟩)
theorem ty134 : TyOk Tryz.prog 134 ⟨.struct [(0, 57), (1, 40), (2, 4)], 3, 40, [.nil, .int .i64 0, .bool false]⟩ := tyOk_mk Tryz.underlying134 (by kernel_rfl) rfl (⟨_, rfl, rfl, by kernel_rfl⟩) (by kernel_rfl) (Or.inr ⟨by kernel_rfl, by kernel_rfl⟩)
theorem ty135 : TyOk Tryz.prog 135 ⟨.other, 1, 8, []⟩ := tyOk_mk Tryz.underlying135 (by kernel_rfl) rfl (rfl) (by kernel_rfl) (Or.inl rfl)
theorem ty136 : TyOk Tryz.prog 136 ⟨.other, 1, 8, []⟩ := tyOk_mk Tryz.underlying136 (by kernel_rfl) rfl (rfl) (by kernel_rfl) (Or.inl rfl)
theorem ty137 : TyOk Tryz.prog 137 ⟨.arr 4 3, 4, 32, [.int .i64 0, .int .i64 0, .int .i64 0, .int .i64 0]⟩ := tyOk_mk Tryz.underlying137 (by kernel_rfl) rfl (rfl) (by kernel_rfl) (Or.inr ⟨by kernel_rfl, by kernel_rfl⟩)
theorem ty138 : TyOk Tryz.prog 138 ⟨.other, 1, 8, []⟩ := tyOk_mk Tryz.underlying138 (by kernel_rfl) rfl (rfl) (by kernel_rfl) (Or.inl rfl)
theorem ty139 : TyOk Tryz.prog 139 ⟨.other, 1, 8, []⟩ := tyOk_mk Tryz.underlying139 (by kernel_rfl) rfl (rfl) (by kernel_rfl) (Or.inl rfl)
theorem ty140 : TyOk Tryz.prog 140 ⟨.other, 1, 8, []⟩ := tyOk_mk Tryz.underlying140 (by kernel_rfl) rfl (rfl) (by kernel_rfl) (Or.inl rfl)
theorem ty141 : TyOk Tryz.prog 141 ⟨.other, 1, 8, []⟩ := tyOk_mk Tryz.underlying141 (by kernel_rfl) rfl (rfl) (by kernel_rfl) (Or.inl rfl)
theorem ty142 : TyOk Tryz.prog 142 ⟨.other, 1, 8, []⟩ := tyOk_mk Tryz.underlying142 (by kernel_rfl) rfl (rfl) (by kernel_rfl) (Or.inl rfl)
theorem ty143 : TyOk Tryz.prog 143 ⟨.other, 1, 8, []⟩ := tyOk_mk Tryz.underlying143 (by kernel_rfl) rfl (rfl) (by kernel_rfl) (Or.inl rfl)
theorem ty144 : TyOk Tryz.prog 144 ⟨.other, 1, 8, []⟩ := tyOk_mk Tryz.underlying144 (by kernel_rfl) rfl (rfl) (by kernel_rfl) (Or.inl rfl)
theorem ty145 : TyOk Tryz.prog 145 ⟨.other, 1, 8, []⟩ := tyOk_mk Tryz.underlying145 (by kernel_rfl) rfl (rfl) (by kernel_rfl) (Or.inl rfl)
theorem ty146 : TyOk Tryz.prog 146 ⟨.other, 1, 8, []⟩ := tyOk_mk Tryz.underlying146 (by kernel_rfl) rfl (rfl) (by kernel_rfl) (Or.inl rfl)
theorem ty147 : TyOk Tryz.prog 147 ⟨.other, 1, 8, []⟩ := tyOk_mk Tryz.underlying147 (by kernel_rfl) rfl (rfl) (by kernel_rfl) (Or.inl rfl)
theorem ty148 : TyOk Tryz.prog 148 ⟨.arr 8 123, 8, 32, [.int .u32 0, .int .u32 0, .int .u32 0, .int .u32 0, .int .u32 0, .int .u32 0, .int .u32 0, .int .u32 0]⟩ := tyOk_mk Tryz.underlying148 (by kernel_rfl) rfl (rfl) (by kernel_rfl) (Or.inr ⟨by kernel_rfl, by kernel_rfl⟩)
theorem ty149 : TyOk Tryz.prog 149 ⟨.other, 1, 8, []⟩ := tyOk_mk Tryz.underlying149 (by kernel_rfl) rfl (rfl) (by kernel_rfl) (Or.inl rfl)
theorem ty150 : TyOk Tryz.prog 150 ⟨.other, 1, 8, []⟩ := tyOk_mk Tryz.underlying150 (by kernel_rfl) rfl (rfl) (by kernel_rfl) (Or.inl rfl)
theorem ty151 : TyOk Tryz.prog 151 ⟨.other, 1, 8, []⟩ := tyOk_mk Tryz.underlying151 (by kernel_rfl) rfl (rfl) (by kernel_rfl) (Or.inl rfl)
theorem ty152 : TyOk Tryz.prog 152 ⟨.other, 1, 8, []⟩ := tyOk_mk Tryz.underlying152 (by kernel_rfl) rfl (rfl) (by kernel_rfl) (Or.inl rfl)
theorem ty153 : TyOk Tryz.prog 153 ⟨.other, 1, 8, []⟩ := tyOk_mk Tryz.underlying153 (by kernel_rfl) rfl (rfl) (by kernel_rfl) (Or.inl rfl)
theorem ty154 : TyOk Tryz.prog 154 ⟨.other, 1, 8, []⟩ := tyOk_mk Tryz.underlying154 (by kernel_rfl) rfl (rfl) (by kernel_rfl) (Or.inl rfl)
theorem ty155 : TyOk Tryz.prog 155 ⟨.other, 1, 8, []⟩ := tyOk_mk Tryz.underlying155 (by kernel_rfl) rfl (rfl) (by kernel_rfl) (Or.inl rfl)
theorem ty156 : TyOk Tryz.prog 156 ⟨.other, 1, 8, []⟩ := tyOk_mk Tryz.underlying156 (by kernel_rfl) rfl (rfl) (by kernel_rfl) (Or.inl rfl)
theorem ty157 : TyOk Tryz.prog 157 ⟨.other, 1, 8, []⟩ := tyOk_mk Tryz.underlying157 (by kernel_rfl) rfl (rfl) (by kernel_rfl) (Or.inl rfl)
theorem ty158 : TyOk Tryz.prog 158 ⟨.other, 1, 8, []⟩ := tyOk_mk Tryz.underlying158 (by kernel_rfl) rfl (rfl) (by kernel_rfl) (Or.inl rfl)
theorem ty159 : TyOk Tryz.prog 159 ⟨.other, 1, 8, []⟩ := tyOk_mk Tryz.underlying159 (by kernel_rfl) rfl (rfl) (by kernel_rfl) (Or.inl rfl)
theorem ty162 : TyOk Tryz.prog 162 ⟨.arr 0 16, 0, 0, []⟩ := tyOk_mk Tryz.underlying162 (by kernel_rfl) rfl (rfl) (by kernel_rfl) (Or.inl rfl)
theorem ty165 : TyOk Tryz.prog 165 ⟨.other, 1, 8, []⟩ := tyOk_mk Tryz.underlying165 (by kernel_rfl) rfl (rfl) (by kernel_rfl) (Or.inl rfl)
theorem ty166 : TyOk Tryz.prog 166 ⟨.int .u8, 1, 1, [.int .u8 0]⟩ := tyOk_mk Tryz.underlying166 (by kernel_rfl) rfl (rfl) (by kernel_rfl) (Or.inr ⟨by kernel_rfl, by kernel_rfl⟩)
theorem ty167 : TyOk Tryz.prog 167 ⟨.int .u8, 1, 1, [.int .u8 0]⟩ := tyOk_mk Tryz.underlying167 (by kernel_rfl) rfl (rfl) (by kernel_rfl) (Or.inr ⟨by kernel_rfl, by kernel_rfl⟩)
theorem ty168 : TyOk Tryz.prog 168 ⟨.other, 1, 8, []⟩ := tyOk_mk Tryz.underlying168 (by kernel_rfl) rfl (rfl) (by kernel_rfl) (Or.inl rfl)
theorem ty169 : TyOk Tryz.prog 169 ⟨.ptr 5, 1, 8, [.nilp]⟩ := tyOk_mk Tryz.underlying169 (by kernel_rfl) rfl (rfl) (by kernel_rfl) (Or.inr ⟨by kernel_rfl, by kernel_rfl⟩)
theorem ty170 : TyOk Tryz.prog 170 ⟨.int .i32, 1, 4, [.int .i32 0]⟩ := tyOk_mk Tryz.underlying170 (by kernel_rfl) rfl (rfl) (by kernel_rfl) (Or.inr ⟨by kernel_rfl, by kernel_rfl⟩)
theorem ty171 : TyOk Tryz.prog 171 ⟨.int .i32, 1, 4, [.int .i32 0]⟩ := tyOk_mk Tryz.underlying171 (by kernel_rfl) rfl (rfl) (by kernel_rfl) (Or.inr ⟨by kernel_rfl, by kernel_rfl⟩)
theorem ty174 : TyOk Tryz.prog 174 ⟨.other, 1, 8, []⟩ := tyOk_mk Tryz.underlying174 (by kernel_rfl) rfl (rfl) (by kernel_rfl) (Or.inl rfl)
def T : TTab := [
 (1, ⟨.other, 1, 8, []⟩),
 (2, ⟨.int .i64, 1, 8, [.int .i64 0]⟩),
 (3, ⟨.int .i64, 1, 8, [.int .i64 0]⟩),
 (4, ⟨.bool, 1, 1, [.bool false]⟩),
 (5, ⟨.int .u8, 1, 1, [.int .u8 0]⟩),
 (6, ⟨.int .u8, 1, 1, [.int .u8 0]⟩),
 (7, ⟨.struct [(0, 2), (1, 3), (2, 4), (3, 6)], 4, 24, [.int .i64 0, .int .i64 0, .bool false, .int .u8 0]⟩),
 (8, ⟨.struct [(0, 2), (1, 3), (2, 4), (3, 6)], 4, 24, [.int .i64 0, .int .i64 0, .bool false, .int .u8 0]⟩),
 (9, ⟨.str, 1, 16, [.str []]⟩),
 (10, ⟨.str, 1, 16, [.str []]⟩),
 (11, ⟨.str, 1, 16, [.str []]⟩),
 (12, ⟨.int .u64, 1, 8, [.int .u64 0]⟩),
 (15, ⟨.ptr 161, 1, 8, [.nilp]⟩),
 (16, ⟨.ptr 164, 1, 8, [.nilp]⟩),
 (17, ⟨.ptr 173, 1, 8, [.nilp]⟩),
 (20, ⟨.other, 1, 16, []⟩),
 (21, ⟨.int .i32, 1, 4, [.int .i32 0]⟩),
 (22, ⟨.slice 38, 1, 24, [.nil]⟩),
 (23, ⟨.other, 1, 8, []⟩),
 (24, ⟨.other, 1, 8, []⟩),
 (25, ⟨.other, 1, 8, []⟩),
 (26, ⟨.slice 9, 1, 24, [.nil]⟩),
 (27, ⟨.ptr 60, 1, 8, [.nilp]⟩),
 (28, ⟨.other, 1, 8, []⟩),
 (29, ⟨.slice 45, 1, 24, [.nil]⟩),
 (30, ⟨.int .u64, 1, 8, [.int .u64 0]⟩),
 (31, ⟨.arr 4 30, 4, 32, [.int .u64 0, .int .u64 0, .int .u64 0, .int .u64 0]⟩),
 (32, ⟨.arr 4 30, 4, 32, [.int .u64 0, .int .u64 0, .int .u64 0, .int .u64 0]⟩),
 (33, ⟨.struct [(0, 3), (1, 3), (2, 3), (3, 3), (4, 32), (8, 9)], 9, 80, [.int .i64 0, .int .i64 0, .int .i64 0, .int .i64 0, .int .u64 0, .int .u64 0, .int .u64 0, .int .u64 0, .str []]⟩),
 (34, ⟨.struct [(0, 3), (1, 3), (2, 3), (3, 3), (4, 32), (8, 9)], 9, 80, [.int .i64 0, .int .i64 0, .int .i64 0, .int .i64 0, .int .u64 0, .int .u64 0, .int .u64 0, .int .u64 0, .str []]⟩),
 (35, ⟨.struct [(0, 3), (1, 34), (10, 32), (14, 3), (15, 9)], 16, 144, [.int .i64 0, .int .i64 0, .int .i64 0, .int .i64 0, .int .i64 0, .int .u64 0, .int .u64 0, .int .u64 0, .int .u64 0, .str [], .int .u64 0, .int .u64 0, .int .u64 0, .int .u64 0, .int .i64 0, .str []]⟩),
 (36, ⟨.struct [(0, 3), (1, 34), (10, 32), (14, 3), (15, 9)], 16, 144, [.int .i64 0, .int .i64 0, .int .i64 0, .int .i64 0, .int .i64 0, .int .u64 0, .int .u64 0, .int .u64 0, .int .u64 0, .str [], .int .u64 0, .int .u64 0, .int .u64 0, .int .u64 0, .int .i64 0, .str []]⟩),
 (37, ⟨.struct [(0, 3), (1, 36), (17, 3)], 18, 160, [.int .i64 0, .int .i64 0, .int .i64 0, .int .i64 0, .int .i64 0, .int .i64 0, .int .u64 0, .int .u64 0, .int .u64 0, .int .u64 0, .str [], .int .u64 0, .int .u64 0, .int .u64 0, .int .u64 0, .int .i64 0, .str [], .int .i64 0]⟩),
 (38, ⟨.struct [(0, 3), (1, 36), (17, 3)], 18, 160, [.int .i64 0, .int .i64 0, .int .i64 0, .int .i64 0, .int .i64 0, .int .i64 0, .int .u64 0, .int .u64 0, .int .u64 0, .int .u64 0, .str [], .int .u64 0, .int .u64 0, .int .u64 0, .int .u64 0, .int .i64 0, .str [], .int .i64 0]⟩),
 (39, ⟨.other, 1, 8, []⟩),
 (40, ⟨.int .i64, 1, 8, [.int .i64 0]⟩),
 (41, ⟨.other, 1, 8, []⟩),
 (42, ⟨.other, 1, 8, []⟩),
 (43, ⟨.slice 36, 1, 24, [.nil]⟩),
 (44, ⟨.struct [(0, 34), (9, 3), (10, 43)], 11, 112, [.int .i64 0, .int .i64 0, .int .i64 0, .int .i64 0, .int .u64 0, .int .u64 0, .int .u64 0, .int .u64 0, .str [], .int .i64 0, .nil]⟩),
 (45, ⟨.struct [(0, 34), (9, 3), (10, 43)], 11, 112, [.int .i64 0, .int .i64 0, .int .i64 0, .int .i64 0, .int .u64 0, .int .u64 0, .int .u64 0, .int .u64 0, .str [], .int .i64 0, .nil]⟩),
 (46, ⟨.other, 1, 8, []⟩),
 (47, ⟨.other, 1, 8, []⟩),
 (49, ⟨.other, 1, 8, []⟩),
 (50, ⟨.other, 1, 8, []⟩),
 (51, ⟨.slice 34, 1, 24, [.nil]⟩),
 (52, ⟨.other, 1, 8, []⟩),
 (53, ⟨.other, 1, 8, []⟩),
 (54, ⟨.other, 1, 8, []⟩),
 (55, ⟨.other, 1, 8, []⟩),
 (56, ⟨.other, 1, 8, []⟩),
 (57, ⟨.slice 5, 1, 24, [.nil]⟩),
 (58, ⟨.slice 62, 1, 24, [.nil]⟩),
 (59, ⟨.struct [(0, 26), (1, 58), (2, 4)], 3, 56, [.nil, .nil, .bool false]⟩),
 (60, ⟨.struct [(0, 26), (1, 58), (2, 4)], 3, 56, [.nil, .nil, .bool false]⟩),
 (61, ⟨.other, 1, 8, []⟩),
 (62, ⟨.ptr 65, 1, 8, [.nilp]⟩),
 (63, ⟨.other, 1, 8, []⟩),
 (64, ⟨.struct [(0, 34), (9, 3), (10, 43)], 11, 112, [.int .i64 0, .int .i64 0, .int .i64 0, .int .i64 0, .int .u64 0, .int .u64 0, .int .u64 0, .int .u64 0, .str [], .int .i64 0, .nil]⟩),
 (65, ⟨.struct [(0, 34), (9, 3), (10, 43)], 11, 112, [.int .i64 0, .int .i64 0, .int .i64 0, .int .i64 0, .int .u64 0, .int .u64 0, .int .u64 0, .int .u64 0, .str [], .int .i64 0, .nil]⟩),
 (66, ⟨.other, 1, 8, []⟩),
 (67, ⟨.struct [(0, 3), (1, 9), (2, 3), (3, 3), (4, 3), (5, 3), (6, 9)], 7, 72, [.int .i64 0, .str [], .int .i64 0, .int .i64 0, .int .i64 0, .int .i64 0, .str []]⟩),
 (68, ⟨.struct [(0, 3), (1, 9), (2, 3), (3, 3), (4, 3), (5, 3), (6, 9)], 7, 72, [.int .i64 0, .str [], .int .i64 0, .int .i64 0, .int .i64 0, .int .i64 0, .str []]⟩),
 (69, ⟨.other, 1, 8, []⟩),
 (70, ⟨.other, 1, 8, []⟩),
 (72, ⟨.other, 1, 8, []⟩),
 (73, ⟨.other, 1, 8, []⟩),
 (74, ⟨.other, 1, 8, []⟩),
 (75, ⟨.other, 1, 8, []⟩),
 (76, ⟨.other, 1, 8, []⟩),
 (77, ⟨.other, 1, 8, []⟩),
 (78, ⟨.other, 1, 8, []⟩),
 (79, ⟨.other, 1, 8, []⟩),
 (80, ⟨.other, 1, 8, []⟩),
 (81, ⟨.other, 1, 8, []⟩),
 (82, ⟨.other, 1, 8, []⟩),
 (83, ⟨.other, 1, 8, []⟩),
 (84, ⟨.other, 1, 8, []⟩),
 (85, ⟨.other, 1, 8, []⟩),
 (86, ⟨.struct [(0, 57), (1, 3)], 2, 32, [.nil, .int .i64 0]⟩),
 (87, ⟨.struct [(0, 57), (1, 3)], 2, 32, [.nil, .int .i64 0]⟩),
 (88, ⟨.other, 1, 8, []⟩),
 (89, ⟨.other, 1, 8, []⟩),
 (90, ⟨.other, 1, 8, []⟩),
 (91, ⟨.other, 1, 8, []⟩),
 (92, ⟨.other, 1, 8, []⟩),
 (93, ⟨.other, 1, 8, []⟩),
 (94, ⟨.other, 1, 8, []⟩),
 (95, ⟨.other, 1, 8, []⟩),
 (96, ⟨.slice 3, 1, 24, [.nil]⟩),
 (97, ⟨.other, 1, 8, []⟩),
 (98, ⟨.other, 1, 8, []⟩),
 (99, ⟨.other, 1, 8, []⟩),
 (100, ⟨.other, 1, 8, []⟩),
 (101, ⟨.other, 1, 8, []⟩),
 (102, ⟨.other, 1, 8, []⟩),
 (103, ⟨.other, 1, 8, []⟩),
 (104, ⟨.other, 1, 8, []⟩),
 (105, ⟨.other, 1, 8, []⟩),
 (106, ⟨.other, 1, 8, []⟩),
 (107, ⟨.slice 57, 1, 24, [.nil]⟩),
 (108, ⟨.other, 1, 8, []⟩),
 (109, ⟨.other, 1, 8, []⟩),
 (110, ⟨.ptr 134, 1, 8, [.nilp]⟩),
 (111, ⟨.other, 1, 8, []⟩),
 (112, ⟨.other, 1, 8, []⟩),
 (113, ⟨.other, 1, 8, []⟩),
 (114, ⟨.other, 1, 8, []⟩),
 (115, ⟨.other, 1, 8, []⟩),
 (117, ⟨.other, 1, 8, []⟩),
 (118, ⟨.other, 1, 8, []⟩),
 (119, ⟨.other, 1, 8, []⟩),
 (120, ⟨.other, 1, 8, []⟩),
 (121, ⟨.slice 30, 1, 24, [.nil]⟩),
 (122, ⟨.other, 1, 8, []⟩),
 (123, ⟨.int .u32, 1, 4, [.int .u32 0]⟩),
 (124, ⟨.arr 8 123, 8, 32, [.int .u32 0, .int .u32 0, .int .u32 0, .int .u32 0, .int .u32 0, .int .u32 0, .int .u32 0, .int .u32 0]⟩),
 (125, ⟨.arr 64 123, 64, 256, [.int .u32 0, .int .u32 0, .int .u32 0, .int .u32 0, .int .u32 0, .int .u32 0, .int .u32 0, .int .u32 0, .int .u32 0, .int .u32 0, .int .u32 0, .int .u32 0, .int .u32 0, .int .u32 0, .int .u32 0, .int .u32 0, .int .u32 0, .int .u32 0, .int .u32 0, .int .u32 0, .int .u32 0, .int .u32 0, .int .u32 0, .int .u32 0, .int .u32 0, .int .u32 0, .int .u32 0, .int .u32 0, .int .u32 0, .int .u32 0, .int .u32 0, .int .u32 0, .int .u32 0, .int .u32 0, .int .u32 0, .int .u32 0, .int .u32 0, .int .u32 0, .int .u32 0, .int .u32 0, .int .u32 0, .int .u32 0, .int .u32 0, .int .u32 0, .int .u32 0, .int .u32 0, .int .u32 0, .int .u32 0, .int .u32 0, .int .u32 0, .int .u32 0, .int .u32 0, .int .u32 0, .int .u32 0, .int .u32 0, .int .u32 0, .int .u32 0, .int .u32 0, .int .u32 0, .int .u32 0, .int .u32 0, .int .u32 0, .int .u32 0, .int .u32 0]⟩),
 (126, ⟨.other, 1, 8, []⟩),
 (127, ⟨.other, 1, 8, []⟩),
 (128, ⟨.other, 1, 8, []⟩),
 (129, ⟨.other, 1, 8, []⟩),
 (130, ⟨.int .u64, 1, 8, [.int .u64 0]⟩),
 (131, ⟨.other, 1, 8, []⟩),
 (132, ⟨.other, 1, 8, []⟩),
 (133, ⟨.struct [(0, 57), (1, 40), (2, 4)], 3, 40, [.nil, .int .i64 0, .bool false]⟩),
 (134, ⟨.struct [(0, 57), (1, 40), (2, 4)], 3, 40, [.nil, .int .i64 0, .bool false]⟩),
 (135, ⟨.other, 1, 8, []⟩),
 (136, ⟨.other, 1, 8, []⟩),
 (137, ⟨.arr 4 3, 4, 32, [.int .i64 0, .int .i64 0, .int .i64 0, .int .i64 0]⟩),
 (138, ⟨.other, 1, 8, []⟩),
 (139, ⟨.other, 1, 8, []⟩),
 (140, ⟨.other, 1, 8, []⟩),
 (141, ⟨.other, 1, 8, []⟩),
 (142, ⟨.other, 1, 8, []⟩),
 (143, ⟨.other, 1, 8, []⟩),
 (144, ⟨.other, 1, 8, []⟩),
 (145, ⟨.other, 1, 8, []⟩),
 (146, ⟨.other, 1, 8, []⟩),
 (147, ⟨.other, 1, 8, []⟩),
 (148, ⟨.arr 8 123, 8, 32, [.int .u32 0, .int .u32 0, .int .u32 0, .int .u32 0, .int .u32 0, .int .u32 0, .int .u32 0, .int .u32 0]⟩),
 (149, ⟨.other, 1, 8, []⟩),
 (150, ⟨.other, 1, 8, []⟩),
 (151, ⟨.other, 1, 8, []⟩),
 (152, ⟨.other, 1, 8, []⟩),
 (153, ⟨.other, 1, 8, []⟩),
 (154, ⟨.other, 1, 8, []⟩),
 (155, ⟨.other, 1, 8, []⟩),
 (156, ⟨.other, 1, 8, []⟩),
 (157, ⟨.other, 1, 8, []⟩),
 (158, ⟨.other, 1, 8, []⟩),
 (159, ⟨.other, 1, 8, []⟩),
 (162, ⟨.arr 0 16, 0, 0, []⟩),
 (165, ⟨.other, 1, 8, []⟩),
 (166, ⟨.int .u8, 1, 1, [.int .u8 0]⟩),
 (167, ⟨.int .u8, 1, 1, [.int .u8 0]⟩),
 (168, ⟨.other, 1, 8, []⟩),
 (169, ⟨.ptr 5, 1, 8, [.nilp]⟩),
 (170, ⟨.int .i32, 1, 4, [.int .i32 0]⟩),
 (171, ⟨.int .i32, 1, 4, [.int .i32 0]⟩),
 (174, ⟨.other, 1, 8, []⟩)]
theorem tOk : TOk Tryz.prog T := by
 refine TOk.cons ty1 ?_
 refine TOk.cons ty2 ?_
 refine TOk.cons ty3 ?_
 refine TOk.cons ty4 ?_
 refine TOk.cons ty5 ?_
 refine TOk.cons ty6 ?_
 refine TOk.cons ty7 ?_
 refine TOk.cons ty8 ?_
 refine TOk.cons ty9 ?_
 refine TOk.cons ty10 ?_
 refine TOk.cons ty11 ?_
 refine TOk.cons ty12 ?_
 refine TOk.cons ty15 ?_
 refine TOk.cons ty16 ?_
 refine TOk.cons ty17 ?_
 refine TOk.cons ty20 ?_
 refine TOk.cons ty21 ?_
 refine TOk.cons ty22 ?_
 refine TOk.cons ty23 ?_
 refine TOk.cons ty24 ?_
 refine TOk.cons ty25 ?_
 refine TOk.cons ty26 ?_
 refine TOk.cons ty27 ?_
 refine TOk.cons ty28 ?_
 refine TOk.cons ty29 ?_
 refine TOk.cons ty30 ?_
 refine TOk.cons ty31 ?_
 refine TOk.cons ty32 ?_
 refine TOk.cons ty33 ?_
 refine TOk.cons ty34 ?_
 refine TOk.cons ty35 ?_
 refine TOk.cons ty36 ?_
 refine TOk.cons ty37 ?_
 refine TOk.cons ty38 ?_
 refine TOk.cons ty39 ?_
 refine TOk.cons ty40 ?_
 refine TOk.cons ty41 ?_
 refine TOk.cons ty42 ?_
 refine TOk.cons ty43 ?_
 refine TOk.cons ty44 ?_
 refine TOk.cons ty45 ?_
 refine TOk.cons ty46 ?_
 refine TOk.cons ty47 ?_
 refine TOk.cons ty49 ?_
 refine TOk.cons ty50 ?_
 refine TOk.cons ty51 ?_
 refine TOk.cons ty52 ?_
 refine TOk.cons ty53 ?_
 refine TOk.cons ty54 ?_
 refine TOk.cons ty55 ?_
 refine TOk.cons ty56 ?_
 refine TOk.cons ty57 ?_
 refine TOk.cons ty58 ?_
 refine TOk.cons ty59 ?_
 refine TOk.cons ty60 ?_
 refine TOk.cons ty61 ?_
 refine TOk.cons ty62 ?_
 refine TOk.cons ty63 ?_
 refine TOk.cons ty64 ?_
 refine TOk.cons ty65 ?_
 refine TOk.cons ty66 ?_
 refine TOk.cons ty67 ?_
 refine TOk.cons ty68 ?_
 refine TOk.cons ty69 ?_
 refine TOk.cons ty70 ?_
 refine TOk.cons ty72 ?_
 refine TOk.cons ty73 ?_
 refine TOk.cons ty74 ?_
 refine TOk.cons ty75 ?_
 refine TOk.cons ty76 ?_
 refine TOk.cons ty77 ?_
 refine TOk.cons ty78 ?_
 refine TOk.cons ty79 ?_
 refine TOk.cons ty80 ?_
 refine TOk.cons ty81 ?_
 refine TOk.cons ty82 ?_
 refine TOk.cons ty83 ?_
 refine TOk.cons ty84 ?_
 refine TOk.cons ty85 ?_
 refine TOk.cons ty86 ?_
 refine TOk.cons ty87 ?_
 refine TOk.cons ty88 ?_
 refine TOk.cons ty89 ?_
 refine TOk.cons ty90 ?_
 refine TOk.cons ty91 ?_
 refine TOk.cons ty92 ?_
 refine TOk.cons ty93 ?_
 refine TOk.cons ty94 ?_
 refine TOk.cons ty95 ?_
 refine TOk.cons ty96 ?_
 refine TOk.cons ty97 ?_
 refine TOk.cons ty98 ?_
 refine TOk.cons ty99 ?_
 refine TOk.cons ty100 ?_
 refine TOk.cons ty101 ?_
 refine TOk.cons ty102 ?_
 refine TOk.cons ty103 ?_
 refine TOk.cons ty104 ?_
 refine TOk.cons ty105 ?_
 refine TOk.cons ty106 ?_
 refine TOk.cons ty107 ?_
 refine TOk.cons ty108 ?_
 refine TOk.cons ty109 ?_
 refine TOk.cons ty110 ?_
 refine TOk.cons ty111 ?_
 refine TOk.cons ty112 ?_
 refine TOk.cons ty113 ?_
 refine TOk.cons ty114 ?_
 refine TOk.cons ty115 ?_
 refine TOk.cons ty117 ?_
 refine TOk.cons ty118 ?_
 refine TOk.cons ty119 ?_
 refine TOk.cons ty120 ?_
 refine TOk.cons ty121 ?_
 refine TOk.cons ty122 ?_
 refine TOk.cons ty123 ?_
 refine TOk.cons ty124 ?_
 refine TOk.cons ty125 ?_
 refine TOk.cons ty126 ?_
 refine TOk.cons ty127 ?_
 refine TOk.cons ty128 ?_
 refine TOk.cons ty129 ?_
 refine TOk.cons ty130 ?_
 refine TOk.cons ty131 ?_
 refine TOk.cons ty132 ?_
 refine TOk.cons ty133 ?_
 refine TOk.cons ty134 ?_
 refine TOk.cons ty135 ?_
 refine TOk.cons ty136 ?_
 refine TOk.cons ty137 ?_
 refine TOk.cons ty138 ?_
 refine TOk.cons ty139 ?_
 refine TOk.cons ty140 ?_
 refine TOk.cons ty141 ?_
 refine TOk.cons ty142 ?_
 refine TOk.cons ty143 ?_
 refine TOk.cons ty144 ?_
 refine TOk.cons ty145 ?_
 refine TOk.cons ty146 ?_
 refine TOk.cons ty147 ?_
 refine TOk.cons ty148 ?_
 refine TOk.cons ty149 ?_
 refine TOk.cons ty150 ?_
 refine TOk.cons ty151 ?_
 refine TOk.cons ty152 ?_
 refine TOk.cons ty153 ?_
 refine TOk.cons ty154 ?_
 refine TOk.cons ty155 ?_
 refine TOk.cons ty156 ?_
 refine TOk.cons ty157 ?_
 refine TOk.cons ty158 ?_
 refine TOk.cons ty159 ?_
 refine TOk.cons ty162 ?_
 refine TOk.cons ty165 ?_
 refine TOk.cons ty166 ?_
 refine TOk.cons ty167 ?_
 refine TOk.cons ty168 ?_
 refine TOk.cons ty169 ?_
 refine TOk.cons ty170 ?_
 refine TOk.cons ty171 ?_
 refine TOk.cons ty174 ?_
 exact TOk.nil _
section
variable {f N : Nat} {m : Md} {ops : Array Oper} {o : Oper} {rest : List Oper} {k : List Item} {g : Regs} {h h' : Hp} {Post : AVal → Hp → Prop} {d : Nat} {v : AVal} {c : Prop}
theorem pA (hk : AReg Tryz.prog f N m ops rest k ((d, v) :: g) h Post) (hp : stepPure T N g o = some (d, v, c) := by exact rfl) (hg : guardB ops g o = some true := by exact rfl) (hc : c := by exact trivial) : AReg Tryz.prog f N m ops (o :: rest) k g h Post := ar_pure tOk hp hg rfl hc hk
theorem pB (hk : AReg Tryz.prog f N m ops rest k ((d, v) :: g) h Post) (hp : stepLoad T N g h o = some (d, v, c) := by exact rfl) (hg : guardB ops g o = some true := by exact rfl) (hc : c := by exact trivial) : AReg Tryz.prog f N m ops (o :: rest) k g h Post := ar_load tOk hp hg rfl hc hk
end
section
variable {f N : Nat} {m : Md} {ops : Array Oper} {o : Oper} {rest : List Oper} {k todo : List Item} {g : Regs} {h : Hp} {Post : AVal → Hp → Prop} {ld : List Nat} {Hs : Nat → Hp} {K ix j d : Nat} {F : Regs → Prop} {v : AVal} {c : Prop} {blk : ABlk} {n z : Nat} {β : Option Nat} {x y : Code} {q : Operand} {t : Bool}
theorem qA (hk : QGo Tryz.prog N ld ops Hs K F rest (ix + 1) j ((d, v) :: g)) (hp : stepPure T N g o = some (d, v, c) := by exact rfl) (hg : guardB ops g o = some true := by exact rfl) (hc : c := by exact trivial) : QGo Tryz.prog N ld ops Hs K F (o :: rest) ix j g := aq_pure tOk hp hg rfl hc hk
theorem qB (hc : c) (hk : QGo Tryz.prog N ld ops Hs K F rest (ix + 1) j ((d, v) :: g)) (hp : stepPure T N g o = some (d, v, c) := by exact rfl) (hg : guardB ops g o = some true := by exact rfl) : QGo Tryz.prog N ld ops Hs K F (o :: rest) ix j g := aq_pure tOk hp hg rfl hc hk
theorem pC (hc : c) (hk : AReg Tryz.prog f N m ops rest k ((d, v) :: g) h Post) (hp : stepPure T N g o = some (d, v, c) := by exact rfl) (hg : guardB ops g o = some true := by exact rfl) : AReg Tryz.prog f N m ops (o :: rest) k g h Post := ar_pure tOk hp hg rfl hc hk
theorem qL (hk : QGo Tryz.prog N ld ops Hs K F rest (ix + 1) j ((d, v) :: g)) (hp : stepLoad T N g (Hs 0) o = some (d, v, c) := by exact rfl) (hl : limAt ld ops ix = 0 := by kernel_rfl) (hg : guardB ops g o = some true := by exact rfl) (hc : c := by exact trivial) : QGo Tryz.prog N ld ops Hs K F (o :: rest) ix j g := aq_load0 tOk hp hl hg rfl hc hk
theorem qD {id : Nat} (hq : QGo Tryz.prog N [] ops (fun _ => h) 0 (fun g' => AGo Tryz.prog f N m k g' h Post) ops.toList 0 0 g) (hm : Tryz.prog.follows .mixedOrders = true := by kernel_rfl) (hok : drawsOk [] ops = true := by kernel_rfl) : AGo Tryz.prog f N m (.code (.region id ops true) :: k) g h Post := ag_draw0 hm hok hq
theorem pN (hc : c) (hk : AReg Tryz.prog f N m ops rest k ((d, v) :: g) (h.push blk) Post) (hp : stepNew T N g h.nxt o = some (d, v, blk, c) := by exact rfl) (hg : guardB ops g o = some true := by exact rfl) : AReg Tryz.prog f N m ops (o :: rest) k g h Post := ar_new tOk hp hg rfl hc hk
theorem pM (hk : AReg Tryz.prog f N m ops rest k ((d, v) :: g) (h.push blk) Post) (hp : stepNew T N g h.nxt o = some (d, v, blk, c) := by exact rfl) (hg : guardB ops g o = some true := by exact rfl) (hc : c := by exact trivial) : AReg Tryz.prog f N m ops (o :: rest) k g h Post := ar_new tOk hp hg rfl hc hk
theorem pP (hc : c) (hk : AReg Tryz.prog f N m ops rest k ((d, .sl h.nxt 0 n z) :: g) ((killO h β).push blk) Post) (hp : stepApp T N g h o = some (d, (n, z), β, blk, c) := by exact rfl) (hg : guardB ops g o = some true := by exact rfl) : AReg Tryz.prog f N m ops (o :: rest) k g h Post := ar_app tOk hp hg rfl hc hk
theorem vA (h1 : AGo Tryz.prog f N m (.code x :: k) g h Post) (hc : evA g q = .r (.bool t) := by exact rfl) (ht : t = true := by decide) : AGo Tryz.prog f N m (.code (.cond q x y) :: k) g h Post := ag_true hc ht h1
theorem vB (h1 : AGo Tryz.prog f N m (.code x :: k) g h Post) (hc : evA g q = .r (.bool t) := by exact rfl) (ht : t = true := by rfl) : AGo Tryz.prog f N m (.code (.cond q x y) :: k) g h Post := ag_true hc ht h1
theorem vC (h1 : AGo Tryz.prog f N m (.code y :: k) g h Post) (hc : evA g q = .r (.bool t) := by exact rfl) (ht : t = false := by rfl) : AGo Tryz.prog f N m (.code (.cond q x y) :: k) g h Post := ag_false hc ht h1
theorem vD (h1 : AGo Tryz.prog f N m (.code y :: k) g h Post) (hc : evA g q = .r (.bool t) := by exact rfl) (ht : t = false := by decide) : AGo Tryz.prog f N m (.code (.cond q x y) :: k) g h Post := ag_false hc ht h1
theorem pE (hk : AGo Tryz.prog f N m k ((d, v) :: g) h Post) (hp : stepPure T N g o = some (d, v, c) := by exact rfl) (hg : guardB ops g o = some true := by exact rfl) (hc : c := by exact trivial) : AReg Tryz.prog f N m ops [o] k g h Post := ar_pure tOk hp hg rfl hc (ar_nil hk)
theorem pF (hk : AGo Tryz.prog f N m (.code x :: .code y :: k) ((d, v) :: g) h Post) (hp : stepPure T N g o = some (d, v, c) := by exact rfl) (hg : guardB ops g o = some true := by exact rfl) (hc : c := by exact trivial) : AReg Tryz.prog f N m ops [o] (.code (.seq x y) :: k) g h Post := ar_pure tOk hp hg rfl hc (ar_nil (ag_seq hk))
theorem pG {id : Nat} {ops2 : Array Oper} (hk : AReg Tryz.prog f N m ops2 ops2.toList (.code y :: k) ((d, v) :: g) h Post) (hp : stepPure T N g o = some (d, v, c) := by exact rfl) (hg : guardB ops g o = some true := by exact rfl) (hc : c := by exact trivial) : AReg Tryz.prog f N m ops [o] (.code (.seq (.region id ops2 false) y) :: k) g h Post := ar_pure tOk hp hg rfl hc (ar_nil (ag_seq (ag_reg hk)))
theorem qE (hk : F ((d, v) :: g)) (hp : stepPure T N g o = some (d, v, c) := by exact rfl) (hg : guardB ops g o = some true := by exact rfl) (hc : c := by exact trivial) (hj : j = K := by rfl) : QGo Tryz.prog N ld ops Hs K F [o] ix j g := aq_pure tOk hp hg rfl hc (aq_nil hj hk)
theorem sS (hk : AGo Tryz.prog f N m (.code x :: .code y :: k) g h Post) : AGo Tryz.prog f N m (.code .skip :: .code (.seq x y) :: k) g h Post := ag_skip (ag_seq hk)
theorem sB {id : Nat} (hk : AGo Tryz.prog f N m (.code x :: .inBlock id :: .code y :: k) g h Post) : AGo Tryz.prog f N m (.code (.seq (.block id x) y) :: k) g h Post := ag_seq (ag_block hk)
theorem iR {id id2 : Nat} (hk : AReg Tryz.prog f N m ops ops.toList k g h Post) : AGo Tryz.prog f N m (.inBlock id :: .code (.region id2 ops false) :: k) g h Post := ag_inBlock (ag_reg hk)
theorem bX {id id2 : Nat} (hk : AReg Tryz.prog f N m ops ops.toList (.code y :: .inBlock id :: k) g h Post) : AGo Tryz.prog f N m (.code (.block id (.seq (.region id2 ops false) y)) :: k) g h Post := ag_block (ag_seq (ag_reg hk))
theorem sZ {id : Nat} {y2 : Code} (hk : AReg Tryz.prog f N m ops ops.toList (.code y :: .code y2 :: k) g h Post) : AGo Tryz.prog f N m (.code (.seq (.seq (.region id ops false) y) y2) :: k) g h Post := ag_seq (ag_seq (ag_reg hk))
theorem nA (hk : AGo Tryz.prog f N m (.code x :: .inLoop x :: k) g h Post) : AReg Tryz.prog f N m ops [] (.inLoop x :: k) g h Post := ar_nil (ag_again hk)
theorem nB {id : Nat} (hk : AGo Tryz.prog f N m (.code x :: .inBlock id :: k) g h Post) : AReg Tryz.prog f N m ops [] (.code (.block id x) :: k) g h Post := ar_nil (ag_block hk)
theorem nI {id : Nat} (hk : AGo Tryz.prog f N m k g h Post) : AReg Tryz.prog f N m ops [] (.inBlock id :: k) g h Post := ar_nil (ag_inBlock hk)
end
end Go.Proofs.YtccdhgmkjakjkaaGreat
