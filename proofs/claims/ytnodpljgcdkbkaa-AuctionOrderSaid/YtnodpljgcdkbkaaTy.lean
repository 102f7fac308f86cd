/-
  THE SEAT'S TYPES, as a table (made by types.py).
-/
import Derived.KernelRfl
import Derived.Test.YtnodpljgcdkbkaaProg
import Derived.Test.YtnodpljgcdkbkaaMB
namespace Go.Proofs.Ytnodpljgcdkbkaa
open Go
theorem tyOk_mk {P : Program} {t : Nat} {ty : Ty} {d : TypeDesc} (hu : P.underlying t = some d) (hi : (P.info? t).map (fun i => (i.size, i.bytes)) = some (ty.size, ty.bytes))
    (hl : (ty.k.agg || Nat.beq ty.size 1) = true) (hk : ty.k.ok d) (hg : (!ty.k.agg || (!P.stoodInHeld t && !P.eqGuardType P.depth t)) = true)
    (hz : ty.zero = [] ∨ ((P.info? t).bind (fun i => i.zero.map fun z => z.cells.toList) = some (ty.zero.map RVal.conc) ∧ ty.zero.all RVal.flat = true)) : TyOk P t ty := by
  cases hi' : P.info? t with
  | none => rw [hi'] at hi; cases hi
  | some i =>
    rw [hi'] at hi hz
    simp only [Option.map_some, Option.some.injEq, Prod.mk.injEq] at hi
    refine ⟨fun h => ?_, d, i, hu, hi', hi.1, hi.2, hk, fun h => ?_, ?_⟩
    · rw [h] at hl; exact Nat.eq_of_beq_eq_true (by simpa using hl)
    · rw [h] at hg; simpa using hg
    · rcases hz with hz | ⟨hz, hf⟩
      · exact Or.inl hz
      · right
        cases hz2 : i.zero with
        | none => simp [hz2] at hz
        | some z => exact ⟨z, rfl, by simpa [hz2] using hz, hf⟩
theorem ty1 : TyOk Try.prog 1 ⟨.other, 1, 8, []⟩ := tyOk_mk Try.underlying1 (by kernel_rfl) rfl (rfl) (by kernel_rfl) (Or.inl rfl)
theorem ty2 : TyOk Try.prog 2 ⟨.int .i64, 1, 8, [.int .i64 0]⟩ := tyOk_mk Try.underlying2 (by kernel_rfl) rfl (rfl) (by kernel_rfl) (Or.inr ⟨by kernel_rfl, by kernel_rfl⟩)
theorem ty3 : TyOk Try.prog 3 ⟨.int .i64, 1, 8, [.int .i64 0]⟩ := tyOk_mk Try.underlying3 (by kernel_rfl) rfl (rfl) (by kernel_rfl) (Or.inr ⟨by kernel_rfl, by kernel_rfl⟩)
theorem ty4 : TyOk Try.prog 4 ⟨.bool, 1, 1, [.bool false]⟩ := tyOk_mk Try.underlying4 (by kernel_rfl) rfl (rfl) (by kernel_rfl) (Or.inr ⟨by kernel_rfl, by kernel_rfl⟩)
theorem ty5 : TyOk Try.prog 5 ⟨.int .u8, 1, 1, [.int .u8 0]⟩ := tyOk_mk Try.underlying5 (by kernel_rfl) rfl (rfl) (by kernel_rfl) (Or.inr ⟨by kernel_rfl, by kernel_rfl⟩)
theorem ty6 : TyOk Try.prog 6 ⟨.int .u8, 1, 1, [.int .u8 0]⟩ := tyOk_mk Try.underlying6 (by kernel_rfl) rfl (rfl) (by kernel_rfl) (Or.inr ⟨by kernel_rfl, by kernel_rfl⟩)
theorem ty7 : TyOk Try.prog 7 ⟨.struct [(0, 2), (1, 3), (2, 4), (3, 6)], 4, 24, [.int .i64 0, .int .i64 0, .bool false, .int .u8 0]⟩ := tyOk_mk Try.underlying7 (by kernel_rfl) rfl (⟨_, rfl, rfl, by kernel_rfl⟩) (by kernel_rfl) (Or.inr ⟨by kernel_rfl, by kernel_rfl⟩)
theorem ty8 : TyOk Try.prog 8 ⟨.struct [(0, 2), (1, 3), (2, 4), (3, 6)], 4, 24, [.int .i64 0, .int .i64 0, .bool false, .int .u8 0]⟩ := tyOk_mk Try.underlying8 (by kernel_rfl) rfl (⟨_, rfl, rfl, by kernel_rfl⟩) (by kernel_rfl) (Or.inr ⟨by kernel_rfl, by kernel_rfl⟩)
theorem ty9 : TyOk Try.prog 9 ⟨.str, 1, 16, [.str []]⟩ := tyOk_mk Try.underlying9 (by kernel_rfl) rfl (rfl) (by kernel_rfl) (Or.inr ⟨by kernel_rfl, by kernel_rfl⟩)
theorem ty10 : TyOk Try.prog 10 ⟨.str, 1, 16, [.str []]⟩ := tyOk_mk Try.underlying10 (by kernel_rfl) rfl (rfl) (by kernel_rfl) (Or.inr ⟨by kernel_rfl, by kernel_rfl⟩)
theorem ty11 : TyOk Try.prog 11 ⟨.str, 1, 16, [.str []]⟩ := tyOk_mk Try.underlying11 (by kernel_rfl) rfl (rfl) (by kernel_rfl) (Or.inr ⟨by kernel_rfl, by kernel_rfl⟩)
theorem ty12 : TyOk Try.prog 12 ⟨.int .u64, 1, 8, [.int .u64 0]⟩ := tyOk_mk Try.underlying12 (by kernel_rfl) rfl (rfl) (by kernel_rfl) (Or.inr ⟨by kernel_rfl, by kernel_rfl⟩)
theorem ty15 : TyOk Try.prog 15 ⟨.ptr 199, 1, 8, [.nilp]⟩ := tyOk_mk Try.underlying15 (by kernel_rfl) rfl (rfl) (by kernel_rfl) (Or.inr ⟨by kernel_rfl, by kernel_rfl⟩)
theorem ty16 : TyOk Try.prog 16 ⟨.ptr 202, 1, 8, [.nilp]⟩ := tyOk_mk Try.underlying16 (by kernel_rfl) rfl (rfl) (by kernel_rfl) (Or.inr ⟨by kernel_rfl, by kernel_rfl⟩)
theorem ty17 : TyOk Try.prog 17 ⟨.ptr 210, 1, 8, [.nilp]⟩ := tyOk_mk Try.underlying17 (by kernel_rfl) rfl (rfl) (by kernel_rfl) (Or.inr ⟨by kernel_rfl, by kernel_rfl⟩)
theorem ty20 : TyOk Try.prog 20 ⟨.other, 1, 16, []⟩ := tyOk_mk Try.underlying20 (by kernel_rfl) rfl (rfl) (by kernel_rfl) (Or.inl rfl)
theorem ty21 : TyOk Try.prog 21 ⟨.int .i32, 1, 4, [.int .i32 0]⟩ := tyOk_mk Try.underlying21 (by kernel_rfl) rfl (rfl) (by kernel_rfl) (Or.inr ⟨by kernel_rfl, by kernel_rfl⟩)
theorem ty22 : TyOk Try.prog 22 ⟨.int .u64, 1, 8, [.int .u64 0]⟩ := tyOk_mk Try.underlying22 (by kernel_rfl) rfl (rfl) (by kernel_rfl) (Or.inr ⟨by kernel_rfl, by kernel_rfl⟩)
theorem ty23 : TyOk Try.prog 23 ⟨.arr 4 22, 4, 32, [.int .u64 0, .int .u64 0, .int .u64 0, .int .u64 0]⟩ := tyOk_mk Try.underlying23 (by kernel_rfl) rfl (rfl) (by kernel_rfl) (Or.inr ⟨by kernel_rfl, by kernel_rfl⟩)
theorem ty24 : TyOk Try.prog 24 ⟨.arr 4 22, 4, 32, [.int .u64 0, .int .u64 0, .int .u64 0, .int .u64 0]⟩ := tyOk_mk Try.underlying24 (by kernel_rfl) rfl (rfl) (by kernel_rfl) (Or.inr ⟨by kernel_rfl, by kernel_rfl⟩)
theorem ty25 : TyOk Try.prog 25 ⟨.struct [(0, 3), (1, 3), (2, 3), (3, 3), (4, 24), (8, 9)], 9, 80, [.int .i64 0, .int .i64 0, .int .i64 0, .int .i64 0, .int .u64 0, .int .u64 0, .int .u64 0, .int .u64 0, .str []]⟩ := tyOk_mk Try.underlying25 (by kernel_rfl) rfl (⟨_, rfl, rfl, by kernel_rfl⟩) (by kernel_rfl) (Or.inr ⟨by kernel_rfl, by kernel_rfl⟩)
theorem ty26 : TyOk Try.prog 26 ⟨.struct [(0, 3), (1, 3), (2, 3), (3, 3), (4, 24), (8, 9)], 9, 80, [.int .i64 0, .int .i64 0, .int .i64 0, .int .i64 0, .int .u64 0, .int .u64 0, .int .u64 0, .int .u64 0, .str []]⟩ := tyOk_mk Try.underlying26 (by kernel_rfl) rfl (⟨_, rfl, rfl, by kernel_rfl⟩) (by kernel_rfl) (Or.inr ⟨by kernel_rfl, by kernel_rfl⟩)
theorem ty27 : TyOk Try.prog 27 ⟨.struct [(0, 3), (1, 26), (10, 24), (14, 3), (15, 9)], 16, 144, [.int .i64 0, .int .i64 0, .int .i64 0, .int .i64 0, .int .i64 0, .int .u64 0, .int .u64 0, .int .u64 0, .int .u64 0, .str [], .int .u64 0, .int .u64 0, .int .u64 0, .int .u64 0, .int .i64 0, .str []]⟩ := tyOk_mk Try.underlying27 (by kernel_rfl) rfl (⟨_, rfl, rfl, by kernel_rfl⟩) (by kernel_rfl) (Or.inr ⟨by kernel_rfl, by kernel_rfl⟩)
theorem ty28 : TyOk Try.prog 28 ⟨.struct [(0, 3), (1, 26), (10, 24), (14, 3), (15, 9)], 16, 144, [.int .i64 0, .int .i64 0, .int .i64 0, .int .i64 0, .int .i64 0, .int .u64 0, .int .u64 0, .int .u64 0, .int .u64 0, .str [], .int .u64 0, .int .u64 0, .int .u64 0, .int .u64 0, .int .i64 0, .str []]⟩ := tyOk_mk Try.underlying28 (by kernel_rfl) rfl (⟨_, rfl, rfl, by kernel_rfl⟩) (by kernel_rfl) (Or.inr ⟨by kernel_rfl, by kernel_rfl⟩)
theorem ty29 : TyOk Try.prog 29 ⟨.struct [(0, 3), (1, 9), (2, 3), (3, 3), (4, 3), (5, 3), (6, 9)], 7, 72, [.int .i64 0, .str [], .int .i64 0, .int .i64 0, .int .i64 0, .int .i64 0, .str []]⟩ := tyOk_mk Try.underlying29 (by kernel_rfl) rfl (⟨_, rfl, rfl, by kernel_rfl⟩) (by kernel_rfl) (Or.inr ⟨by kernel_rfl, by kernel_rfl⟩)
theorem ty30 : TyOk Try.prog 30 ⟨.struct [(0, 3), (1, 9), (2, 3), (3, 3), (4, 3), (5, 3), (6, 9)], 7, 72, [.int .i64 0, .str [], .int .i64 0, .int .i64 0, .int .i64 0, .int .i64 0, .str []]⟩ := tyOk_mk Try.underlying30 (by kernel_rfl) rfl (⟨_, rfl, rfl, by kernel_rfl⟩) (by kernel_rfl) (Or.inr ⟨by kernel_rfl, by kernel_rfl⟩)
theorem ty31 : TyOk Try.prog 31 ⟨.struct [(0, 24), (4, 3)], 5, 40, [.int .u64 0, .int .u64 0, .int .u64 0, .int .u64 0, .int .i64 0]⟩ := tyOk_mk Try.underlying31 (by kernel_rfl) rfl (⟨_, rfl, rfl, by kernel_rfl⟩) (by kernel_rfl) (Or.inr ⟨by kernel_rfl, by kernel_rfl⟩)
theorem ty32 : TyOk Try.prog 32 ⟨.struct [(0, 24), (4, 3)], 5, 40, [.int .u64 0, .int .u64 0, .int .u64 0, .int .u64 0, .int .i64 0]⟩ := tyOk_mk Try.underlying32 (by kernel_rfl) rfl (⟨_, rfl, rfl, by kernel_rfl⟩) (by kernel_rfl) (Or.inr ⟨by kernel_rfl, by kernel_rfl⟩)
theorem ty33 : TyOk Try.prog 33 ⟨.struct [(0, 3), (1, 26), (10, 28), (26, 30), (33, 32), (38, 24), (42, 9)], 43, 392, [.int .i64 0, .int .i64 0, .int .i64 0, .int .i64 0, .int .i64 0, .int .u64 0, .int .u64 0, .int .u64 0, .int .u64 0, .str [], .int .i64 0, .int .i64 0, .int .i64 0, .int .i64 0, .int .i64 0, .int .u64 0, .int .u64 0, .int .u64 0, .int .u64 0, .str [], .int .u64 0, .int .u64 0, .int .u64 0, .int .u64 0, .int .i64 0, .str [], .int .i64 0, .str [], .int .i64 0, .int .i64 0, .int .i64 0, .int .i64 0, .str [], .int .u64 0, .int .u64 0, .int .u64 0, .int .u64 0, .int .i64 0, .int .u64 0, .int .u64 0, .int .u64 0, .int .u64 0, .str []]⟩ := tyOk_mk Try.underlying33 (by kernel_rfl) rfl (⟨_, rfl, rfl, by kernel_rfl⟩) (by kernel_rfl) (Or.inr ⟨by kernel_rfl, by kernel_rfl⟩)
theorem ty34 : TyOk Try.prog 34 ⟨.struct [(0, 3), (1, 26), (10, 28), (26, 30), (33, 32), (38, 24), (42, 9)], 43, 392, [.int .i64 0, .int .i64 0, .int .i64 0, .int .i64 0, .int .i64 0, .int .u64 0, .int .u64 0, .int .u64 0, .int .u64 0, .str [], .int .i64 0, .int .i64 0, .int .i64 0, .int .i64 0, .int .i64 0, .int .u64 0, .int .u64 0, .int .u64 0, .int .u64 0, .str [], .int .u64 0, .int .u64 0, .int .u64 0, .int .u64 0, .int .i64 0, .str [], .int .i64 0, .str [], .int .i64 0, .int .i64 0, .int .i64 0, .int .i64 0, .str [], .int .u64 0, .int .u64 0, .int .u64 0, .int .u64 0, .int .i64 0, .int .u64 0, .int .u64 0, .int .u64 0, .int .u64 0, .str []]⟩ := tyOk_mk Try.underlying34 (by kernel_rfl) rfl (⟨_, rfl, rfl, by kernel_rfl⟩) (by kernel_rfl) (Or.inr ⟨by kernel_rfl, by kernel_rfl⟩)
theorem ty35 : TyOk Try.prog 35 ⟨.slice 5, 1, 24, [.nil]⟩ := tyOk_mk Try.underlying35 (by kernel_rfl) rfl (rfl) (by kernel_rfl) (Or.inr ⟨by kernel_rfl, by kernel_rfl⟩)
theorem ty36 : TyOk Try.prog 36 ⟨.other, 1, 8, []⟩ := tyOk_mk Try.underlying36 (by kernel_rfl) rfl (rfl) (by kernel_rfl) (Or.inl rfl)
theorem ty37 : TyOk Try.prog 37 ⟨.int .i64, 1, 8, [.int .i64 0]⟩ := tyOk_mk Try.underlying37 (by kernel_rfl) rfl (rfl) (by kernel_rfl) (Or.inr ⟨by kernel_rfl, by kernel_rfl⟩)
theorem ty39 : TyOk Try.prog 39 ⟨.other, 1, 8, []⟩ := tyOk_mk Try.underlying39 (by kernel_rfl) rfl (rfl) (by kernel_rfl) (Or.inl rfl)
theorem ty41 : TyOk Try.prog 41 ⟨.other, 1, 8, []⟩ := tyOk_mk Try.underlying41 (by kernel_rfl) rfl (rfl) (by kernel_rfl) (Or.inl rfl)
theorem ty42 : TyOk Try.prog 42 ⟨.other, 1, 8, []⟩ := tyOk_mk Try.underlying42 (by kernel_rfl) rfl (rfl) (by kernel_rfl) (Or.inl rfl)
theorem ty43 : TyOk Try.prog 43 ⟨.other, 1, 8, []⟩ := tyOk_mk Try.underlying43 (by kernel_rfl) rfl (rfl) (by kernel_rfl) (Or.inl rfl)
theorem ty44 : TyOk Try.prog 44 ⟨.other, 1, 8, []⟩ := tyOk_mk Try.underlying44 (by kernel_rfl) rfl (rfl) (by kernel_rfl) (Or.inl rfl)
theorem ty45 : TyOk Try.prog 45 ⟨.other, 1, 8, []⟩ := tyOk_mk Try.underlying45 (by kernel_rfl) rfl (rfl) (by kernel_rfl) (Or.inl rfl)
theorem ty46 : TyOk Try.prog 46 ⟨.other, 1, 8, []⟩ := tyOk_mk Try.underlying46 (by kernel_rfl) rfl (rfl) (by kernel_rfl) (Or.inl rfl)
theorem ty47 : TyOk Try.prog 47 ⟨.other, 1, 8, []⟩ := tyOk_mk Try.underlying47 (by kernel_rfl) rfl (rfl) (by kernel_rfl) (Or.inl rfl)
theorem ty48 : TyOk Try.prog 48 ⟨.other, 1, 8, []⟩ := tyOk_mk Try.underlying48 (by kernel_rfl) rfl (rfl) (by kernel_rfl) (Or.inl rfl)
theorem ty49 : TyOk Try.prog 49 ⟨.other, 1, 8, []⟩ := tyOk_mk Try.underlying49 (by kernel_rfl) rfl (rfl) (by kernel_rfl) (Or.inl rfl)
theorem ty50 : TyOk Try.prog 50 ⟨.other, 1, 8, []⟩ := tyOk_mk Try.underlying50 (by kernel_rfl) rfl (rfl) (by kernel_rfl) (Or.inl rfl)
theorem ty51 : TyOk Try.prog 51 ⟨.other, 1, 8, []⟩ := tyOk_mk Try.underlying51 (by kernel_rfl) rfl (rfl) (by kernel_rfl) (Or.inl rfl)
theorem ty53 : TyOk Try.prog 53 ⟨.other, 1, 8, []⟩ := tyOk_mk Try.underlying53 (by kernel_rfl) rfl (rfl) (by kernel_rfl) (Or.inl rfl)
theorem ty54 : TyOk Try.prog 54 ⟨.other, 1, 8, []⟩ := tyOk_mk Try.underlying54 (by kernel_rfl) rfl (rfl) (by kernel_rfl) (Or.inl rfl)
theorem ty55 : TyOk Try.prog 55 ⟨.other, 1, 8, []⟩ := tyOk_mk Try.underlying55 (by kernel_rfl) rfl (rfl) (by kernel_rfl) (Or.inl rfl)
theorem ty56 : TyOk Try.prog 56 ⟨.struct [(0, 9), (1, 3)], 2, 24, [.str [], .int .i64 0]⟩ := tyOk_mk Try.underlying56 (by kernel_rfl) rfl (⟨_, rfl, rfl, by kernel_rfl⟩) (by kernel_rfl) (Or.inr ⟨by kernel_rfl, by kernel_rfl⟩)
theorem ty57 : TyOk Try.prog 57 ⟨.struct [(0, 9), (1, 3)], 2, 24, [.str [], .int .i64 0]⟩ := tyOk_mk Try.underlying57 (by kernel_rfl) rfl (⟨_, rfl, rfl, by kernel_rfl⟩) (by kernel_rfl) (Or.inr ⟨by kernel_rfl, by kernel_rfl⟩)
theorem ty59 : TyOk Try.prog 59 ⟨.other, 1, 8, []⟩ := tyOk_mk Try.underlying59 (by kernel_rfl) rfl (rfl) (by kernel_rfl) (Or.inl rfl)
theorem ty61 : TyOk Try.prog 61 ⟨.other, 1, 8, []⟩ := tyOk_mk Try.underlying61 (by kernel_rfl) rfl (rfl) (by kernel_rfl) (Or.inl rfl)
theorem ty62 : TyOk Try.prog 62 ⟨.other, 1, 8, []⟩ := tyOk_mk Try.underlying62 (by kernel_rfl) rfl (rfl) (by kernel_rfl) (Or.inl rfl)
theorem ty63 : TyOk Try.prog 63 ⟨.other, 1, 8, []⟩ := tyOk_mk Try.underlying63 (by kernel_rfl) rfl (rfl) (by kernel_rfl) (Or.inl rfl)
theorem ty65 : TyOk Try.prog 65 ⟨.other, 1, 8, []⟩ := tyOk_mk Try.underlying65 (by kernel_rfl) rfl (rfl) (by kernel_rfl) (Or.inl rfl)
theorem ty66 : TyOk Try.prog 66 ⟨.other, 1, 8, []⟩ := tyOk_mk Try.underlying66 (by kernel_rfl) rfl (rfl) (by kernel_rfl) (Or.inl rfl)
theorem ty67 : TyOk Try.prog 67 ⟨.other, 1, 8, []⟩ := tyOk_mk Try.underlying67 (by kernel_rfl) rfl (rfl) (by kernel_rfl) (Or.inl rfl)
theorem ty68 : TyOk Try.prog 68 ⟨.ptr 72, 1, 8, [.nilp]⟩ := tyOk_mk Try.underlying68 (by kernel_rfl) rfl (rfl) (by kernel_rfl) (Or.inr ⟨by kernel_rfl, by kernel_rfl⟩)
theorem ty69 : TyOk Try.prog 69 ⟨.slice 9, 1, 24, [.nil]⟩ := tyOk_mk Try.underlying69 (by kernel_rfl) rfl (rfl) (by kernel_rfl) (Or.inr ⟨by kernel_rfl, by kernel_rfl⟩)
theorem ty70 : TyOk Try.prog 70 ⟨.slice 130, 1, 24, [.nil]⟩ := tyOk_mk Try.underlying70 (by kernel_rfl) rfl (rfl) (by kernel_rfl) (Or.inr ⟨by kernel_rfl, by kernel_rfl⟩)
theorem ty71 : TyOk Try.prog 71 ⟨.struct [(0, 69), (1, 70), (2, 4)], 3, 56, [.nil, .nil, .bool false]⟩ := tyOk_mk Try.underlying71 (by kernel_rfl) rfl (⟨_, rfl, rfl, by kernel_rfl⟩) (by kernel_rfl) (Or.inr ⟨by kernel_rfl, by kernel_rfl⟩)
theorem ty72 : TyOk Try.prog 72 ⟨.struct [(0, 69), (1, 70), (2, 4)], 3, 56, [.nil, .nil, .bool false]⟩ := tyOk_mk Try.underlying72 (by kernel_rfl) rfl (⟨_, rfl, rfl, by kernel_rfl⟩) (by kernel_rfl) (Or.inr ⟨by kernel_rfl, by kernel_rfl⟩)
theorem ty73 : TyOk Try.prog 73 ⟨.slice 68, 1, 24, [.nil]⟩ := tyOk_mk Try.underlying73 (by kernel_rfl) rfl (rfl) (by kernel_rfl) (Or.inr ⟨by kernel_rfl, by kernel_rfl⟩)
theorem ty75 : TyOk Try.prog 75 ⟨.other, 1, 8, []⟩ := tyOk_mk Try.underlying75 (by kernel_rfl) rfl (rfl) (by kernel_rfl) (Or.inl rfl)
theorem ty76 : TyOk Try.prog 76 ⟨.other, 1, 8, []⟩ := tyOk_mk Try.underlying76 (by kernel_rfl) rfl (rfl) (by kernel_rfl) (Or.inl rfl)
theorem ty77 : TyOk Try.prog 77 ⟨.slice 26, 1, 24, [.nil]⟩ := tyOk_mk Try.underlying77 (by kernel_rfl) rfl (rfl) (by kernel_rfl) (Or.inr ⟨by kernel_rfl, by kernel_rfl⟩)
theorem ty78 : TyOk Try.prog 78 ⟨.other, 1, 8, []⟩ := tyOk_mk Try.underlying78 (by kernel_rfl) rfl (rfl) (by kernel_rfl) (Or.inl rfl)
theorem ty79 : TyOk Try.prog 79 ⟨.slice 28, 1, 24, [.nil]⟩ := tyOk_mk Try.underlying79 (by kernel_rfl) rfl (rfl) (by kernel_rfl) (Or.inr ⟨by kernel_rfl, by kernel_rfl⟩)
theorem ty80 : TyOk Try.prog 80 ⟨.other, 1, 8, []⟩ := tyOk_mk Try.underlying80 (by kernel_rfl) rfl (rfl) (by kernel_rfl) (Or.inl rfl)
theorem ty81 : TyOk Try.prog 81 ⟨.other, 1, 8, []⟩ := tyOk_mk Try.underlying81 (by kernel_rfl) rfl (rfl) (by kernel_rfl) (Or.inl rfl)
theorem ty82 : TyOk Try.prog 82 ⟨.other, 1, 8, []⟩ := tyOk_mk Try.underlying82 (by kernel_rfl) rfl (rfl) (by kernel_rfl) (Or.inl rfl)
theorem ty83 : TyOk Try.prog 83 ⟨.other, 1, 8, []⟩ := tyOk_mk Try.underlying83 (by kernel_rfl) rfl (rfl) (by kernel_rfl) (Or.inl rfl)
theorem ty84 : TyOk Try.prog 84 ⟨.ptr 139, 1, 8, [.nilp]⟩ := tyOk_mk Try.underlying84 (by kernel_rfl) rfl (rfl) (by kernel_rfl) (Or.inr ⟨by kernel_rfl, by kernel_rfl⟩)
theorem ty85 : TyOk Try.prog 85 ⟨.other, 1, 8, []⟩ := tyOk_mk Try.underlying85 (by kernel_rfl) rfl (rfl) (by kernel_rfl) (Or.inl rfl)
theorem ty86 : TyOk Try.prog 86 ⟨.other, 1, 8, []⟩ := tyOk_mk Try.underlying86 (by kernel_rfl) rfl (rfl) (by kernel_rfl) (Or.inl rfl)
theorem ty87 : TyOk Try.prog 87 ⟨.other, 1, 8, []⟩ := tyOk_mk Try.underlying87 (by kernel_rfl) rfl (rfl) (by kernel_rfl) (Or.inl rfl)
theorem ty88 : TyOk Try.prog 88 ⟨.other, 1, 8, []⟩ := tyOk_mk Try.underlying88 (by kernel_rfl) rfl (rfl) (by kernel_rfl) (Or.inl rfl)
theorem ty89 : TyOk Try.prog 89 ⟨.other, 1, 8, []⟩ := tyOk_mk Try.underlying89 (by kernel_rfl) rfl (rfl) (by kernel_rfl) (Or.inl rfl)
theorem ty90 : TyOk Try.prog 90 ⟨.other, 1, 8, []⟩ := tyOk_mk Try.underlying90 (by kernel_rfl) rfl (rfl) (by kernel_rfl) (Or.inl rfl)
theorem ty91 : TyOk Try.prog 91 ⟨.other, 1, 8, []⟩ := tyOk_mk Try.underlying91 (by kernel_rfl) rfl (rfl) (by kernel_rfl) (Or.inl rfl)
theorem ty92 : TyOk Try.prog 92 ⟨.other, 1, 8, []⟩ := tyOk_mk Try.underlying92 (by kernel_rfl) rfl (rfl) (by kernel_rfl) (Or.inl rfl)
theorem ty93 : TyOk Try.prog 93 ⟨.ptr 145, 1, 8, [.nilp]⟩ := tyOk_mk Try.underlying93 (by kernel_rfl) rfl (rfl) (by kernel_rfl) (Or.inr ⟨by kernel_rfl, by kernel_rfl⟩)
theorem ty94 : TyOk Try.prog 94 ⟨.other, 1, 8, []⟩ := tyOk_mk Try.underlying94 (by kernel_rfl) rfl (rfl) (by kernel_rfl) (Or.inl rfl)
theorem ty95 : TyOk Try.prog 95 ⟨.other, 1, 8, []⟩ := tyOk_mk Try.underlying95 (by kernel_rfl) rfl (rfl) (by kernel_rfl) (Or.inl rfl)
theorem ty96 : TyOk Try.prog 96 ⟨.other, 1, 8, []⟩ := tyOk_mk Try.underlying96 (by kernel_rfl) rfl (rfl) (by kernel_rfl) (Or.inl rfl)
theorem ty97 : TyOk Try.prog 97 ⟨.other, 1, 8, []⟩ := tyOk_mk Try.underlying97 (by kernel_rfl) rfl (rfl) (by kernel_rfl) (Or.inl rfl)
theorem ty98 : TyOk Try.prog 98 ⟨.other, 1, 8, []⟩ := tyOk_mk Try.underlying98 (by kernel_rfl) rfl (rfl) (by kernel_rfl) (Or.inl rfl)
theorem ty99 : TyOk Try.prog 99 ⟨.other, 1, 8, []⟩ := tyOk_mk Try.underlying99 (by kernel_rfl) rfl (rfl) (by kernel_rfl) (Or.inl rfl)
theorem ty100 : TyOk Try.prog 100 ⟨.other, 1, 8, []⟩ := tyOk_mk Try.underlying100 (by kernel_rfl) rfl (rfl) (by kernel_rfl) (Or.inl rfl)
theorem ty101 : TyOk Try.prog 101 ⟨.other, 1, 8, []⟩ := tyOk_mk Try.underlying101 (by kernel_rfl) rfl (rfl) (by kernel_rfl) (Or.inl rfl)
theorem ty102 : TyOk Try.prog 102 ⟨.other, 1, 8, []⟩ := tyOk_mk Try.underlying102 (by kernel_rfl) rfl (rfl) (by kernel_rfl) (Or.inl rfl)
theorem ty103 : TyOk Try.prog 103 ⟨.other, 1, 8, []⟩ := tyOk_mk Try.underlying103 (by kernel_rfl) rfl (rfl) (by kernel_rfl) (Or.inl rfl)
theorem ty104 : TyOk Try.prog 104 ⟨.other, 1, 8, []⟩ := tyOk_mk Try.underlying104 (by kernel_rfl) rfl (rfl) (by kernel_rfl) (Or.inl rfl)
theorem ty105 : TyOk Try.prog 105 ⟨.other, 1, 8, []⟩ := tyOk_mk Try.underlying105 (by kernel_rfl) rfl (rfl) (by kernel_rfl) (Or.inl rfl)
theorem ty106 : TyOk Try.prog 106 ⟨.struct [(0, 35), (1, 3)], 2, 32, [.nil, .int .i64 0]⟩ := tyOk_mk Try.underlying106 (by kernel_rfl) rfl (⟨_, rfl, rfl, by kernel_rfl⟩) (by kernel_rfl) (Or.inr ⟨by kernel_rfl, by kernel_rfl⟩)
theorem ty107 : TyOk Try.prog 107 ⟨.struct [(0, 35), (1, 3)], 2, 32, [.nil, .int .i64 0]⟩ := tyOk_mk Try.underlying107 (by kernel_rfl) rfl (⟨_, rfl, rfl, by kernel_rfl⟩) (by kernel_rfl) (Or.inr ⟨by kernel_rfl, by kernel_rfl⟩)
theorem ty108 : TyOk Try.prog 108 ⟨.other, 1, 8, []⟩ := tyOk_mk Try.underlying108 (by kernel_rfl) rfl (rfl) (by kernel_rfl) (Or.inl rfl)
theorem ty109 : TyOk Try.prog 109 ⟨.other, 1, 8, []⟩ := tyOk_mk Try.underlying109 (by kernel_rfl) rfl (rfl) (by kernel_rfl) (Or.inl rfl)
theorem ty110 : TyOk Try.prog 110 ⟨.other, 1, 8, []⟩ := tyOk_mk Try.underlying110 (by kernel_rfl) rfl (rfl) (by kernel_rfl) (Or.inl rfl)
theorem ty111 : TyOk Try.prog 111 ⟨.other, 1, 8, []⟩ := tyOk_mk Try.underlying111 (by kernel_rfl) rfl (rfl) (by kernel_rfl) (Or.inl rfl)
theorem ty113 : TyOk Try.prog 113 ⟨.other, 1, 8, []⟩ := tyOk_mk Try.underlying113 (by kernel_rfl) rfl (rfl) (by kernel_rfl) (Or.inl rfl)
theorem ty114 : TyOk Try.prog 114 ⟨.other, 1, 8, []⟩ := tyOk_mk Try.underlying114 (by kernel_rfl) rfl (rfl) (by kernel_rfl) (Or.inl rfl)
theorem ty115 : TyOk Try.prog 115 ⟨.other, 1, 8, []⟩ := tyOk_mk Try.underlying115 (by kernel_rfl) rfl (rfl) (by kernel_rfl) (Or.inl rfl)
theorem ty116 : TyOk Try.prog 116 ⟨.other, 1, 8, []⟩ := tyOk_mk Try.underlying116 (by kernel_rfl) rfl (rfl) (by kernel_rfl) (Or.inl rfl)
theorem ty117 : TyOk Try.prog 117 ⟨.other, 1, 8, []⟩ := tyOk_mk Try.underlying117 (by kernel_rfl) rfl (rfl) (by kernel_rfl) (Or.inl rfl)
theorem ty118 : TyOk Try.prog 118 ⟨.other, 1, 8, []⟩ := tyOk_mk Try.underlying118 (by kernel_rfl) rfl (rfl) (by kernel_rfl) (Or.inl rfl)
theorem ty119 : TyOk Try.prog 119 ⟨.slice 35, 1, 24, [.nil]⟩ := tyOk_mk Try.underlying119 (by kernel_rfl) rfl (rfl) (by kernel_rfl) (Or.inr ⟨by kernel_rfl, by kernel_rfl⟩)
theorem ty120 : TyOk Try.prog 120 ⟨.other, 1, 8, []⟩ := tyOk_mk Try.underlying120 (by kernel_rfl) rfl (rfl) (by kernel_rfl) (Or.inl rfl)
theorem ty121 : TyOk Try.prog 121 ⟨.slice 3, 1, 24, [.nil]⟩ := tyOk_mk Try.underlying121 (by kernel_rfl) rfl (rfl) (by kernel_rfl) (Or.inr ⟨by kernel_rfl, by kernel_rfl⟩)
theorem ty122 : TyOk Try.prog 122 ⟨.other, 1, 8, []⟩ := tyOk_mk Try.underlying122 (by kernel_rfl) rfl (rfl) (by kernel_rfl) (Or.inl rfl)
theorem ty123 : TyOk Try.prog 123 ⟨.other, 1, 8, []⟩ := tyOk_mk Try.underlying123 (by kernel_rfl) rfl (rfl) (by kernel_rfl) (Or.inl rfl)
theorem ty124 : TyOk Try.prog 124 ⟨.other, 1, 8, []⟩ := tyOk_mk Try.underlying124 (by kernel_rfl) rfl (rfl) (by kernel_rfl) (Or.inl rfl)
theorem ty125 : TyOk Try.prog 125 ⟨.other, 1, 8, []⟩ := tyOk_mk Try.underlying125 (by kernel_rfl) rfl (rfl) (by kernel_rfl) (Or.inl rfl)
theorem ty126 : TyOk Try.prog 126 ⟨.other, 1, 8, []⟩ := tyOk_mk Try.underlying126 (by kernel_rfl) rfl (rfl) (by kernel_rfl) (Or.inl rfl)
theorem ty127 : TyOk Try.prog 127 ⟨.other, 1, 8, []⟩ := tyOk_mk Try.underlying127 (by kernel_rfl) rfl (rfl) (by kernel_rfl) (Or.inl rfl)
theorem ty128 : TyOk Try.prog 128 ⟨.other, 1, 8, []⟩ := tyOk_mk Try.underlying128 (by kernel_rfl) rfl (rfl) (by kernel_rfl) (Or.inl rfl)
theorem ty129 : TyOk Try.prog 129 ⟨.other, 1, 8, []⟩ := tyOk_mk Try.underlying129 (by kernel_rfl) rfl (rfl) (by kernel_rfl) (Or.inl rfl)
theorem ty130 : TyOk Try.prog 130 ⟨.ptr 133, 1, 8, [.nilp]⟩ := tyOk_mk Try.underlying130 (by kernel_rfl) rfl (rfl) (by kernel_rfl) (Or.inr ⟨by kernel_rfl, by kernel_rfl⟩)
theorem ty131 : TyOk Try.prog 131 ⟨.other, 1, 8, []⟩ := tyOk_mk Try.underlying131 (by kernel_rfl) rfl (rfl) (by kernel_rfl) (Or.inl rfl)
theorem ty132 : TyOk Try.prog 132 ⟨.struct [(0, 26), (9, 3), (10, 79)], 11, 112, [.int .i64 0, .int .i64 0, .int .i64 0, .int .i64 0, .int .u64 0, .int .u64 0, .int .u64 0, .int .u64 0, .str [], .int .i64 0, .nil]⟩ := tyOk_mk Try.underlying132 (by kernel_rfl) rfl (⟨_, rfl, rfl, by kernel_rfl⟩) (by kernel_rfl) (Or.inr ⟨by kernel_rfl, by kernel_rfl⟩)
theorem ty133 : TyOk Try.prog 133 ⟨.struct [(0, 26), (9, 3), (10, 79)], 11, 112, [.int .i64 0, .int .i64 0, .int .i64 0, .int .i64 0, .int .u64 0, .int .u64 0, .int .u64 0, .int .u64 0, .str [], .int .i64 0, .nil]⟩ := tyOk_mk Try.underlying133 (by kernel_rfl) rfl (⟨_, rfl, rfl, by kernel_rfl⟩) (by kernel_rfl) (Or.inr ⟨by kernel_rfl, by kernel_rfl⟩)
theorem ty134 : TyOk Try.prog 134 ⟨.other, 1, 8, []⟩ := tyOk_mk Try.underlying134 (by kernel_rfl) rfl (rfl) (by kernel_rfl) (Or.inl rfl)
theorem ty135 : TyOk Try.prog 135 ⟨.other, 1, 8, []⟩ := tyOk_mk Try.underlying135 (by kernel_rfl) rfl (rfl) (by kernel_rfl) (Or.inl rfl)
theorem ty136 : TyOk Try.prog 136 ⟨.other, 1, 8, []⟩ := tyOk_mk Try.underlying136 (by kernel_rfl) rfl (rfl) (by kernel_rfl) (Or.inl rfl)
theorem ty137 : TyOk Try.prog 137 ⟨.other, 1, 8, []⟩ := tyOk_mk Try.underlying137 (by kernel_rfl) rfl (rfl) (by kernel_rfl) (Or.inl rfl)
theorem ty138 : TyOk Try.prog 138 ⟨.struct [(0, 35), (1, 37), (2, 4)], 3, 40, [.nil, .int .i64 0, .bool false]⟩ := tyOk_mk Try.underlying138 (by kernel_rfl) rfl (⟨_, rfl, rfl, by kernel_rfl⟩) (by kernel_rfl) (Or.inr ⟨by kernel_rfl, by kernel_rfl⟩)
theorem ty139 : TyOk Try.prog 139 ⟨.struct [(0, 35), (1, 37), (2, 4)], 3, 40, [.nil, .int .i64 0, .bool false]⟩ := tyOk_mk Try.underlying139 (by kernel_rfl) rfl (⟨_, rfl, rfl, by kernel_rfl⟩) (by kernel_rfl) (Or.inr ⟨by kernel_rfl, by kernel_rfl⟩)
theorem ty140 : TyOk Try.prog 140 ⟨.other, 1, 8, []⟩ := tyOk_mk Try.underlying140 (by kernel_rfl) rfl (rfl) (by kernel_rfl) (Or.inl rfl)
theorem ty141 : TyOk Try.prog 141 ⟨.other, 1, 8, []⟩ := tyOk_mk Try.underlying141 (by kernel_rfl) rfl (rfl) (by kernel_rfl) (Or.inl rfl)
theorem ty142 : TyOk Try.prog 142 ⟨.arr 4 3, 4, 32, [.int .i64 0, .int .i64 0, .int .i64 0, .int .i64 0]⟩ := tyOk_mk Try.underlying142 (by kernel_rfl) rfl (rfl) (by kernel_rfl) (Or.inr ⟨by kernel_rfl, by kernel_rfl⟩)
theorem ty143 : TyOk Try.prog 143 ⟨.other, 1, 8, []⟩ := tyOk_mk Try.underlying143 (by kernel_rfl) rfl (rfl) (by kernel_rfl) (Or.inl rfl)
theorem ty144 : TyOk Try.prog 144 ⟨.other, 1, 8, []⟩ := tyOk_mk Try.underlying144 (by kernel_rfl) rfl (rfl) (by kernel_rfl) (Or.inl rfl)
theorem ty145 : TyOk Try.prog 145 ⟨.struct [(0, 35), (1, 37), (2, 4)], 3, 40, [.nil, .int .i64 0, .bool false]⟩ := tyOk_mk Try.underlying145 (by kernel_rfl) rfl (⟨_, rfl, rfl, by kernel_rfl⟩) (by kernel_rfl) (Or.inr ⟨by kernel_rfl, by kernel_rfl⟩)
theorem ty146 : TyOk Try.prog 146 ⟨.other, 1, 8, []⟩ := tyOk_mk Try.underlying146 (by kernel_rfl) rfl (rfl) (by kernel_rfl) (Or.inl rfl)
theorem ty147 : TyOk Try.prog 147 ⟨.other, 1, 8, []⟩ := tyOk_mk Try.underlying147 (by kernel_rfl) rfl (rfl) (by kernel_rfl) (Or.inl rfl)
theorem ty148 : TyOk Try.prog 148 ⟨.other, 1, 8, []⟩ := tyOk_mk Try.underlying148 (by kernel_rfl) rfl (rfl) (by kernel_rfl) (Or.inl rfl)
theorem ty150 : TyOk Try.prog 150 ⟨.other, 1, 8, []⟩ := tyOk_mk Try.underlying150 (by kernel_rfl) rfl (rfl) (by kernel_rfl) (Or.inl rfl)
theorem ty151 : TyOk Try.prog 151 ⟨.other, 1, 8, []⟩ := tyOk_mk Try.underlying151 (by kernel_rfl) rfl (rfl) (by kernel_rfl) (Or.inl rfl)
theorem ty152 : TyOk Try.prog 152 ⟨.other, 1, 8, []⟩ := tyOk_mk Try.underlying152 (by kernel_rfl) rfl (rfl) (by kernel_rfl) (Or.inl rfl)
theorem ty153 : TyOk Try.prog 153 ⟨.other, 1, 8, []⟩ := tyOk_mk Try.underlying153 (by kernel_rfl) rfl (rfl) (by kernel_rfl) (Or.inl rfl)
theorem ty154 : TyOk Try.prog 154 ⟨.other, 1, 8, []⟩ := tyOk_mk Try.underlying154 (by kernel_rfl) rfl (rfl) (by kernel_rfl) (Or.inl rfl)
theorem ty155 : TyOk Try.prog 155 ⟨.slice 22, 1, 24, [.nil]⟩ := tyOk_mk Try.underlying155 (by kernel_rfl) rfl (rfl) (by kernel_rfl) (Or.inr ⟨by kernel_rfl, by kernel_rfl⟩)
theorem ty156 : TyOk Try.prog 156 ⟨.other, 1, 8, []⟩ := tyOk_mk Try.underlying156 (by kernel_rfl) rfl (rfl) (by kernel_rfl) (Or.inl rfl)
theorem ty157 : TyOk Try.prog 157 ⟨.other, 1, 8, []⟩ := tyOk_mk Try.underlying157 (by kernel_rfl) rfl (rfl) (by kernel_rfl) (Or.inl rfl)
theorem ty158 : TyOk Try.prog 158 ⟨.other, 1, 8, []⟩ := tyOk_mk Try.underlying158 (by kernel_rfl) rfl (rfl) (by kernel_rfl) (Or.inl rfl)
theorem ty159 : TyOk Try.prog 159 ⟨.other, 1, 8, []⟩ := tyOk_mk Try.underlying159 (by kernel_rfl) rfl (rfl) (by kernel_rfl) (Or.inl rfl)
theorem ty160 : TyOk Try.prog 160 ⟨.other, 1, 8, []⟩ := tyOk_mk Try.underlying160 (by kernel_rfl) rfl (rfl) (by kernel_rfl) (Or.inl rfl)
theorem ty161 : TyOk Try.prog 161 ⟨.other, 1, 8, []⟩ := tyOk_mk Try.underlying161 (by kernel_rfl) rfl (rfl) (by kernel_rfl) (Or.inl rfl)
theorem ty162 : TyOk Try.prog 162 ⟨.other, 1, 8, []⟩ := tyOk_mk Try.underlying162 (by kernel_rfl) rfl (rfl) (by kernel_rfl) (Or.inl rfl)
theorem ty163 : TyOk Try.prog 163 ⟨.int .u32, 1, 4, [.int .u32 0]⟩ := tyOk_mk Try.underlying163 (by kernel_rfl) rfl (rfl) (by kernel_rfl) (Or.inr ⟨by kernel_rfl, by kernel_rfl⟩)
theorem ty164 : TyOk Try.prog 164 ⟨.arr 8 163, 8, 32, [.int .u32 0, .int .u32 0, .int .u32 0, .int .u32 0, .int .u32 0, .int .u32 0, .int .u32 0, .int .u32 0]⟩ := tyOk_mk Try.underlying164 (by kernel_rfl) rfl (rfl) (by kernel_rfl) (Or.inr ⟨by kernel_rfl, by kernel_rfl⟩)
theorem ty165 : TyOk Try.prog 165 ⟨.arr 64 163, 64, 256, [.int .u32 0, .int .u32 0, .int .u32 0, .int .u32 0, .int .u32 0, .int .u32 0, .int .u32 0, .int .u32 0, .int .u32 0, .int .u32 0, .int .u32 0, .int .u32 0, .int .u32 0, .int .u32 0, .int .u32 0, .int .u32 0, .int .u32 0, .int .u32 0, .int .u32 0, .int .u32 0, .int .u32 0, .int .u32 0, .int .u32 0, .int .u32 0, .int .u32 0, .int .u32 0, .int .u32 0, .int .u32 0, .int .u32 0, .int .u32 0, .int .u32 0, .int .u32 0, .int .u32 0, .int .u32 0, .int .u32 0, .int .u32 0, .int .u32 0, .int .u32 0, .int .u32 0, .int .u32 0, .int .u32 0, .int .u32 0, .int .u32 0, .int .u32 0, .int .u32 0, .int .u32 0, .int .u32 0, .int .u32 0, .int .u32 0, .int .u32 0, .int .u32 0, .int .u32 0, .int .u32 0, .int .u32 0, .int .u32 0, .int .u32 0, .int .u32 0, .int .u32 0, .int .u32 0, .int .u32 0, .int .u32 0, .int .u32 0, .int .u32 0, .int .u32 0]⟩ := tyOk_mk Try.underlying165 (by kernel_rfl) rfl (rfl) (by kernel_rfl) (Or.inr ⟨by kernel_rfl, by kernel_rfl⟩)
theorem ty166 : TyOk Try.prog 166 ⟨.other, 1, 8, []⟩ := tyOk_mk Try.underlying166 (by kernel_rfl) rfl (rfl) (by kernel_rfl) (Or.inl rfl)
theorem ty167 : TyOk Try.prog 167 ⟨.int .u64, 1, 8, [.int .u64 0]⟩ := tyOk_mk Try.underlying167 (by kernel_rfl) rfl (rfl) (by kernel_rfl) (Or.inr ⟨by kernel_rfl, by kernel_rfl⟩)
theorem ty168 : TyOk Try.prog 168 ⟨.other, 1, 8, []⟩ := tyOk_mk Try.underlying168 (by kernel_rfl) rfl (rfl) (by kernel_rfl) (Or.inl rfl)
theorem ty169 : TyOk Try.prog 169 ⟨.other, 1, 8, []⟩ := tyOk_mk Try.underlying169 (by kernel_rfl) rfl (rfl) (by kernel_rfl) (Or.inl rfl)
theorem ty170 : TyOk Try.prog 170 ⟨.other, 1, 8, []⟩ := tyOk_mk Try.underlying170 (by kernel_rfl) rfl (rfl) (by kernel_rfl) (Or.inl rfl)
theorem ty171 : TyOk Try.prog 171 ⟨.other, 1, 8, []⟩ := tyOk_mk Try.underlying171 (by kernel_rfl) rfl (rfl) (by kernel_rfl) (Or.inl rfl)
theorem ty172 : TyOk Try.prog 172 ⟨.other, 1, 8, []⟩ := tyOk_mk Try.underlying172 (by kernel_rfl) rfl (rfl) (by kernel_rfl) (Or.inl rfl)
theorem ty173 : TyOk Try.prog 173 ⟨.other, 1, 8, []⟩ := tyOk_mk Try.underlying173 (by kernel_rfl) rfl (rfl) (by kernel_rfl) (Or.inl rfl)
theorem ty174 : TyOk Try.prog 174 ⟨.other, 1, 8, []⟩ := tyOk_mk Try.underlying174 (by kernel_rfl) rfl (rfl) (by kernel_rfl) (Or.inl rfl)
theorem ty175 : TyOk Try.prog 175 ⟨.other, 1, 8, []⟩ := tyOk_mk Try.underlying175 (by kernel_rfl) rfl (rfl) (by kernel_rfl) (Or.inl rfl)
theorem ty176 : TyOk Try.prog 176 ⟨.other, 1, 8, []⟩ := tyOk_mk Try.underlying176 (by kernel_rfl) rfl (rfl) (by kernel_rfl) (Or.inl rfl)
theorem ty177 : TyOk Try.prog 177 ⟨.other, 1, 8, []⟩ := tyOk_mk Try.underlying177 (by kernel_rfl) rfl (rfl) (by kernel_rfl) (Or.inl rfl)
theorem ty178 : TyOk Try.prog 178 ⟨.other, 1, 8, []⟩ := tyOk_mk Try.underlying178 (by kernel_rfl) rfl (rfl) (by kernel_rfl) (Or.inl rfl)
theorem ty179 : TyOk Try.prog 179 ⟨.other, 1, 8, []⟩ := tyOk_mk Try.underlying179 (by kernel_rfl) rfl (rfl) (by kernel_rfl) (Or.inl rfl)
theorem ty180 : TyOk Try.prog 180 ⟨.other, 1, 8, []⟩ := tyOk_mk Try.underlying180 (by kernel_rfl) rfl (rfl) (by kernel_rfl) (Or.inl rfl)
theorem ty181 : TyOk Try.prog 181 ⟨.other, 1, 8, []⟩ := tyOk_mk Try.underlying181 (by kernel_rfl) rfl (rfl) (by kernel_rfl) (Or.inl rfl)
theorem ty182 : TyOk Try.prog 182 ⟨.other, 1, 8, []⟩ := tyOk_mk Try.underlying182 (by kernel_rfl) rfl (rfl) (by kernel_rfl) (Or.inl rfl)
theorem ty183 : TyOk Try.prog 183 ⟨.other, 1, 8, []⟩ := tyOk_mk Try.underlying183 (by kernel_rfl) rfl (rfl) (by kernel_rfl) (Or.inl rfl)
theorem ty184 : TyOk Try.prog 184 ⟨.other, 1, 8, []⟩ := tyOk_mk Try.underlying184 (by kernel_rfl) rfl (rfl) (by kernel_rfl) (Or.inl rfl)
theorem ty185 : TyOk Try.prog 185 ⟨.other, 1, 8, []⟩ := tyOk_mk Try.underlying185 (by kernel_rfl) rfl (rfl) (by kernel_rfl) (Or.inl rfl)
theorem ty186 : TyOk Try.prog 186 ⟨.other, 1, 8, []⟩ := tyOk_mk Try.underlying186 (by kernel_rfl) rfl (rfl) (by kernel_rfl) (Or.inl rfl)
theorem ty187 : TyOk Try.prog 187 ⟨.arr 8 163, 8, 32, [.int .u32 0, .int .u32 0, .int .u32 0, .int .u32 0, .int .u32 0, .int .u32 0, .int .u32 0, .int .u32 0]⟩ := tyOk_mk Try.underlying187 (by kernel_rfl) rfl (rfl) (by kernel_rfl) (Or.inr ⟨by kernel_rfl, by kernel_rfl⟩)
theorem ty188 : TyOk Try.prog 188 ⟨.other, 1, 8, []⟩ := tyOk_mk Try.underlying188 (by kernel_rfl) rfl (rfl) (by kernel_rfl) (Or.inl rfl)
theorem ty189 : TyOk Try.prog 189 ⟨.other, 1, 8, []⟩ := tyOk_mk Try.underlying189 (by kernel_rfl) rfl (rfl) (by kernel_rfl) (Or.inl rfl)
theorem ty190 : TyOk Try.prog 190 ⟨.other, 1, 8, []⟩ := tyOk_mk Try.underlying190 (by kernel_rfl) rfl (rfl) (by kernel_rfl) (Or.inl rfl)
theorem ty191 : TyOk Try.prog 191 ⟨.other, 1, 8, []⟩ := tyOk_mk Try.underlying191 (by kernel_rfl) rfl (rfl) (by kernel_rfl) (Or.inl rfl)
theorem ty192 : TyOk Try.prog 192 ⟨.other, 1, 8, []⟩ := tyOk_mk Try.underlying192 (by kernel_rfl) rfl (rfl) (by kernel_rfl) (Or.inl rfl)
theorem ty193 : TyOk Try.prog 193 ⟨.other, 1, 8, []⟩ := tyOk_mk Try.underlying193 (by kernel_rfl) rfl (rfl) (by kernel_rfl) (Or.inl rfl)
theorem ty194 : TyOk Try.prog 194 ⟨.other, 1, 8, []⟩ := tyOk_mk Try.underlying194 (by kernel_rfl) rfl (rfl) (by kernel_rfl) (Or.inl rfl)
theorem ty195 : TyOk Try.prog 195 ⟨.other, 1, 8, []⟩ := tyOk_mk Try.underlying195 (by kernel_rfl) rfl (rfl) (by kernel_rfl) (Or.inl rfl)
theorem ty196 : TyOk Try.prog 196 ⟨.other, 1, 8, []⟩ := tyOk_mk Try.underlying196 (by kernel_rfl) rfl (rfl) (by kernel_rfl) (Or.inl rfl)
theorem ty197 : TyOk Try.prog 197 ⟨.other, 1, 8, []⟩ := tyOk_mk Try.underlying197 (by kernel_rfl) rfl (rfl) (by kernel_rfl) (Or.inl rfl)
theorem ty200 : TyOk Try.prog 200 ⟨.arr 0 16, 0, 0, []⟩ := tyOk_mk Try.underlying200 (by kernel_rfl) rfl (rfl) (by kernel_rfl) (Or.inl rfl)
theorem ty203 : TyOk Try.prog 203 ⟨.int .u8, 1, 1, [.int .u8 0]⟩ := tyOk_mk Try.underlying203 (by kernel_rfl) rfl (rfl) (by kernel_rfl) (Or.inr ⟨by kernel_rfl, by kernel_rfl⟩)
theorem ty204 : TyOk Try.prog 204 ⟨.int .u8, 1, 1, [.int .u8 0]⟩ := tyOk_mk Try.underlying204 (by kernel_rfl) rfl (rfl) (by kernel_rfl) (Or.inr ⟨by kernel_rfl, by kernel_rfl⟩)
theorem ty205 : TyOk Try.prog 205 ⟨.other, 1, 8, []⟩ := tyOk_mk Try.underlying205 (by kernel_rfl) rfl (rfl) (by kernel_rfl) (Or.inl rfl)
theorem ty206 : TyOk Try.prog 206 ⟨.ptr 5, 1, 8, [.nilp]⟩ := tyOk_mk Try.underlying206 (by kernel_rfl) rfl (rfl) (by kernel_rfl) (Or.inr ⟨by kernel_rfl, by kernel_rfl⟩)
theorem ty207 : TyOk Try.prog 207 ⟨.int .i32, 1, 4, [.int .i32 0]⟩ := tyOk_mk Try.underlying207 (by kernel_rfl) rfl (rfl) (by kernel_rfl) (Or.inr ⟨by kernel_rfl, by kernel_rfl⟩)
theorem ty208 : TyOk Try.prog 208 ⟨.int .i32, 1, 4, [.int .i32 0]⟩ := tyOk_mk Try.underlying208 (by kernel_rfl) rfl (rfl) (by kernel_rfl) (Or.inr ⟨by kernel_rfl, by kernel_rfl⟩)
theorem ty211 : TyOk Try.prog 211 ⟨.other, 1, 8, []⟩ := tyOk_mk Try.underlying211 (by kernel_rfl) rfl (rfl) (by kernel_rfl) (Or.inl rfl)
def T : TTab := [
  (1, ⟨.other, 1, 8, []⟩),
  (2, ⟨.int .i64, 1, 8, [.int .i64 0]⟩),
  (3, ⟨.int .i64, 1, 8, [.int .i64 0]⟩),
  (4, ⟨.bool, 1, 1, [.bool false]⟩),
  (5, ⟨.int .u8, 1, 1, [.int .u8 0]⟩),
  (6, ⟨.int .u8, 1, 1, [.int .u8 0]⟩),
  (7, ⟨.struct [(0, 2), (1, 3), (2, 4), (3, 6)], 4, 24, [.int .i64 0, .int .i64 0, .bool false, .int .u8 0]⟩),
  (8, ⟨.struct [(0, 2), (1, 3), (2, 4), (3, 6)], 4, 24, [.int .i64 0, .int .i64 0, .bool false, .int .u8 0]⟩),
  (9, ⟨.str, 1, 16, [.str []]⟩),
  (10, ⟨.str, 1, 16, [.str []]⟩),
  (11, ⟨.str, 1, 16, [.str []]⟩),
  (12, ⟨.int .u64, 1, 8, [.int .u64 0]⟩),
  (15, ⟨.ptr 199, 1, 8, [.nilp]⟩),
  (16, ⟨.ptr 202, 1, 8, [.nilp]⟩),
  (17, ⟨.ptr 210, 1, 8, [.nilp]⟩),
  (20, ⟨.other, 1, 16, []⟩),
  (21, ⟨.int .i32, 1, 4, [.int .i32 0]⟩),
  (22, ⟨.int .u64, 1, 8, [.int .u64 0]⟩),
  (23, ⟨.arr 4 22, 4, 32, [.int .u64 0, .int .u64 0, .int .u64 0, .int .u64 0]⟩),
  (24, ⟨.arr 4 22, 4, 32, [.int .u64 0, .int .u64 0, .int .u64 0, .int .u64 0]⟩),
  (25, ⟨.struct [(0, 3), (1, 3), (2, 3), (3, 3), (4, 24), (8, 9)], 9, 80, [.int .i64 0, .int .i64 0, .int .i64 0, .int .i64 0, .int .u64 0, .int .u64 0, .int .u64 0, .int .u64 0, .str []]⟩),
  (26, ⟨.struct [(0, 3), (1, 3), (2, 3), (3, 3), (4, 24), (8, 9)], 9, 80, [.int .i64 0, .int .i64 0, .int .i64 0, .int .i64 0, .int .u64 0, .int .u64 0, .int .u64 0, .int .u64 0, .str []]⟩),
  (27, ⟨.struct [(0, 3), (1, 26), (10, 24), (14, 3), (15, 9)], 16, 144, [.int .i64 0, .int .i64 0, .int .i64 0, .int .i64 0, .int .i64 0, .int .u64 0, .int .u64 0, .int .u64 0, .int .u64 0, .str [], .int .u64 0, .int .u64 0, .int .u64 0, .int .u64 0, .int .i64 0, .str []]⟩),
  (28, ⟨.struct [(0, 3), (1, 26), (10, 24), (14, 3), (15, 9)], 16, 144, [.int .i64 0, .int .i64 0, .int .i64 0, .int .i64 0, .int .i64 0, .int .u64 0, .int .u64 0, .int .u64 0, .int .u64 0, .str [], .int .u64 0, .int .u64 0, .int .u64 0, .int .u64 0, .int .i64 0, .str []]⟩),
  (29, ⟨.struct [(0, 3), (1, 9), (2, 3), (3, 3), (4, 3), (5, 3), (6, 9)], 7, 72, [.int .i64 0, .str [], .int .i64 0, .int .i64 0, .int .i64 0, .int .i64 0, .str []]⟩),
  (30, ⟨.struct [(0, 3), (1, 9), (2, 3), (3, 3), (4, 3), (5, 3), (6, 9)], 7, 72, [.int .i64 0, .str [], .int .i64 0, .int .i64 0, .int .i64 0, .int .i64 0, .str []]⟩),
  (31, ⟨.struct [(0, 24), (4, 3)], 5, 40, [.int .u64 0, .int .u64 0, .int .u64 0, .int .u64 0, .int .i64 0]⟩),
  (32, ⟨.struct [(0, 24), (4, 3)], 5, 40, [.int .u64 0, .int .u64 0, .int .u64 0, .int .u64 0, .int .i64 0]⟩),
  (33, ⟨.struct [(0, 3), (1, 26), (10, 28), (26, 30), (33, 32), (38, 24), (42, 9)], 43, 392, [.int .i64 0, .int .i64 0, .int .i64 0, .int .i64 0, .int .i64 0, .int .u64 0, .int .u64 0, .int .u64 0, .int .u64 0, .str [], .int .i64 0, .int .i64 0, .int .i64 0, .int .i64 0, .int .i64 0, .int .u64 0, .int .u64 0, .int .u64 0, .int .u64 0, .str [], .int .u64 0, .int .u64 0, .int .u64 0, .int .u64 0, .int .i64 0, .str [], .int .i64 0, .str [], .int .i64 0, .int .i64 0, .int .i64 0, .int .i64 0, .str [], .int .u64 0, .int .u64 0, .int .u64 0, .int .u64 0, .int .i64 0, .int .u64 0, .int .u64 0, .int .u64 0, .int .u64 0, .str []]⟩),
  (34, ⟨.struct [(0, 3), (1, 26), (10, 28), (26, 30), (33, 32), (38, 24), (42, 9)], 43, 392, [.int .i64 0, .int .i64 0, .int .i64 0, .int .i64 0, .int .i64 0, .int .u64 0, .int .u64 0, .int .u64 0, .int .u64 0, .str [], .int .i64 0, .int .i64 0, .int .i64 0, .int .i64 0, .int .i64 0, .int .u64 0, .int .u64 0, .int .u64 0, .int .u64 0, .str [], .int .u64 0, .int .u64 0, .int .u64 0, .int .u64 0, .int .i64 0, .str [], .int .i64 0, .str [], .int .i64 0, .int .i64 0, .int .i64 0, .int .i64 0, .str [], .int .u64 0, .int .u64 0, .int .u64 0, .int .u64 0, .int .i64 0, .int .u64 0, .int .u64 0, .int .u64 0, .int .u64 0, .str []]⟩),
  (35, ⟨.slice 5, 1, 24, [.nil]⟩),
  (36, ⟨.other, 1, 8, []⟩),
  (37, ⟨.int .i64, 1, 8, [.int .i64 0]⟩),
  (39, ⟨.other, 1, 8, []⟩),
  (41, ⟨.other, 1, 8, []⟩),
  (42, ⟨.other, 1, 8, []⟩),
  (43, ⟨.other, 1, 8, []⟩),
  (44, ⟨.other, 1, 8, []⟩),
  (45, ⟨.other, 1, 8, []⟩),
  (46, ⟨.other, 1, 8, []⟩),
  (47, ⟨.other, 1, 8, []⟩),
  (48, ⟨.other, 1, 8, []⟩),
  (49, ⟨.other, 1, 8, []⟩),
  (50, ⟨.other, 1, 8, []⟩),
  (51, ⟨.other, 1, 8, []⟩),
  (53, ⟨.other, 1, 8, []⟩),
  (54, ⟨.other, 1, 8, []⟩),
  (55, ⟨.other, 1, 8, []⟩),
  (56, ⟨.struct [(0, 9), (1, 3)], 2, 24, [.str [], .int .i64 0]⟩),
  (57, ⟨.struct [(0, 9), (1, 3)], 2, 24, [.str [], .int .i64 0]⟩),
  (59, ⟨.other, 1, 8, []⟩),
  (61, ⟨.other, 1, 8, []⟩),
  (62, ⟨.other, 1, 8, []⟩),
  (63, ⟨.other, 1, 8, []⟩),
  (65, ⟨.other, 1, 8, []⟩),
  (66, ⟨.other, 1, 8, []⟩),
  (67, ⟨.other, 1, 8, []⟩),
  (68, ⟨.ptr 72, 1, 8, [.nilp]⟩),
  (69, ⟨.slice 9, 1, 24, [.nil]⟩),
  (70, ⟨.slice 130, 1, 24, [.nil]⟩),
  (71, ⟨.struct [(0, 69), (1, 70), (2, 4)], 3, 56, [.nil, .nil, .bool false]⟩),
  (72, ⟨.struct [(0, 69), (1, 70), (2, 4)], 3, 56, [.nil, .nil, .bool false]⟩),
  (73, ⟨.slice 68, 1, 24, [.nil]⟩),
  (75, ⟨.other, 1, 8, []⟩),
  (76, ⟨.other, 1, 8, []⟩),
  (77, ⟨.slice 26, 1, 24, [.nil]⟩),
  (78, ⟨.other, 1, 8, []⟩),
  (79, ⟨.slice 28, 1, 24, [.nil]⟩),
  (80, ⟨.other, 1, 8, []⟩),
  (81, ⟨.other, 1, 8, []⟩),
  (82, ⟨.other, 1, 8, []⟩),
  (83, ⟨.other, 1, 8, []⟩),
  (84, ⟨.ptr 139, 1, 8, [.nilp]⟩),
  (85, ⟨.other, 1, 8, []⟩),
  (86, ⟨.other, 1, 8, []⟩),
  (87, ⟨.other, 1, 8, []⟩),
  (88, ⟨.other, 1, 8, []⟩),
  (89, ⟨.other, 1, 8, []⟩),
  (90, ⟨.other, 1, 8, []⟩),
  (91, ⟨.other, 1, 8, []⟩),
  (92, ⟨.other, 1, 8, []⟩),
  (93, ⟨.ptr 145, 1, 8, [.nilp]⟩),
  (94, ⟨.other, 1, 8, []⟩),
  (95, ⟨.other, 1, 8, []⟩),
  (96, ⟨.other, 1, 8, []⟩),
  (97, ⟨.other, 1, 8, []⟩),
  (98, ⟨.other, 1, 8, []⟩),
  (99, ⟨.other, 1, 8, []⟩),
  (100, ⟨.other, 1, 8, []⟩),
  (101, ⟨.other, 1, 8, []⟩),
  (102, ⟨.other, 1, 8, []⟩),
  (103, ⟨.other, 1, 8, []⟩),
  (104, ⟨.other, 1, 8, []⟩),
  (105, ⟨.other, 1, 8, []⟩),
  (106, ⟨.struct [(0, 35), (1, 3)], 2, 32, [.nil, .int .i64 0]⟩),
  (107, ⟨.struct [(0, 35), (1, 3)], 2, 32, [.nil, .int .i64 0]⟩),
  (108, ⟨.other, 1, 8, []⟩),
  (109, ⟨.other, 1, 8, []⟩),
  (110, ⟨.other, 1, 8, []⟩),
  (111, ⟨.other, 1, 8, []⟩),
  (113, ⟨.other, 1, 8, []⟩),
  (114, ⟨.other, 1, 8, []⟩),
  (115, ⟨.other, 1, 8, []⟩),
  (116, ⟨.other, 1, 8, []⟩),
  (117, ⟨.other, 1, 8, []⟩),
  (118, ⟨.other, 1, 8, []⟩),
  (119, ⟨.slice 35, 1, 24, [.nil]⟩),
  (120, ⟨.other, 1, 8, []⟩),
  (121, ⟨.slice 3, 1, 24, [.nil]⟩),
  (122, ⟨.other, 1, 8, []⟩),
  (123, ⟨.other, 1, 8, []⟩),
  (124, ⟨.other, 1, 8, []⟩),
  (125, ⟨.other, 1, 8, []⟩),
  (126, ⟨.other, 1, 8, []⟩),
  (127, ⟨.other, 1, 8, []⟩),
  (128, ⟨.other, 1, 8, []⟩),
  (129, ⟨.other, 1, 8, []⟩),
  (130, ⟨.ptr 133, 1, 8, [.nilp]⟩),
  (131, ⟨.other, 1, 8, []⟩),
  (132, ⟨.struct [(0, 26), (9, 3), (10, 79)], 11, 112, [.int .i64 0, .int .i64 0, .int .i64 0, .int .i64 0, .int .u64 0, .int .u64 0, .int .u64 0, .int .u64 0, .str [], .int .i64 0, .nil]⟩),
  (133, ⟨.struct [(0, 26), (9, 3), (10, 79)], 11, 112, [.int .i64 0, .int .i64 0, .int .i64 0, .int .i64 0, .int .u64 0, .int .u64 0, .int .u64 0, .int .u64 0, .str [], .int .i64 0, .nil]⟩),
  (134, ⟨.other, 1, 8, []⟩),
  (135, ⟨.other, 1, 8, []⟩),
  (136, ⟨.other, 1, 8, []⟩),
  (137, ⟨.other, 1, 8, []⟩),
  (138, ⟨.struct [(0, 35), (1, 37), (2, 4)], 3, 40, [.nil, .int .i64 0, .bool false]⟩),
  (139, ⟨.struct [(0, 35), (1, 37), (2, 4)], 3, 40, [.nil, .int .i64 0, .bool false]⟩),
  (140, ⟨.other, 1, 8, []⟩),
  (141, ⟨.other, 1, 8, []⟩),
  (142, ⟨.arr 4 3, 4, 32, [.int .i64 0, .int .i64 0, .int .i64 0, .int .i64 0]⟩),
  (143, ⟨.other, 1, 8, []⟩),
  (144, ⟨.other, 1, 8, []⟩),
  (145, ⟨.struct [(0, 35), (1, 37), (2, 4)], 3, 40, [.nil, .int .i64 0, .bool false]⟩),
  (146, ⟨.other, 1, 8, []⟩),
  (147, ⟨.other, 1, 8, []⟩),
  (148, ⟨.other, 1, 8, []⟩),
  (150, ⟨.other, 1, 8, []⟩),
  (151, ⟨.other, 1, 8, []⟩),
  (152, ⟨.other, 1, 8, []⟩),
  (153, ⟨.other, 1, 8, []⟩),
  (154, ⟨.other, 1, 8, []⟩),
  (155, ⟨.slice 22, 1, 24, [.nil]⟩),
  (156, ⟨.other, 1, 8, []⟩),
  (157, ⟨.other, 1, 8, []⟩),
  (158, ⟨.other, 1, 8, []⟩),
  (159, ⟨.other, 1, 8, []⟩),
  (160, ⟨.other, 1, 8, []⟩),
  (161, ⟨.other, 1, 8, []⟩),
  (162, ⟨.other, 1, 8, []⟩),
  (163, ⟨.int .u32, 1, 4, [.int .u32 0]⟩),
  (164, ⟨.arr 8 163, 8, 32, [.int .u32 0, .int .u32 0, .int .u32 0, .int .u32 0, .int .u32 0, .int .u32 0, .int .u32 0, .int .u32 0]⟩),
  (165, ⟨.arr 64 163, 64, 256, [.int .u32 0, .int .u32 0, .int .u32 0, .int .u32 0, .int .u32 0, .int .u32 0, .int .u32 0, .int .u32 0, .int .u32 0, .int .u32 0, .int .u32 0, .int .u32 0, .int .u32 0, .int .u32 0, .int .u32 0, .int .u32 0, .int .u32 0, .int .u32 0, .int .u32 0, .int .u32 0, .int .u32 0, .int .u32 0, .int .u32 0, .int .u32 0, .int .u32 0, .int .u32 0, .int .u32 0, .int .u32 0, .int .u32 0, .int .u32 0, .int .u32 0, .int .u32 0, .int .u32 0, .int .u32 0, .int .u32 0, .int .u32 0, .int .u32 0, .int .u32 0, .int .u32 0, .int .u32 0, .int .u32 0, .int .u32 0, .int .u32 0, .int .u32 0, .int .u32 0, .int .u32 0, .int .u32 0, .int .u32 0, .int .u32 0, .int .u32 0, .int .u32 0, .int .u32 0, .int .u32 0, .int .u32 0, .int .u32 0, .int .u32 0, .int .u32 0, .int .u32 0, .int .u32 0, .int .u32 0, .int .u32 0, .int .u32 0, .int .u32 0, .int .u32 0]⟩),
  (166, ⟨.other, 1, 8, []⟩),
  (167, ⟨.int .u64, 1, 8, [.int .u64 0]⟩),
  (168, ⟨.other, 1, 8, []⟩),
  (169, ⟨.other, 1, 8, []⟩),
  (170, ⟨.other, 1, 8, []⟩),
  (171, ⟨.other, 1, 8, []⟩),
  (172, ⟨.other, 1, 8, []⟩),
  (173, ⟨.other, 1, 8, []⟩),
  (174, ⟨.other, 1, 8, []⟩),
  (175, ⟨.other, 1, 8, []⟩),
  (176, ⟨.other, 1, 8, []⟩),
  (177, ⟨.other, 1, 8, []⟩),
  (178, ⟨.other, 1, 8, []⟩),
  (179, ⟨.other, 1, 8, []⟩),
  (180, ⟨.other, 1, 8, []⟩),
  (181, ⟨.other, 1, 8, []⟩),
  (182, ⟨.other, 1, 8, []⟩),
  (183, ⟨.other, 1, 8, []⟩),
  (184, ⟨.other, 1, 8, []⟩),
  (185, ⟨.other, 1, 8, []⟩),
  (186, ⟨.other, 1, 8, []⟩),
  (187, ⟨.arr 8 163, 8, 32, [.int .u32 0, .int .u32 0, .int .u32 0, .int .u32 0, .int .u32 0, .int .u32 0, .int .u32 0, .int .u32 0]⟩),
  (188, ⟨.other, 1, 8, []⟩),
  (189, ⟨.other, 1, 8, []⟩),
  (190, ⟨.other, 1, 8, []⟩),
  (191, ⟨.other, 1, 8, []⟩),
  (192, ⟨.other, 1, 8, []⟩),
  (193, ⟨.other, 1, 8, []⟩),
  (194, ⟨.other, 1, 8, []⟩),
  (195, ⟨.other, 1, 8, []⟩),
  (196, ⟨.other, 1, 8, []⟩),
  (197, ⟨.other, 1, 8, []⟩),
  (200, ⟨.arr 0 16, 0, 0, []⟩),
  (203, ⟨.int .u8, 1, 1, [.int .u8 0]⟩),
  (204, ⟨.int .u8, 1, 1, [.int .u8 0]⟩),
  (205, ⟨.other, 1, 8, []⟩),
  (206, ⟨.ptr 5, 1, 8, [.nilp]⟩),
  (207, ⟨.int .i32, 1, 4, [.int .i32 0]⟩),
  (208, ⟨.int .i32, 1, 4, [.int .i32 0]⟩),
  (211, ⟨.other, 1, 8, []⟩)]
theorem tOk : TOk Try.prog T := by
  refine TOk.cons ty1 ?_
  refine TOk.cons ty2 ?_
  refine TOk.cons ty3 ?_
  refine TOk.cons ty4 ?_
  refine TOk.cons ty5 ?_
  refine TOk.cons ty6 ?_
  refine TOk.cons ty7 ?_
  refine TOk.cons ty8 ?_
  refine TOk.cons ty9 ?_
  refine TOk.cons ty10 ?_
  refine TOk.cons ty11 ?_
  refine TOk.cons ty12 ?_
  refine TOk.cons ty15 ?_
  refine TOk.cons ty16 ?_
  refine TOk.cons ty17 ?_
  refine TOk.cons ty20 ?_
  refine TOk.cons ty21 ?_
  refine TOk.cons ty22 ?_
  refine TOk.cons ty23 ?_
  refine TOk.cons ty24 ?_
  refine TOk.cons ty25 ?_
  refine TOk.cons ty26 ?_
  refine TOk.cons ty27 ?_
  refine TOk.cons ty28 ?_
  refine TOk.cons ty29 ?_
  refine TOk.cons ty30 ?_
  refine TOk.cons ty31 ?_
  refine TOk.cons ty32 ?_
  refine TOk.cons ty33 ?_
  refine TOk.cons ty34 ?_
  refine TOk.cons ty35 ?_
  refine TOk.cons ty36 ?_
  refine TOk.cons ty37 ?_
  refine TOk.cons ty39 ?_
  refine TOk.cons ty41 ?_
  refine TOk.cons ty42 ?_
  refine TOk.cons ty43 ?_
  refine TOk.cons ty44 ?_
  refine TOk.cons ty45 ?_
  refine TOk.cons ty46 ?_
  refine TOk.cons ty47 ?_
  refine TOk.cons ty48 ?_
  refine TOk.cons ty49 ?_
  refine TOk.cons ty50 ?_
  refine TOk.cons ty51 ?_
  refine TOk.cons ty53 ?_
  refine TOk.cons ty54 ?_
  refine TOk.cons ty55 ?_
  refine TOk.cons ty56 ?_
  refine TOk.cons ty57 ?_
  refine TOk.cons ty59 ?_
  refine TOk.cons ty61 ?_
  refine TOk.cons ty62 ?_
  refine TOk.cons ty63 ?_
  refine TOk.cons ty65 ?_
  refine TOk.cons ty66 ?_
  refine TOk.cons ty67 ?_
  refine TOk.cons ty68 ?_
  refine TOk.cons ty69 ?_
  refine TOk.cons ty70 ?_
  refine TOk.cons ty71 ?_
  refine TOk.cons ty72 ?_
  refine TOk.cons ty73 ?_
  refine TOk.cons ty75 ?_
  refine TOk.cons ty76 ?_
  refine TOk.cons ty77 ?_
  refine TOk.cons ty78 ?_
  refine TOk.cons ty79 ?_
  refine TOk.cons ty80 ?_
  refine TOk.cons ty81 ?_
  refine TOk.cons ty82 ?_
  refine TOk.cons ty83 ?_
  refine TOk.cons ty84 ?_
  refine TOk.cons ty85 ?_
  refine TOk.cons ty86 ?_
  refine TOk.cons ty87 ?_
  refine TOk.cons ty88 ?_
  refine TOk.cons ty89 ?_
  refine TOk.cons ty90 ?_
  refine TOk.cons ty91 ?_
  refine TOk.cons ty92 ?_
  refine TOk.cons ty93 ?_
  refine TOk.cons ty94 ?_
  refine TOk.cons ty95 ?_
  refine TOk.cons ty96 ?_
  refine TOk.cons ty97 ?_
  refine TOk.cons ty98 ?_
  refine TOk.cons ty99 ?_
  refine TOk.cons ty100 ?_
  refine TOk.cons ty101 ?_
  refine TOk.cons ty102 ?_
  refine TOk.cons ty103 ?_
  refine TOk.cons ty104 ?_
  refine TOk.cons ty105 ?_
  refine TOk.cons ty106 ?_
  refine TOk.cons ty107 ?_
  refine TOk.cons ty108 ?_
  refine TOk.cons ty109 ?_
  refine TOk.cons ty110 ?_
  refine TOk.cons ty111 ?_
  refine TOk.cons ty113 ?_
  refine TOk.cons ty114 ?_
  refine TOk.cons ty115 ?_
  refine TOk.cons ty116 ?_
  refine TOk.cons ty117 ?_
  refine TOk.cons ty118 ?_
  refine TOk.cons ty119 ?_
  refine TOk.cons ty120 ?_
  refine TOk.cons ty121 ?_
  refine TOk.cons ty122 ?_
  refine TOk.cons ty123 ?_
  refine TOk.cons ty124 ?_
  refine TOk.cons ty125 ?_
  refine TOk.cons ty126 ?_
  refine TOk.cons ty127 ?_
  refine TOk.cons ty128 ?_
  refine TOk.cons ty129 ?_
  refine TOk.cons ty130 ?_
  refine TOk.cons ty131 ?_
  refine TOk.cons ty132 ?_
  refine TOk.cons ty133 ?_
  refine TOk.cons ty134 ?_
  refine TOk.cons ty135 ?_
  refine TOk.cons ty136 ?_
  refine TOk.cons ty137 ?_
  refine TOk.cons ty138 ?_
  refine TOk.cons ty139 ?_
  refine TOk.cons ty140 ?_
  refine TOk.cons ty141 ?_
  refine TOk.cons ty142 ?_
  refine TOk.cons ty143 ?_
  refine TOk.cons ty144 ?_
  refine TOk.cons ty145 ?_
  refine TOk.cons ty146 ?_
  refine TOk.cons ty147 ?_
  refine TOk.cons ty148 ?_
  refine TOk.cons ty150 ?_
  refine TOk.cons ty151 ?_
  refine TOk.cons ty152 ?_
  refine TOk.cons ty153 ?_
  refine TOk.cons ty154 ?_
  refine TOk.cons ty155 ?_
  refine TOk.cons ty156 ?_
  refine TOk.cons ty157 ?_
  refine TOk.cons ty158 ?_
  refine TOk.cons ty159 ?_
  refine TOk.cons ty160 ?_
  refine TOk.cons ty161 ?_
  refine TOk.cons ty162 ?_
  refine TOk.cons ty163 ?_
  refine TOk.cons ty164 ?_
  refine TOk.cons ty165 ?_
  refine TOk.cons ty166 ?_
  refine TOk.cons ty167 ?_
  refine TOk.cons ty168 ?_
  refine TOk.cons ty169 ?_
  refine TOk.cons ty170 ?_
  refine TOk.cons ty171 ?_
  refine TOk.cons ty172 ?_
  refine TOk.cons ty173 ?_
  refine TOk.cons ty174 ?_
  refine TOk.cons ty175 ?_
  refine TOk.cons ty176 ?_
  refine TOk.cons ty177 ?_
  refine TOk.cons ty178 ?_
  refine TOk.cons ty179 ?_
  refine TOk.cons ty180 ?_
  refine TOk.cons ty181 ?_
  refine TOk.cons ty182 ?_
  refine TOk.cons ty183 ?_
  refine TOk.cons ty184 ?_
  refine TOk.cons ty185 ?_
  refine TOk.cons ty186 ?_
  refine TOk.cons ty187 ?_
  refine TOk.cons ty188 ?_
  refine TOk.cons ty189 ?_
  refine TOk.cons ty190 ?_
  refine TOk.cons ty191 ?_
  refine TOk.cons ty192 ?_
  refine TOk.cons ty193 ?_
  refine TOk.cons ty194 ?_
  refine TOk.cons ty195 ?_
  refine TOk.cons ty196 ?_
  refine TOk.cons ty197 ?_
  refine TOk.cons ty200 ?_
  refine TOk.cons ty203 ?_
  refine TOk.cons ty204 ?_
  refine TOk.cons ty205 ?_
  refine TOk.cons ty206 ?_
  refine TOk.cons ty207 ?_
  refine TOk.cons ty208 ?_
  refine TOk.cons ty211 ?_
  exact TOk.nil _
section
variable {f N : Nat} {m : Md} {ops : Array Oper} {o : Oper} {rest : List Oper} {k : List Item} {g : Regs} {h h' : Hp} {Post : AVal → Hp → Prop} {d : Nat} {v : AVal} {c : Prop}
theorem pA (hk : AReg Try.prog f N m ops rest k ((d, v) :: g) h Post) (hp : stepPure T N g o = some (d, v, c) := by exact rfl) (hg : guardB ops g o = some true := by exact rfl) (hc : c := by exact trivial) : AReg Try.prog f N m ops (o :: rest) k g h Post := ar_pure tOk hp hg rfl hc hk
theorem pB (hk : AReg Try.prog f N m ops rest k ((d, v) :: g) h Post) (hp : stepLoad T N g h o = some (d, v, c) := by exact rfl) (hg : guardB ops g o = some true := by exact rfl) (hc : c := by exact trivial) : AReg Try.prog f N m ops (o :: rest) k g h Post := ar_load tOk hp hg rfl hc hk
end
end Go.Proofs.Ytnodpljgcdkbkaa

