/-
  THE SEAT'S TYPES, as a table (made by types.py).
-/
import Derived.KernelRfl
import Derived.Test.YtopfpkmdkcjjlaaProg
import Derived.Test.YtopfpkmdkcjjlaaMB
namespace Go.Proofs.Ytopfpkmdkcjjlaa
open Go
theorem tyOk_mk {P : Program} {t : Nat} {ty : Ty} {d : TypeDesc} (hu : P.underlying t = some d) (hi : (P.info? t).map (fun i => (i.size, i.bytes)) = some (ty.size, ty.bytes))
    (hl : (ty.k.agg || Nat.beq ty.size 1) = true) (hk : ty.k.ok d) (hg : (!ty.k.agg || (!P.stoodInHeld t && !P.eqGuardType P.depth t)) = true)
    (hz : ty.zero = [] ∨ ((P.info? t).bind (fun i => i.zero.map fun z => z.cells.toList) = some (ty.zero.map RVal.conc) ∧ ty.zero.all RVal.flat = true)) : TyOk P t ty := by
  cases hi' : P.info? t with
  | none => rw [hi'] at hi; cases hi
  | some i =>
    rw [hi'] at hi hz
    simp only [Option.map_some, Option.some.injEq, Prod.mk.injEq] at hi
    refine ⟨fun h => ?_, d, i, hu, hi', hi.1, hi.2, hk, fun h => ?_, ?_⟩
    · rw [h] at hl; exact Nat.eq_of_beq_eq_true (by simpa using hl)
    · rw [h] at hg; simpa using hg
    · rcases hz with hz | ⟨hz, hf⟩
      · exact Or.inl hz
      · right
        cases hz2 : i.zero with
        | none => simp [hz2] at hz
        | some z => exact ⟨z, rfl, by simpa [hz2] using hz, hf⟩
theorem ty1 : TyOk Try.prog 1 ⟨.other, 1, 8, []⟩ := tyOk_mk Try.underlying1 (by kernel_rfl) rfl (rfl) (by kernel_rfl) (Or.inl rfl)
theorem ty2 : TyOk Try.prog 2 ⟨.int .i64, 1, 8, [.int .i64 0]⟩ := tyOk_mk Try.underlying2 (by kernel_rfl) rfl (rfl) (by kernel_rfl) (Or.inr ⟨by kernel_rfl, by kernel_rfl⟩)
theorem ty3 : TyOk Try.prog 3 ⟨.int .i64, 1, 8, [.int .i64 0]⟩ := tyOk_mk Try.underlying3 (by kernel_rfl) rfl (rfl) (by kernel_rfl) (Or.inr ⟨by kernel_rfl, by kernel_rfl⟩)
theorem ty4 : TyOk Try.prog 4 ⟨.bool, 1, 1, [.bool false]⟩ := tyOk_mk Try.underlying4 (by kernel_rfl) rfl (rfl) (by kernel_rfl) (Or.inr ⟨by kernel_rfl, by kernel_rfl⟩)
theorem ty5 : TyOk Try.prog 5 ⟨.int .u8, 1, 1, [.int .u8 0]⟩ := tyOk_mk Try.underlying5 (by kernel_rfl) rfl (rfl) (by kernel_rfl) (Or.inr ⟨by kernel_rfl, by kernel_rfl⟩)
theorem ty6 : TyOk Try.prog 6 ⟨.int .u8, 1, 1, [.int .u8 0]⟩ := tyOk_mk Try.underlying6 (by kernel_rfl) rfl (rfl) (by kernel_rfl) (Or.inr ⟨by kernel_rfl, by kernel_rfl⟩)
theorem ty7 : TyOk Try.prog 7 ⟨.struct [(0, 2), (1, 3), (2, 4), (3, 6)], 4, 24, [.int .i64 0, .int .i64 0, .bool false, .int .u8 0]⟩ := tyOk_mk Try.underlying7 (by kernel_rfl) rfl (⟨_, rfl, rfl, by kernel_rfl⟩) (by kernel_rfl) (Or.inr ⟨by kernel_rfl, by kernel_rfl⟩)
theorem ty8 : TyOk Try.prog 8 ⟨.struct [(0, 2), (1, 3), (2, 4), (3, 6)], 4, 24, [.int .i64 0, .int .i64 0, .bool false, .int .u8 0]⟩ := tyOk_mk Try.underlying8 (by kernel_rfl) rfl (⟨_, rfl, rfl, by kernel_rfl⟩) (by kernel_rfl) (Or.inr ⟨by kernel_rfl, by kernel_rfl⟩)
theorem ty9 : TyOk Try.prog 9 ⟨.str, 1, 16, [.str []]⟩ := tyOk_mk Try.underlying9 (by kernel_rfl) rfl (rfl) (by kernel_rfl) (Or.inr ⟨by kernel_rfl, by kernel_rfl⟩)
theorem ty10 : TyOk Try.prog 10 ⟨.str, 1, 16, [.str []]⟩ := tyOk_mk Try.underlying10 (by kernel_rfl) rfl (rfl) (by kernel_rfl) (Or.inr ⟨by kernel_rfl, by kernel_rfl⟩)
theorem ty11 : TyOk Try.prog 11 ⟨.str, 1, 16, [.str []]⟩ := tyOk_mk Try.underlying11 (by kernel_rfl) rfl (rfl) (by kernel_rfl) (Or.inr ⟨by kernel_rfl, by kernel_rfl⟩)
theorem ty12 : TyOk Try.prog 12 ⟨.int .u64, 1, 8, [.int .u64 0]⟩ := tyOk_mk Try.underlying12 (by kernel_rfl) rfl (rfl) (by kernel_rfl) (Or.inr ⟨by kernel_rfl, by kernel_rfl⟩)
theorem ty15 : TyOk Try.prog 15 ⟨.ptr 112, 1, 8, [.nilp]⟩ := tyOk_mk Try.underlying15 (by kernel_rfl) rfl (rfl) (by kernel_rfl) (Or.inr ⟨by kernel_rfl, by kernel_rfl⟩)
theorem ty16 : TyOk Try.prog 16 ⟨.ptr 115, 1, 8, [.nilp]⟩ := tyOk_mk Try.underlying16 (by kernel_rfl) rfl (rfl) (by kernel_rfl) (Or.inr ⟨by kernel_rfl, by kernel_rfl⟩)
theorem ty17 : TyOk Try.prog 17 ⟨.ptr 123, 1, 8, [.nilp]⟩ := tyOk_mk Try.underlying17 (by kernel_rfl) rfl (rfl) (by kernel_rfl) (Or.inr ⟨by kernel_rfl, by kernel_rfl⟩)
theorem ty20 : TyOk Try.prog 20 ⟨.other, 1, 16, []⟩ := tyOk_mk Try.underlying20 (by kernel_rfl) rfl (rfl) (by kernel_rfl) (Or.inl rfl)
theorem ty21 : TyOk Try.prog 21 ⟨.int .i32, 1, 4, [.int .i32 0]⟩ := tyOk_mk Try.underlying21 (by kernel_rfl) rfl (rfl) (by kernel_rfl) (Or.inr ⟨by kernel_rfl, by kernel_rfl⟩)
theorem ty22 : TyOk Try.prog 22 ⟨.slice 27, 1, 24, [.nil]⟩ := tyOk_mk Try.underlying22 (by kernel_rfl) rfl (rfl) (by kernel_rfl) (Or.inr ⟨by kernel_rfl, by kernel_rfl⟩)
theorem ty23 : TyOk Try.prog 23 ⟨.slice 3, 1, 24, [.nil]⟩ := tyOk_mk Try.underlying23 (by kernel_rfl) rfl (rfl) (by kernel_rfl) (Or.inr ⟨by kernel_rfl, by kernel_rfl⟩)
theorem ty24 : TyOk Try.prog 24 ⟨.other, 1, 8, []⟩ := tyOk_mk Try.underlying24 (by kernel_rfl) rfl (rfl) (by kernel_rfl) (Or.inl rfl)
theorem ty25 : TyOk Try.prog 25 ⟨.slice 29, 1, 24, [.nil]⟩ := tyOk_mk Try.underlying25 (by kernel_rfl) rfl (rfl) (by kernel_rfl) (Or.inr ⟨by kernel_rfl, by kernel_rfl⟩)
theorem ty26 : TyOk Try.prog 26 ⟨.other, 1, 8, []⟩ := tyOk_mk Try.underlying26 (by kernel_rfl) rfl (rfl) (by kernel_rfl) (Or.inl rfl)
theorem ty27 : TyOk Try.prog 27 ⟨.slice 5, 1, 24, [.nil]⟩ := tyOk_mk Try.underlying27 (by kernel_rfl) rfl (rfl) (by kernel_rfl) (Or.inr ⟨by kernel_rfl, by kernel_rfl⟩)
theorem ty28 : TyOk Try.prog 28 ⟨.struct [(0, 3), (1, 27)], 2, 32, [.int .i64 0, .nil]⟩ := tyOk_mk Try.underlying28 (by kernel_rfl) rfl (⟨_, rfl, rfl, by kernel_rfl⟩) (by kernel_rfl) (Or.inr ⟨by kernel_rfl, by kernel_rfl⟩)
theorem ty29 : TyOk Try.prog 29 ⟨.struct [(0, 3), (1, 27)], 2, 32, [.int .i64 0, .nil]⟩ := tyOk_mk Try.underlying29 (by kernel_rfl) rfl (⟨_, rfl, rfl, by kernel_rfl⟩) (by kernel_rfl) (Or.inr ⟨by kernel_rfl, by kernel_rfl⟩)
theorem ty31 : TyOk Try.prog 31 ⟨.other, 1, 8, []⟩ := tyOk_mk Try.underlying31 (by kernel_rfl) rfl (rfl) (by kernel_rfl) (Or.inl rfl)
theorem ty32 : TyOk Try.prog 32 ⟨.other, 1, 8, []⟩ := tyOk_mk Try.underlying32 (by kernel_rfl) rfl (rfl) (by kernel_rfl) (Or.inl rfl)
theorem ty33 : TyOk Try.prog 33 ⟨.other, 1, 8, []⟩ := tyOk_mk Try.underlying33 (by kernel_rfl) rfl (rfl) (by kernel_rfl) (Or.inl rfl)
theorem ty34 : TyOk Try.prog 34 ⟨.other, 1, 8, []⟩ := tyOk_mk Try.underlying34 (by kernel_rfl) rfl (rfl) (by kernel_rfl) (Or.inl rfl)
theorem ty35 : TyOk Try.prog 35 ⟨.other, 1, 8, []⟩ := tyOk_mk Try.underlying35 (by kernel_rfl) rfl (rfl) (by kernel_rfl) (Or.inl rfl)
theorem ty36 : TyOk Try.prog 36 ⟨.other, 1, 8, []⟩ := tyOk_mk Try.underlying36 (by kernel_rfl) rfl (rfl) (by kernel_rfl) (Or.inl rfl)
theorem ty37 : TyOk Try.prog 37 ⟨.other, 1, 8, []⟩ := tyOk_mk Try.underlying37 (by kernel_rfl) rfl (rfl) (by kernel_rfl) (Or.inl rfl)
theorem ty38 : TyOk Try.prog 38 ⟨.other, 1, 8, []⟩ := tyOk_mk Try.underlying38 (by kernel_rfl) rfl (rfl) (by kernel_rfl) (Or.inl rfl)
theorem ty39 : TyOk Try.prog 39 ⟨.int .u32, 1, 4, [.int .u32 0]⟩ := tyOk_mk Try.underlying39 (by kernel_rfl) rfl (rfl) (by kernel_rfl) (Or.inr ⟨by kernel_rfl, by kernel_rfl⟩)
theorem ty40 : TyOk Try.prog 40 ⟨.arr 8 39, 8, 32, [.int .u32 0, .int .u32 0, .int .u32 0, .int .u32 0, .int .u32 0, .int .u32 0, .int .u32 0, .int .u32 0]⟩ := tyOk_mk Try.underlying40 (by kernel_rfl) rfl (rfl) (by kernel_rfl) (Or.inr ⟨by kernel_rfl, by kernel_rfl⟩)
theorem ty41 : TyOk Try.prog 41 ⟨.arr 64 39, 64, 256, [.int .u32 0, .int .u32 0, .int .u32 0, .int .u32 0, .int .u32 0, .int .u32 0, .int .u32 0, .int .u32 0, .int .u32 0, .int .u32 0, .int .u32 0, .int .u32 0, .int .u32 0, .int .u32 0, .int .u32 0, .int .u32 0, .int .u32 0, .int .u32 0, .int .u32 0, .int .u32 0, .int .u32 0, .int .u32 0, .int .u32 0, .int .u32 0, .int .u32 0, .int .u32 0, .int .u32 0, .int .u32 0, .int .u32 0, .int .u32 0, .int .u32 0, .int .u32 0, .int .u32 0, .int .u32 0, .int .u32 0, .int .u32 0, .int .u32 0, .int .u32 0, .int .u32 0, .int .u32 0, .int .u32 0, .int .u32 0, .int .u32 0, .int .u32 0, .int .u32 0, .int .u32 0, .int .u32 0, .int .u32 0, .int .u32 0, .int .u32 0, .int .u32 0, .int .u32 0, .int .u32 0, .int .u32 0, .int .u32 0, .int .u32 0, .int .u32 0, .int .u32 0, .int .u32 0, .int .u32 0, .int .u32 0, .int .u32 0, .int .u32 0, .int .u32 0]⟩ := tyOk_mk Try.underlying41 (by kernel_rfl) rfl (rfl) (by kernel_rfl) (Or.inr ⟨by kernel_rfl, by kernel_rfl⟩)
theorem ty43 : TyOk Try.prog 43 ⟨.other, 1, 8, []⟩ := tyOk_mk Try.underlying43 (by kernel_rfl) rfl (rfl) (by kernel_rfl) (Or.inl rfl)
theorem ty44 : TyOk Try.prog 44 ⟨.other, 1, 8, []⟩ := tyOk_mk Try.underlying44 (by kernel_rfl) rfl (rfl) (by kernel_rfl) (Or.inl rfl)
theorem ty45 : TyOk Try.prog 45 ⟨.other, 1, 8, []⟩ := tyOk_mk Try.underlying45 (by kernel_rfl) rfl (rfl) (by kernel_rfl) (Or.inl rfl)
theorem ty46 : TyOk Try.prog 46 ⟨.other, 1, 8, []⟩ := tyOk_mk Try.underlying46 (by kernel_rfl) rfl (rfl) (by kernel_rfl) (Or.inl rfl)
theorem ty47 : TyOk Try.prog 47 ⟨.int .i64, 1, 8, [.int .i64 0]⟩ := tyOk_mk Try.underlying47 (by kernel_rfl) rfl (rfl) (by kernel_rfl) (Or.inr ⟨by kernel_rfl, by kernel_rfl⟩)
theorem ty49 : TyOk Try.prog 49 ⟨.other, 1, 8, []⟩ := tyOk_mk Try.underlying49 (by kernel_rfl) rfl (rfl) (by kernel_rfl) (Or.inl rfl)
theorem ty51 : TyOk Try.prog 51 ⟨.other, 1, 8, []⟩ := tyOk_mk Try.underlying51 (by kernel_rfl) rfl (rfl) (by kernel_rfl) (Or.inl rfl)
theorem ty52 : TyOk Try.prog 52 ⟨.other, 1, 8, []⟩ := tyOk_mk Try.underlying52 (by kernel_rfl) rfl (rfl) (by kernel_rfl) (Or.inl rfl)
theorem ty53 : TyOk Try.prog 53 ⟨.other, 1, 8, []⟩ := tyOk_mk Try.underlying53 (by kernel_rfl) rfl (rfl) (by kernel_rfl) (Or.inl rfl)
theorem ty54 : TyOk Try.prog 54 ⟨.other, 1, 8, []⟩ := tyOk_mk Try.underlying54 (by kernel_rfl) rfl (rfl) (by kernel_rfl) (Or.inl rfl)
theorem ty55 : TyOk Try.prog 55 ⟨.ptr 90, 1, 8, [.nilp]⟩ := tyOk_mk Try.underlying55 (by kernel_rfl) rfl (rfl) (by kernel_rfl) (Or.inr ⟨by kernel_rfl, by kernel_rfl⟩)
theorem ty56 : TyOk Try.prog 56 ⟨.other, 1, 8, []⟩ := tyOk_mk Try.underlying56 (by kernel_rfl) rfl (rfl) (by kernel_rfl) (Or.inl rfl)
theorem ty57 : TyOk Try.prog 57 ⟨.other, 1, 8, []⟩ := tyOk_mk Try.underlying57 (by kernel_rfl) rfl (rfl) (by kernel_rfl) (Or.inl rfl)
theorem ty59 : TyOk Try.prog 59 ⟨.other, 1, 8, []⟩ := tyOk_mk Try.underlying59 (by kernel_rfl) rfl (rfl) (by kernel_rfl) (Or.inl rfl)
theorem ty60 : TyOk Try.prog 60 ⟨.other, 1, 8, []⟩ := tyOk_mk Try.underlying60 (by kernel_rfl) rfl (rfl) (by kernel_rfl) (Or.inl rfl)
theorem ty61 : TyOk Try.prog 61 ⟨.other, 1, 8, []⟩ := tyOk_mk Try.underlying61 (by kernel_rfl) rfl (rfl) (by kernel_rfl) (Or.inl rfl)
theorem ty62 : TyOk Try.prog 62 ⟨.other, 1, 8, []⟩ := tyOk_mk Try.underlying62 (by kernel_rfl) rfl (rfl) (by kernel_rfl) (Or.inl rfl)
theorem ty63 : TyOk Try.prog 63 ⟨.other, 1, 8, []⟩ := tyOk_mk Try.underlying63 (by kernel_rfl) rfl (rfl) (by kernel_rfl) (Or.inl rfl)
theorem ty64 : TyOk Try.prog 64 ⟨.other, 1, 8, []⟩ := tyOk_mk Try.underlying64 (by kernel_rfl) rfl (rfl) (by kernel_rfl) (Or.inl rfl)
theorem ty65 : TyOk Try.prog 65 ⟨.other, 1, 8, []⟩ := tyOk_mk Try.underlying65 (by kernel_rfl) rfl (rfl) (by kernel_rfl) (Or.inl rfl)
theorem ty66 : TyOk Try.prog 66 ⟨.other, 1, 8, []⟩ := tyOk_mk Try.underlying66 (by kernel_rfl) rfl (rfl) (by kernel_rfl) (Or.inl rfl)
theorem ty67 : TyOk Try.prog 67 ⟨.other, 1, 8, []⟩ := tyOk_mk Try.underlying67 (by kernel_rfl) rfl (rfl) (by kernel_rfl) (Or.inl rfl)
theorem ty68 : TyOk Try.prog 68 ⟨.other, 1, 8, []⟩ := tyOk_mk Try.underlying68 (by kernel_rfl) rfl (rfl) (by kernel_rfl) (Or.inl rfl)
theorem ty69 : TyOk Try.prog 69 ⟨.other, 1, 8, []⟩ := tyOk_mk Try.underlying69 (by kernel_rfl) rfl (rfl) (by kernel_rfl) (Or.inl rfl)
theorem ty70 : TyOk Try.prog 70 ⟨.other, 1, 8, []⟩ := tyOk_mk Try.underlying70 (by kernel_rfl) rfl (rfl) (by kernel_rfl) (Or.inl rfl)
theorem ty71 : TyOk Try.prog 71 ⟨.other, 1, 8, []⟩ := tyOk_mk Try.underlying71 (by kernel_rfl) rfl (rfl) (by kernel_rfl) (Or.inl rfl)
theorem ty72 : TyOk Try.prog 72 ⟨.other, 1, 8, []⟩ := tyOk_mk Try.underlying72 (by kernel_rfl) rfl (rfl) (by kernel_rfl) (Or.inl rfl)
theorem ty73 : TyOk Try.prog 73 ⟨.other, 1, 8, []⟩ := tyOk_mk Try.underlying73 (by kernel_rfl) rfl (rfl) (by kernel_rfl) (Or.inl rfl)
theorem ty74 : TyOk Try.prog 74 ⟨.other, 1, 8, []⟩ := tyOk_mk Try.underlying74 (by kernel_rfl) rfl (rfl) (by kernel_rfl) (Or.inl rfl)
theorem ty75 : TyOk Try.prog 75 ⟨.arr 8 39, 8, 32, [.int .u32 0, .int .u32 0, .int .u32 0, .int .u32 0, .int .u32 0, .int .u32 0, .int .u32 0, .int .u32 0]⟩ := tyOk_mk Try.underlying75 (by kernel_rfl) rfl (rfl) (by kernel_rfl) (Or.inr ⟨by kernel_rfl, by kernel_rfl⟩)
theorem ty76 : TyOk Try.prog 76 ⟨.other, 1, 8, []⟩ := tyOk_mk Try.underlying76 (by kernel_rfl) rfl (rfl) (by kernel_rfl) (Or.inl rfl)
theorem ty77 : TyOk Try.prog 77 ⟨.other, 1, 8, []⟩ := tyOk_mk Try.underlying77 (by kernel_rfl) rfl (rfl) (by kernel_rfl) (Or.inl rfl)
theorem ty78 : TyOk Try.prog 78 ⟨.other, 1, 8, []⟩ := tyOk_mk Try.underlying78 (by kernel_rfl) rfl (rfl) (by kernel_rfl) (Or.inl rfl)
theorem ty79 : TyOk Try.prog 79 ⟨.other, 1, 8, []⟩ := tyOk_mk Try.underlying79 (by kernel_rfl) rfl (rfl) (by kernel_rfl) (Or.inl rfl)
theorem ty80 : TyOk Try.prog 80 ⟨.other, 1, 8, []⟩ := tyOk_mk Try.underlying80 (by kernel_rfl) rfl (rfl) (by kernel_rfl) (Or.inl rfl)
theorem ty81 : TyOk Try.prog 81 ⟨.other, 1, 8, []⟩ := tyOk_mk Try.underlying81 (by kernel_rfl) rfl (rfl) (by kernel_rfl) (Or.inl rfl)
theorem ty82 : TyOk Try.prog 82 ⟨.other, 1, 8, []⟩ := tyOk_mk Try.underlying82 (by kernel_rfl) rfl (rfl) (by kernel_rfl) (Or.inl rfl)
theorem ty83 : TyOk Try.prog 83 ⟨.other, 1, 8, []⟩ := tyOk_mk Try.underlying83 (by kernel_rfl) rfl (rfl) (by kernel_rfl) (Or.inl rfl)
theorem ty84 : TyOk Try.prog 84 ⟨.other, 1, 8, []⟩ := tyOk_mk Try.underlying84 (by kernel_rfl) rfl (rfl) (by kernel_rfl) (Or.inl rfl)
theorem ty86 : TyOk Try.prog 86 ⟨.other, 1, 8, []⟩ := tyOk_mk Try.underlying86 (by kernel_rfl) rfl (rfl) (by kernel_rfl) (Or.inl rfl)
theorem ty87 : TyOk Try.prog 87 ⟨.other, 1, 8, []⟩ := tyOk_mk Try.underlying87 (by kernel_rfl) rfl (rfl) (by kernel_rfl) (Or.inl rfl)
theorem ty88 : TyOk Try.prog 88 ⟨.int .u64, 1, 8, [.int .u64 0]⟩ := tyOk_mk Try.underlying88 (by kernel_rfl) rfl (rfl) (by kernel_rfl) (Or.inr ⟨by kernel_rfl, by kernel_rfl⟩)
theorem ty89 : TyOk Try.prog 89 ⟨.struct [(0, 27), (1, 3), (2, 3), (3, 4)], 4, 48, [.nil, .int .i64 0, .int .i64 0, .bool false]⟩ := tyOk_mk Try.underlying89 (by kernel_rfl) rfl (⟨_, rfl, rfl, by kernel_rfl⟩) (by kernel_rfl) (Or.inr ⟨by kernel_rfl, by kernel_rfl⟩)
theorem ty90 : TyOk Try.prog 90 ⟨.struct [(0, 27), (1, 3), (2, 3), (3, 4)], 4, 48, [.nil, .int .i64 0, .int .i64 0, .bool false]⟩ := tyOk_mk Try.underlying90 (by kernel_rfl) rfl (⟨_, rfl, rfl, by kernel_rfl⟩) (by kernel_rfl) (Or.inr ⟨by kernel_rfl, by kernel_rfl⟩)
theorem ty91 : TyOk Try.prog 91 ⟨.other, 1, 8, []⟩ := tyOk_mk Try.underlying91 (by kernel_rfl) rfl (rfl) (by kernel_rfl) (Or.inl rfl)
theorem ty92 : TyOk Try.prog 92 ⟨.other, 1, 8, []⟩ := tyOk_mk Try.underlying92 (by kernel_rfl) rfl (rfl) (by kernel_rfl) (Or.inl rfl)
theorem ty93 : TyOk Try.prog 93 ⟨.other, 1, 8, []⟩ := tyOk_mk Try.underlying93 (by kernel_rfl) rfl (rfl) (by kernel_rfl) (Or.inl rfl)
theorem ty94 : TyOk Try.prog 94 ⟨.other, 1, 8, []⟩ := tyOk_mk Try.underlying94 (by kernel_rfl) rfl (rfl) (by kernel_rfl) (Or.inl rfl)
theorem ty95 : TyOk Try.prog 95 ⟨.other, 1, 8, []⟩ := tyOk_mk Try.underlying95 (by kernel_rfl) rfl (rfl) (by kernel_rfl) (Or.inl rfl)
theorem ty96 : TyOk Try.prog 96 ⟨.other, 1, 8, []⟩ := tyOk_mk Try.underlying96 (by kernel_rfl) rfl (rfl) (by kernel_rfl) (Or.inl rfl)
theorem ty97 : TyOk Try.prog 97 ⟨.other, 1, 8, []⟩ := tyOk_mk Try.underlying97 (by kernel_rfl) rfl (rfl) (by kernel_rfl) (Or.inl rfl)
theorem ty98 : TyOk Try.prog 98 ⟨.other, 1, 8, []⟩ := tyOk_mk Try.underlying98 (by kernel_rfl) rfl (rfl) (by kernel_rfl) (Or.inl rfl)
theorem ty99 : TyOk Try.prog 99 ⟨.int .u64, 1, 8, [.int .u64 0]⟩ := tyOk_mk Try.underlying99 (by kernel_rfl) rfl (rfl) (by kernel_rfl) (Or.inr ⟨by kernel_rfl, by kernel_rfl⟩)
theorem ty100 : TyOk Try.prog 100 ⟨.other, 1, 8, []⟩ := tyOk_mk Try.underlying100 (by kernel_rfl) rfl (rfl) (by kernel_rfl) (Or.inl rfl)
theorem ty101 : TyOk Try.prog 101 ⟨.arr 4 88, 4, 32, [.int .u64 0, .int .u64 0, .int .u64 0, .int .u64 0]⟩ := tyOk_mk Try.underlying101 (by kernel_rfl) rfl (rfl) (by kernel_rfl) (Or.inr ⟨by kernel_rfl, by kernel_rfl⟩)
theorem ty102 : TyOk Try.prog 102 ⟨.arr 4 88, 4, 32, [.int .u64 0, .int .u64 0, .int .u64 0, .int .u64 0]⟩ := tyOk_mk Try.underlying102 (by kernel_rfl) rfl (rfl) (by kernel_rfl) (Or.inr ⟨by kernel_rfl, by kernel_rfl⟩)
theorem ty104 : TyOk Try.prog 104 ⟨.other, 1, 8, []⟩ := tyOk_mk Try.underlying104 (by kernel_rfl) rfl (rfl) (by kernel_rfl) (Or.inl rfl)
theorem ty105 : TyOk Try.prog 105 ⟨.other, 1, 8, []⟩ := tyOk_mk Try.underlying105 (by kernel_rfl) rfl (rfl) (by kernel_rfl) (Or.inl rfl)
theorem ty106 : TyOk Try.prog 106 ⟨.other, 1, 8, []⟩ := tyOk_mk Try.underlying106 (by kernel_rfl) rfl (rfl) (by kernel_rfl) (Or.inl rfl)
theorem ty107 : TyOk Try.prog 107 ⟨.other, 1, 8, []⟩ := tyOk_mk Try.underlying107 (by kernel_rfl) rfl (rfl) (by kernel_rfl) (Or.inl rfl)
theorem ty108 : TyOk Try.prog 108 ⟨.other, 1, 8, []⟩ := tyOk_mk Try.underlying108 (by kernel_rfl) rfl (rfl) (by kernel_rfl) (Or.inl rfl)
theorem ty109 : TyOk Try.prog 109 ⟨.other, 1, 8, []⟩ := tyOk_mk Try.underlying109 (by kernel_rfl) rfl (rfl) (by kernel_rfl) (Or.inl rfl)
theorem ty110 : TyOk Try.prog 110 ⟨.other, 1, 8, []⟩ := tyOk_mk Try.underlying110 (by kernel_rfl) rfl (rfl) (by kernel_rfl) (Or.inl rfl)
theorem ty113 : TyOk Try.prog 113 ⟨.arr 0 16, 0, 0, []⟩ := tyOk_mk Try.underlying113 (by kernel_rfl) rfl (rfl) (by kernel_rfl) (Or.inl rfl)
theorem ty116 : TyOk Try.prog 116 ⟨.int .u8, 1, 1, [.int .u8 0]⟩ := tyOk_mk Try.underlying116 (by kernel_rfl) rfl (rfl) (by kernel_rfl) (Or.inr ⟨by kernel_rfl, by kernel_rfl⟩)
theorem ty117 : TyOk Try.prog 117 ⟨.int .u8, 1, 1, [.int .u8 0]⟩ := tyOk_mk Try.underlying117 (by kernel_rfl) rfl (rfl) (by kernel_rfl) (Or.inr ⟨by kernel_rfl, by kernel_rfl⟩)
theorem ty118 : TyOk Try.prog 118 ⟨.other, 1, 8, []⟩ := tyOk_mk Try.underlying118 (by kernel_rfl) rfl (rfl) (by kernel_rfl) (Or.inl rfl)
theorem ty119 : TyOk Try.prog 119 ⟨.ptr 5, 1, 8, [.nilp]⟩ := tyOk_mk Try.underlying119 (by kernel_rfl) rfl (rfl) (by kernel_rfl) (Or.inr ⟨by kernel_rfl, by kernel_rfl⟩)
theorem ty120 : TyOk Try.prog 120 ⟨.int .i32, 1, 4, [.int .i32 0]⟩ := tyOk_mk Try.underlying120 (by kernel_rfl) rfl (rfl) (by kernel_rfl) (Or.inr ⟨by kernel_rfl, by kernel_rfl⟩)
theorem ty121 : TyOk Try.prog 121 ⟨.int .i32, 1, 4, [.int .i32 0]⟩ := tyOk_mk Try.underlying121 (by kernel_rfl) rfl (rfl) (by kernel_rfl) (Or.inr ⟨by kernel_rfl, by kernel_rfl⟩)
theorem ty124 : TyOk Try.prog 124 ⟨.other, 1, 8, []⟩ := tyOk_mk Try.underlying124 (by kernel_rfl) rfl (rfl) (by kernel_rfl) (Or.inl rfl)
def T : TTab := [
  (1, ⟨.other, 1, 8, []⟩),
  (2, ⟨.int .i64, 1, 8, [.int .i64 0]⟩),
  (3, ⟨.int .i64, 1, 8, [.int .i64 0]⟩),
  (4, ⟨.bool, 1, 1, [.bool false]⟩),
  (5, ⟨.int .u8, 1, 1, [.int .u8 0]⟩),
  (6, ⟨.int .u8, 1, 1, [.int .u8 0]⟩),
  (7, ⟨.struct [(0, 2), (1, 3), (2, 4), (3, 6)], 4, 24, [.int .i64 0, .int .i64 0, .bool false, .int .u8 0]⟩),
  (8, ⟨.struct [(0, 2), (1, 3), (2, 4), (3, 6)], 4, 24, [.int .i64 0, .int .i64 0, .bool false, .int .u8 0]⟩),
  (9, ⟨.str, 1, 16, [.str []]⟩),
  (10, ⟨.str, 1, 16, [.str []]⟩),
  (11, ⟨.str, 1, 16, [.str []]⟩),
  (12, ⟨.int .u64, 1, 8, [.int .u64 0]⟩),
  (15, ⟨.ptr 112, 1, 8, [.nilp]⟩),
  (16, ⟨.ptr 115, 1, 8, [.nilp]⟩),
  (17, ⟨.ptr 123, 1, 8, [.nilp]⟩),
  (20, ⟨.other, 1, 16, []⟩),
  (21, ⟨.int .i32, 1, 4, [.int .i32 0]⟩),
  (22, ⟨.slice 27, 1, 24, [.nil]⟩),
  (23, ⟨.slice 3, 1, 24, [.nil]⟩),
  (24, ⟨.other, 1, 8, []⟩),
  (25, ⟨.slice 29, 1, 24, [.nil]⟩),
  (26, ⟨.other, 1, 8, []⟩),
  (27, ⟨.slice 5, 1, 24, [.nil]⟩),
  (28, ⟨.struct [(0, 3), (1, 27)], 2, 32, [.int .i64 0, .nil]⟩),
  (29, ⟨.struct [(0, 3), (1, 27)], 2, 32, [.int .i64 0, .nil]⟩),
  (31, ⟨.other, 1, 8, []⟩),
  (32, ⟨.other, 1, 8, []⟩),
  (33, ⟨.other, 1, 8, []⟩),
  (34, ⟨.other, 1, 8, []⟩),
  (35, ⟨.other, 1, 8, []⟩),
  (36, ⟨.other, 1, 8, []⟩),
  (37, ⟨.other, 1, 8, []⟩),
  (38, ⟨.other, 1, 8, []⟩),
  (39, ⟨.int .u32, 1, 4, [.int .u32 0]⟩),
  (40, ⟨.arr 8 39, 8, 32, [.int .u32 0, .int .u32 0, .int .u32 0, .int .u32 0, .int .u32 0, .int .u32 0, .int .u32 0, .int .u32 0]⟩),
  (41, ⟨.arr 64 39, 64, 256, [.int .u32 0, .int .u32 0, .int .u32 0, .int .u32 0, .int .u32 0, .int .u32 0, .int .u32 0, .int .u32 0, .int .u32 0, .int .u32 0, .int .u32 0, .int .u32 0, .int .u32 0, .int .u32 0, .int .u32 0, .int .u32 0, .int .u32 0, .int .u32 0, .int .u32 0, .int .u32 0, .int .u32 0, .int .u32 0, .int .u32 0, .int .u32 0, .int .u32 0, .int .u32 0, .int .u32 0, .int .u32 0, .int .u32 0, .int .u32 0, .int .u32 0, .int .u32 0, .int .u32 0, .int .u32 0, .int .u32 0, .int .u32 0, .int .u32 0, .int .u32 0, .int .u32 0, .int .u32 0, .int .u32 0, .int .u32 0, .int .u32 0, .int .u32 0, .int .u32 0, .int .u32 0, .int .u32 0, .int .u32 0, .int .u32 0, .int .u32 0, .int .u32 0, .int .u32 0, .int .u32 0, .int .u32 0, .int .u32 0, .int .u32 0, .int .u32 0, .int .u32 0, .int .u32 0, .int .u32 0, .int .u32 0, .int .u32 0, .int .u32 0, .int .u32 0]⟩),
  (43, ⟨.other, 1, 8, []⟩),
  (44, ⟨.other, 1, 8, []⟩),
  (45, ⟨.other, 1, 8, []⟩),
  (46, ⟨.other, 1, 8, []⟩),
  (47, ⟨.int .i64, 1, 8, [.int .i64 0]⟩),
  (49, ⟨.other, 1, 8, []⟩),
  (51, ⟨.other, 1, 8, []⟩),
  (52, ⟨.other, 1, 8, []⟩),
  (53, ⟨.other, 1, 8, []⟩),
  (54, ⟨.other, 1, 8, []⟩),
  (55, ⟨.ptr 90, 1, 8, [.nilp]⟩),
  (56, ⟨.other, 1, 8, []⟩),
  (57, ⟨.other, 1, 8, []⟩),
  (59, ⟨.other, 1, 8, []⟩),
  (60, ⟨.other, 1, 8, []⟩),
  (61, ⟨.other, 1, 8, []⟩),
  (62, ⟨.other, 1, 8, []⟩),
  (63, ⟨.other, 1, 8, []⟩),
  (64, ⟨.other, 1, 8, []⟩),
  (65, ⟨.other, 1, 8, []⟩),
  (66, ⟨.other, 1, 8, []⟩),
  (67, ⟨.other, 1, 8, []⟩),
  (68, ⟨.other, 1, 8, []⟩),
  (69, ⟨.other, 1, 8, []⟩),
  (70, ⟨.other, 1, 8, []⟩),
  (71, ⟨.other, 1, 8, []⟩),
  (72, ⟨.other, 1, 8, []⟩),
  (73, ⟨.other, 1, 8, []⟩),
  (74, ⟨.other, 1, 8, []⟩),
  (75, ⟨.arr 8 39, 8, 32, [.int .u32 0, .int .u32 0, .int .u32 0, .int .u32 0, .int .u32 0, .int .u32 0, .int .u32 0, .int .u32 0]⟩),
  (76, ⟨.other, 1, 8, []⟩),
  (77, ⟨.other, 1, 8, []⟩),
  (78, ⟨.other, 1, 8, []⟩),
  (79, ⟨.other, 1, 8, []⟩),
  (80, ⟨.other, 1, 8, []⟩),
  (81, ⟨.other, 1, 8, []⟩),
  (82, ⟨.other, 1, 8, []⟩),
  (83, ⟨.other, 1, 8, []⟩),
  (84, ⟨.other, 1, 8, []⟩),
  (86, ⟨.other, 1, 8, []⟩),
  (87, ⟨.other, 1, 8, []⟩),
  (88, ⟨.int .u64, 1, 8, [.int .u64 0]⟩),
  (89, ⟨.struct [(0, 27), (1, 3), (2, 3), (3, 4)], 4, 48, [.nil, .int .i64 0, .int .i64 0, .bool false]⟩),
  (90, ⟨.struct [(0, 27), (1, 3), (2, 3), (3, 4)], 4, 48, [.nil, .int .i64 0, .int .i64 0, .bool false]⟩),
  (91, ⟨.other, 1, 8, []⟩),
  (92, ⟨.other, 1, 8, []⟩),
  (93, ⟨.other, 1, 8, []⟩),
  (94, ⟨.other, 1, 8, []⟩),
  (95, ⟨.other, 1, 8, []⟩),
  (96, ⟨.other, 1, 8, []⟩),
  (97, ⟨.other, 1, 8, []⟩),
  (98, ⟨.other, 1, 8, []⟩),
  (99, ⟨.int .u64, 1, 8, [.int .u64 0]⟩),
  (100, ⟨.other, 1, 8, []⟩),
  (101, ⟨.arr 4 88, 4, 32, [.int .u64 0, .int .u64 0, .int .u64 0, .int .u64 0]⟩),
  (102, ⟨.arr 4 88, 4, 32, [.int .u64 0, .int .u64 0, .int .u64 0, .int .u64 0]⟩),
  (104, ⟨.other, 1, 8, []⟩),
  (105, ⟨.other, 1, 8, []⟩),
  (106, ⟨.other, 1, 8, []⟩),
  (107, ⟨.other, 1, 8, []⟩),
  (108, ⟨.other, 1, 8, []⟩),
  (109, ⟨.other, 1, 8, []⟩),
  (110, ⟨.other, 1, 8, []⟩),
  (113, ⟨.arr 0 16, 0, 0, []⟩),
  (116, ⟨.int .u8, 1, 1, [.int .u8 0]⟩),
  (117, ⟨.int .u8, 1, 1, [.int .u8 0]⟩),
  (118, ⟨.other, 1, 8, []⟩),
  (119, ⟨.ptr 5, 1, 8, [.nilp]⟩),
  (120, ⟨.int .i32, 1, 4, [.int .i32 0]⟩),
  (121, ⟨.int .i32, 1, 4, [.int .i32 0]⟩),
  (124, ⟨.other, 1, 8, []⟩)]
theorem tOk : TOk Try.prog T := by
  refine TOk.cons ty1 ?_
  refine TOk.cons ty2 ?_
  refine TOk.cons ty3 ?_
  refine TOk.cons ty4 ?_
  refine TOk.cons ty5 ?_
  refine TOk.cons ty6 ?_
  refine TOk.cons ty7 ?_
  refine TOk.cons ty8 ?_
  refine TOk.cons ty9 ?_
  refine TOk.cons ty10 ?_
  refine TOk.cons ty11 ?_
  refine TOk.cons ty12 ?_
  refine TOk.cons ty15 ?_
  refine TOk.cons ty16 ?_
  refine TOk.cons ty17 ?_
  refine TOk.cons ty20 ?_
  refine TOk.cons ty21 ?_
  refine TOk.cons ty22 ?_
  refine TOk.cons ty23 ?_
  refine TOk.cons ty24 ?_
  refine TOk.cons ty25 ?_
  refine TOk.cons ty26 ?_
  refine TOk.cons ty27 ?_
  refine TOk.cons ty28 ?_
  refine TOk.cons ty29 ?_
  refine TOk.cons ty31 ?_
  refine TOk.cons ty32 ?_
  refine TOk.cons ty33 ?_
  refine TOk.cons ty34 ?_
  refine TOk.cons ty35 ?_
  refine TOk.cons ty36 ?_
  refine TOk.cons ty37 ?_
  refine TOk.cons ty38 ?_
  refine TOk.cons ty39 ?_
  refine TOk.cons ty40 ?_
  refine TOk.cons ty41 ?_
  refine TOk.cons ty43 ?_
  refine TOk.cons ty44 ?_
  refine TOk.cons ty45 ?_
  refine TOk.cons ty46 ?_
  refine TOk.cons ty47 ?_
  refine TOk.cons ty49 ?_
  refine TOk.cons ty51 ?_
  refine TOk.cons ty52 ?_
  refine TOk.cons ty53 ?_
  refine TOk.cons ty54 ?_
  refine TOk.cons ty55 ?_
  refine TOk.cons ty56 ?_
  refine TOk.cons ty57 ?_
  refine TOk.cons ty59 ?_
  refine TOk.cons ty60 ?_
  refine TOk.cons ty61 ?_
  refine TOk.cons ty62 ?_
  refine TOk.cons ty63 ?_
  refine TOk.cons ty64 ?_
  refine TOk.cons ty65 ?_
  refine TOk.cons ty66 ?_
  refine TOk.cons ty67 ?_
  refine TOk.cons ty68 ?_
  refine TOk.cons ty69 ?_
  refine TOk.cons ty70 ?_
  refine TOk.cons ty71 ?_
  refine TOk.cons ty72 ?_
  refine TOk.cons ty73 ?_
  refine TOk.cons ty74 ?_
  refine TOk.cons ty75 ?_
  refine TOk.cons ty76 ?_
  refine TOk.cons ty77 ?_
  refine TOk.cons ty78 ?_
  refine TOk.cons ty79 ?_
  refine TOk.cons ty80 ?_
  refine TOk.cons ty81 ?_
  refine TOk.cons ty82 ?_
  refine TOk.cons ty83 ?_
  refine TOk.cons ty84 ?_
  refine TOk.cons ty86 ?_
  refine TOk.cons ty87 ?_
  refine TOk.cons ty88 ?_
  refine TOk.cons ty89 ?_
  refine TOk.cons ty90 ?_
  refine TOk.cons ty91 ?_
  refine TOk.cons ty92 ?_
  refine TOk.cons ty93 ?_
  refine TOk.cons ty94 ?_
  refine TOk.cons ty95 ?_
  refine TOk.cons ty96 ?_
  refine TOk.cons ty97 ?_
  refine TOk.cons ty98 ?_
  refine TOk.cons ty99 ?_
  refine TOk.cons ty100 ?_
  refine TOk.cons ty101 ?_
  refine TOk.cons ty102 ?_
  refine TOk.cons ty104 ?_
  refine TOk.cons ty105 ?_
  refine TOk.cons ty106 ?_
  refine TOk.cons ty107 ?_
  refine TOk.cons ty108 ?_
  refine TOk.cons ty109 ?_
  refine TOk.cons ty110 ?_
  refine TOk.cons ty113 ?_
  refine TOk.cons ty116 ?_
  refine TOk.cons ty117 ?_
  refine TOk.cons ty118 ?_
  refine TOk.cons ty119 ?_
  refine TOk.cons ty120 ?_
  refine TOk.cons ty121 ?_
  refine TOk.cons ty124 ?_
  exact TOk.nil _
section
variable {f N : Nat} {m : Md} {ops : Array Oper} {o : Oper} {rest : List Oper} {k : List Item} {g : Regs} {h h' : Hp} {Post : AVal → Hp → Prop} {d : Nat} {v : AVal} {c : Prop}
theorem pA (hk : AReg Try.prog f N m ops rest k ((d, v) :: g) h Post) (hp : stepPure T N g o = some (d, v, c) := by exact rfl) (hg : guardB ops g o = some true := by exact rfl) (hc : c := by exact trivial) : AReg Try.prog f N m ops (o :: rest) k g h Post := ar_pure tOk hp hg rfl hc hk
theorem pB (hk : AReg Try.prog f N m ops rest k ((d, v) :: g) h Post) (hp : stepLoad T N g h o = some (d, v, c) := by exact rfl) (hg : guardB ops g o = some true := by exact rfl) (hc : c := by exact trivial) : AReg Try.prog f N m ops (o :: rest) k g h Post := ar_load tOk hp hg rfl hc hk
end
end Go.Proofs.Ytopfpkmdkcjjlaa

