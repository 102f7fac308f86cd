/-
  WALKS: the words of the rounds; what stands behind a text. (Printed by gen.py out of w_hkey.py.)
-/
import Derived.Test.YtopfpkmdkcjjlaaHSch
import Derived.Test.YtopfpkmdkcjjlaaBlob
import Derived.Test.YtopfpkmdkcjjlaaClone
namespace Go.Proofs.Ytopfpkmdkcjjlaa
open Go
set_option maxRecDepth 20000
set_option linter.unusedVariables false
set_option linter.unusedSimpArgs false
def keyT : List Int := [1116352408, 1899447441, 3049323471, 3921009573, 961987163, 1508970993, 2453635748, 2870763221, 3624381080, 310598401, 607225278, 1426881987, 1925078388, 2162078206, 2614888103, 3248222580, 3835390401, 4022224774, 264347078, 604807628, 770255983, 1249150122, 1555081692, 1996064986, 2554220882, 2821834349, 2952996808, 3210313671, 3336571891, 3584528711, 113926993, 338241895, 666307205, 773529912, 1294757372, 1396182291, 1695183700, 1986661051, 2177026350, 2456956037, 2730485921, 2820302411, 3259730800, 3345764771, 3516065817, 3600352804, 4094571909, 275423344, 430227734, 506948616, 659060556, 883997877, 958139571, 1322822218, 1537002063, 1747873779, 1955562222, 2024104815, 2227730452, 2361852424, 2428436474, 2756734187, 3204031479, 3329325298]
def keyF (i : Nat) : Int := keyT.getD i 0
theorem w_keys  : Pur Try.prog 48 [] (a64 keyF) := by
  refine spec_of_go (N := 2) Try.func48 rfl (by decide) rfl rfl ?_
  refine zB ?_
  refine ar_new tOk rfl rfl rfl ?_ ?_
  · simp
  refine zC ?_
  refine ar_pure (d := 1) (v := a64 keyF) (c := u64L (fun _ => 0) ≠ []) tOk (by kernel_rfl) rfl rfl (by simp [u64L, fnL]) ?_
  refine ar_store tOk (stepStore_arr (ys := u64L keyF) rfl rfl rfl rfl rfl rfl (by simp [u64L, fnL]) (by simp [u64L, fnL]) rfl) rfl rfl trivial ?_
  refine ar_nil ?_
  refine ag_ret (v := a64 keyF) (q := True ∧ True) tOk Try.func48 (resultsA_arr rfl rfl rfl rfl (by simp [u64L, fnL])) rfl (by simp) ?_
  rfl
theorem w_table  : Pur Try.prog 56 [] (a64 keyF) := by
  refine spec_of_go (N := 2) Try.func56 rfl (by decide) rfl rfl ?_
  refine zB ?_
  refine ar_new tOk rfl rfl rfl ?_ ?_
  · simp
  refine zC ?_
  refine ar_pure (d := 1) (v := a64 keyF) (c := u64L (fun _ => 0) ≠ []) tOk (by kernel_rfl) rfl rfl (by simp [u64L, fnL]) ?_
  refine ar_store tOk (stepStore_arr (ys := u64L keyF) rfl rfl rfl rfl rfl rfl (by simp [u64L, fnL]) (by simp [u64L, fnL]) rfl) rfl rfl trivial ?_
  refine ar_nil ?_
  refine ag_ret (v := a64 keyF) (q := True ∧ True) tOk Try.func56 (resultsA_arr rfl rfl rfl rfl (by simp [u64L, fnL])) rfl (by simp) ?_
  rfl
theorem w_begin  : Pur Try.prog 47 [] q0.av := by
  refine spec_of_go (N := 2) Try.func47 rfl (by decide) rfl rfl ?_
  refine zB ?_
  refine ar_new tOk rfl rfl rfl ?_ ?_
  · simp
  refine zC ?_
  refine ar_pure tOk rfl rfl rfl ?_ ?_
  · simp
  refine ar_store tOk rfl rfl rfl trivial ?_
  refine ar_nil ?_
  refine ag_ret tOk Try.func47 rfl rfl (by simp) ?_
  rfl
end Go.Proofs.Ytopfpkmdkcjjlaa

