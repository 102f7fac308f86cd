/-
  WALKS: transactions read by the reference; octets; the whole by kinds. (Printed by gen.py out of w_txs3.py.)
-/
import Derived.Test.YtancdgbclbkpkaaTxs2
namespace Go.Proofs.Ytancdgbclbkpkaa
open Go
set_option maxRecDepth 20000
set_option linter.unusedVariables false
set_option linter.unusedSimpArgs false
theorem kcase (k : Int) : k = 1 ∨ k = 2 ∨ k = 4 ∨ k = 5 ∨ k = 6 ∨ (k < 1 ∨ k = 3 ∨ k > 6) := by omega
theorem pTx_1 (w : W) {t : TxV} (hk : t.k = 1) : pTx w t = wnum (pHd w t) t.inv.t := by rw [pTx, if_pos (by omega)]
theorem pTx_2 (w : W) {t : TxV} (hk : t.k = 2) : pTx w t = wnum (pHd w t) t.inv.r := by rw [pTx, if_neg (by omega), if_pos (by omega)]
theorem pTx_4 (w : W) {t : TxV} (hk : t.k = 4) : pTx w t = pVar (pInv (pHd w t) t.inv) t.var := by rw [pTx, if_neg (by omega), if_neg (by omega), if_pos (by omega)]
theorem pTx_5 (w : W) {t : TxV} (hk : t.k = 5) : pTx w t = wtxt (wwid (pVar (pInv (pHd w t) t.inv) t.var) t.g0 t.g1 t.g2 t.g3) t.sig := by rw [pTx, if_neg (by omega), if_neg (by omega), if_neg (by omega), if_pos (by omega)]
theorem pTx_6 (w : W) {t : TxV} (hk : t.k = 6) : pTx w t = wtxt (wwid (pVar (pInv (pHd w t) t.inv) t.var) t.g0 t.g1 t.g2 t.g3) t.sig := by rw [pTx, if_neg (by omega), if_neg (by omega), if_neg (by omega), if_pos (by omega)]
theorem pTx_0 (w : W) {t : TxV} (hk : t.k < 1 ∨ t.k = 3 ∨ t.k > 6) : pTx w t = pHd w t := by rw [pTx, if_neg (by omega), if_neg (by omega), if_neg (by omega), if_neg (by omega)]
theorem w_xPut (w : W) (sl : Option (List UInt8)) (tl : List RVal) (hr : oRel w sl tl) (t : TxV) (ht : t.ok) : Spec Try.prog 68 [.ptr 0 0, txA t] (obP sl tl) (fun u h' => ∃ sl' tl', OQ (pTx w t) u sl' tl' ∧ ObIs sl' tl' h') := by
  rcases kcase t.k with h | h | h | h | h | h
  · rw [pTx_1 w h]; exact w_xPut1 w sl tl hr t ht h
  · rw [pTx_2 w h]; exact w_xPut2 w sl tl hr t ht h
  · rw [pTx_4 w h]; exact w_xPut4 w sl tl hr t ht h
  · rw [pTx_5 w h]; exact w_xPut5 w sl tl hr t ht h
  · rw [pTx_6 w h]; exact w_xPut6 w sl tl hr t ht h
  · rw [pTx_0 w h]; exact w_xPut0 w sl tl hr t ht h
theorem w_rPutTx (w : W) (hw : wok w) (t : TxV) (ht : t.ok) : Pur Try.prog 38 [wV w, txA t] (wV (pTx w t)) := by
  rcases kcase t.k with h | h | h | h | h | h
  · rw [pTx_1 w h]; exact w_rPut1 w hw t ht h
  · rw [pTx_2 w h]; exact w_rPut2 w hw t ht h
  · rw [pTx_4 w h]; exact w_rPut4 w hw t ht h
  · rw [pTx_5 w h]; exact w_rPut5 w hw t ht h
  · rw [pTx_6 w h]; exact w_rPut6 w hw t ht h
  · rw [pTx_0 w h]; exact w_rPut0 w hw t ht h
end Go.Proofs.Ytancdgbclbkpkaa

