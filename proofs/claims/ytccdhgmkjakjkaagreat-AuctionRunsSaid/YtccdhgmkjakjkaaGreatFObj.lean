/-
  WALKS: fields written, by the program and by the reference: the law FieldWrites. (Printed by gen.py out of w_fwr.py.)
  WALKS: fields on their way, as one object, and the reference's, by the same functions. (Printed by gen.py out of w_fobj.py.)
-/
import Derived.Test.YtccdhgmkjakjkaaGreatFRef
import Derived.Test.YtccdhgmkjakjkaaGreatMB
namespace Go.Proofs.YtccdhgmkjakjkaaGreat
open Go
set_option maxRecDepth 20000
set_option linter.unusedVariables false
set_option linter.unusedSimpArgs false
def fbytes (f : Fd) : List UInt8 := if f.kd = 0 then numL 6 f.n else if f.kd = 1 then txt f.t else wideL f.x0 f.x1 f.x2 f.x3
def fcode (f : Fd) : Int := if f.kd = 0 then (if badN f.n then 4 else 0) else if f.kd = 1 then (if f.t.length > 1024 then 5 else 0) else 0
def wstep (w : List UInt8 × Int) (f : Fd) : List UInt8 × Int := wput w (if fcode f ≠ 0 then [] else fbytes f) (fcode f)
def wf (L : List Fd) (i : Nat) : List UInt8 × Int := (L.take i).foldl wstep ([], 0)
theorem w_NumEAN (n e : Int) (he : e ≠ 0) : Spec Tryz.prog 71 [.ptr 0 0, .r (.int .i64 n)] (oN e true) (fun v h' => v = .tuple [] ∧ h' = oN e true) := by
 by_cases hn : n < 0 ∨ n > 1099511627776
 ·exact w_NumENr n e he hn
 ·exact w_NumEN n e he hn
theorem w_NumEAB (s : List UInt8) (n e : Int) (he : e ≠ 0) : Spec Tryz.prog 71 [.ptr 0 0, .r (.int .i64 n)] (oB s e true) (fun v h' => v = .tuple [] ∧ h' = oB s e true) := by
 by_cases hn : n < 0 ∨ n > 1099511627776
 ·exact w_NumEBr s n e he hn
 ·exact w_NumEB s n e he hn
theorem w_TextEAN (t : List UInt8) (ht : t.length ≤ 140737488351232) (e : Int) (he : e ≠ 0) : Spec Tryz.prog 70 [.ptr 0 0, .r (.str t)] (oN e true) (fun v h' => v = .tuple [] ∧ h' = oN e true) := by
 by_cases hn : t.length > 1024
 ·exact w_TextENr t ht e he hn
 ·exact w_TextEN t ht e he hn
theorem w_TextEAB (s t : List UInt8) (ht : t.length ≤ 140737488351232) (e : Int) (he : e ≠ 0) : Spec Tryz.prog 70 [.ptr 0 0, .r (.str t)] (oB s e true) (fun v h' => v = .tuple [] ∧ h' = oB s e true) := by
 by_cases hn : t.length > 1024
 ·exact w_TextEBr s t ht e he hn
 ·exact w_TextEB s t ht e he hn
inductive OR where
 | nil : OR
 | buf (s : List UInt8) : OR
 | errN (e : Int) : OR
 | errB (s : List UInt8) (e : Int) : OR
def OR.hp : OR → Hp
 | .nil => oN 0 true
 | .buf s => oB s 0 true
 | .errN e => oN e true
 | .errB s e => oB s e true
def rel : OR → List UInt8 × Int → Prop
 | .nil, w => w = ([], 0)
 | .buf s, w => w = (s, 0) ∧ s.length ≤ 8192
 | .errN e, w => w = ([], e) ∧ e ≠ 0
 | .errB _ e, w => w = ([], e) ∧ e ≠ 0
section
variable {w : List UInt8 × Int} {f : Fd} {s b : List UInt8} {e : Int}
end
end Go.Proofs.YtccdhgmkjakjkaaGreat
namespace Go.Proofs.YtccdhgmkjakjkaaGreat
open Go
set_option maxRecDepth 20000
set_option linter.unusedVariables false
set_option linter.unusedSimpArgs false
abbrev W := List UInt8 × Int
def wnum (w : W) (n : Int) : W := if badN n then wput w [] 4 else wput w (numL 6 n) 0
def wtxt (w : W) (t : List UInt8) : W := if t.length > 1024 then wput w [] 5 else wput w (txt t) 0
def wwid (w : W) (x0 x1 x2 x3 : Int) : W := wput w (wideL x0 x1 x2 x3) 0
def wok (w : W) : Prop := w.1.length ≤ 8192 ∧ (w.2 ≠ 0 → w.1 = [])
theorem wok0 : wok ([], 0) := ⟨by decide, fun _ => rfl⟩
theorem wok_put {w : W} {b : List UInt8} {e : Int} (h : wok w) : wok (wput w b e) := by
 obtain ⟨h1, h2⟩ := h
 unfold wput
 split
 ·exact ⟨h1, h2⟩
 ·split
  ·exact ⟨by simp, fun _ => rfl⟩
  ·split
   ·exact ⟨by simp, fun _ => rfl⟩
   ·refine ⟨by simp; omega, fun h => absurd rfl h⟩
theorem wok_num {w : W} {n : Int} (h : wok w) : wok (wnum w n) := by unfold wnum; split <;> exact wok_put h
theorem wok_txt {w : W} {t : List UInt8} (h : wok w) : wok (wtxt w t) := by unfold wtxt; split <;> exact wok_put h
theorem wok_wid {w : W} {x0 x1 x2 x3 : Int} (h : wok w) : wok (wwid w x0 x1 x2 x3) := wok_put h
def oRel (w : W) (sl : Option (List UInt8)) (tl : List RVal) : Prop := tl = [.int .i64 w.2, .bool true] ∧ wok w ∧ (w.2 = 0 → match sl with | none => w.1 = [] | some s => w.1 = s)
theorem oRel.ok {w : W} {sl : Option (List UInt8)} {tl : List RVal} (h : oRel w sl tl) : wok w := h.2.1
theorem oRel0 : oRel ([], 0) none [.int .i64 0, .bool true] := ⟨rfl, wok0, fun _ => rfl⟩
def OQ (w : W) : AVal → Option (List UInt8) → List RVal → Prop := fun v sl tl => v = .tuple [] ∧ oRel w sl tl
theorem is_N (e : Int) : ObIs none [.int .i64 e, .bool true] (oN e true) := ⟨1, rfl, fun s h => by cases h⟩
theorem is_B (s : List UInt8) (e : Int) : ObIs (some s) [.int .i64 e, .bool true] (oB s e true) := ⟨1, rfl, fun s' h => by cases h; exact ⟨by decide, rfl⟩⟩
theorem is_C (s : List UInt8) (e : Int) : ObIs (some s) [.int .i64 e, .bool true] (oC s e true) := ⟨2, rfl, fun s' h => by cases h; exact ⟨by decide, rfl⟩⟩
theorem put_cases {P : Program} {n : FuncId} {xs : List AVal} {w : W} {b : List UInt8} {e : Int} {sl : Option (List UInt8)} {tl : List RVal} (hr : oRel w sl tl)
  (hEN : ∀ E, E ≠ 0 → Spec P n (.ptr 0 0 :: xs) (oN E true) (fun v h' => v = .tuple [] ∧ h' = oN E true)) (hEB : ∀ s E, E ≠ 0 → Spec P n (.ptr 0 0 :: xs) (oB s E true) (fun v h' => v = .tuple [] ∧ h' = oB s E true))
  (hRN : e ≠ 0 → Spec P n (.ptr 0 0 :: xs) (oN 0 true) (fun v h' => v = .tuple [] ∧ h' = oN e true)) (hRB : e ≠ 0 → ∀ s, Spec P n (.ptr 0 0 :: xs) (oB s 0 true) (fun v h' => v = .tuple [] ∧ h' = oB s e true))
  (hWN : e = 0 → b.length ≤ 8192 → Spec P n (.ptr 0 0 :: xs) (oN 0 true) (fun v h' => v = .tuple [] ∧ h' = oB b 0 true))
  (hLB : e = 0 → ∀ s, s.length ≤ 8192 → s.length + b.length > 8192 → Spec P n (.ptr 0 0 :: xs) (oB s 0 true) (fun v h' => v = .tuple [] ∧ h' = oB s 5 true))
  (hWB : e = 0 → ∀ s, s.length + b.length ≤ 8192 → Spec P n (.ptr 0 0 :: xs) (oB s 0 true) (fun v h' => v = .tuple [] ∧ h' = oC (s ++ b) 0 true)) (hb8 : e = 0 → b.length ≤ 8192) :
  Spec P n (.ptr 0 0 :: xs) (obP sl tl) (fun v h' => ∃ sl' tl', OQ (wput w b e) v sl' tl' ∧ ObIs sl' tl' h') := by
 obtain ⟨rfl, hw, hs⟩ := hr
 have hwp : wok (wput w b e) := wok_put hw
 obtain ⟨B, E⟩ := w
 by_cases h0 : E = 0
 ·subst h0
  have hs := hs rfl
  by_cases he : e = 0
  ·subst he
   have hb := hb8 rfl
   cases sl with
   | none =>
    obtain rfl : B = [] := hs
    have hv : wput (([], 0) : W) b 0 = (b, 0) := by simp [wput]; omega
    rw [hv] at hwp ⊢
    exact Spec.mono (hWN rfl hb) (fun v h' ⟨h1, h2⟩ => ⟨some b, _, ⟨h1, rfl, hwp, fun _ => rfl⟩, h2 ▸ is_B b 0⟩)
   | some s =>
    obtain rfl : B = s := hs
    by_cases hl : B.length + b.length > 8192
    ·have hv : wput ((B, 0) : W) b 0 = ([], 5) := by simp [wput]; omega
     rw [hv] at hwp ⊢
     exact Spec.mono (hLB rfl B hw.1 hl) (fun v h' ⟨h1, h2⟩ => ⟨some B, _, ⟨h1, rfl, hwp, fun h => absurd h (by decide)⟩, h2 ▸ is_B B 5⟩)
    ·have hv : wput ((B, 0) : W) b 0 = (B ++ b, 0) := by simp [wput]; omega
     rw [hv] at hwp ⊢
     exact Spec.mono (hWB rfl B (by omega)) (fun v h' ⟨h1, h2⟩ => ⟨some (B ++ b), _, ⟨h1, rfl, hwp, fun _ => rfl⟩, h2 ▸ is_C (B ++ b) 0⟩)
  ·have hv : wput ((B, 0) : W) b e = ([], e) := by simp [wput, he]
   rw [hv] at hwp ⊢
   cases sl with
   | none => exact Spec.mono (hRN he) (fun v h' ⟨h1, h2⟩ => ⟨none, _, ⟨h1, rfl, hwp, fun _ => rfl⟩, h2 ▸ is_N e⟩)
   | some s => exact Spec.mono (hRB he s) (fun v h' ⟨h1, h2⟩ => ⟨some s, _, ⟨h1, rfl, hwp, fun h => absurd h he⟩, h2 ▸ is_B s e⟩)
 ·have hv : wput ((B, E) : W) b e = (B, E) := by simp [wput, h0]
  rw [hv]
  cases sl with
  | none => exact Spec.mono (hEN E h0) (fun v h' ⟨h1, h2⟩ => ⟨none, _, ⟨h1, rfl, hw, fun h => absurd h h0⟩, h2 ▸ is_N E⟩)
  | some s => exact Spec.mono (hEB s E h0) (fun v h' ⟨h1, h2⟩ => ⟨some s, _, ⟨h1, rfl, hw, fun h => absurd h h0⟩, h2 ▸ is_B s E⟩)
theorem w_ONum (w : W) (n : Int) (sl : Option (List UInt8)) (tl : List RVal) (hr : oRel w sl tl) : Spec Tryz.prog 71 [.ptr 0 0, .r (.int .i64 n)] (obP sl tl) (fun v h' => ∃ sl' tl', OQ (wnum w n) v sl' tl' ∧ ObIs sl' tl' h') := by
 unfold wnum
 by_cases hn : badN n
 ·rw [if_pos hn]
  exact put_cases hr (fun E he => w_NumEAN n E he) (fun s E he => w_NumEAB s n E he) (fun _ => w_NumRN n hn) (fun _ s => w_NumRB s n hn) (fun h => absurd h (by decide)) (fun h => absurd h (by decide)) (fun h => absurd h (by decide)) (fun h => absurd h (by decide))
 ·rw [if_neg hn]
  exact put_cases hr (fun E he => w_NumEAN n E he) (fun s E he => w_NumEAB s n E he) (fun h => absurd rfl h) (fun h => absurd rfl h) (fun _ _ => w_NumWN n hn) (fun _ s h1 h2 => w_NumLB s n hn h1 (by rw [numL_length] at h2; exact h2)) (fun _ s h1 => w_NumWB s n hn (by rw [numL_length] at h1; exact h1)) (fun _ => by rw [numL_length]; decide)
theorem w_OText (w : W) (t : List UInt8) (ht : t.length ≤ 140737488351232) (sl : Option (List UInt8)) (tl : List RVal) (hr : oRel w sl tl) : Spec Tryz.prog 70 [.ptr 0 0, .r (.str t)] (obP sl tl) (fun v h' => ∃ sl' tl', OQ (wtxt w t) v sl' tl' ∧ ObIs sl' tl' h') := by
 unfold wtxt
 by_cases hn : t.length > 1024
 ·rw [if_pos hn]
  exact put_cases hr (fun E he => w_TextEAN t ht E he) (fun s E he => w_TextEAB s t ht E he) (fun _ => w_TextRN t ht hn) (fun _ s => w_TextRB s t ht hn) (fun h => absurd h (by decide)) (fun h => absurd h (by decide)) (fun h => absurd h (by decide)) (fun h => absurd h (by decide))
 ·rw [if_neg hn]
  exact put_cases hr (fun E he => w_TextEAN t ht E he) (fun s E he => w_TextEAB s t ht E he) (fun h => absurd rfl h) (fun h => absurd rfl h) (fun _ _ => w_TextWN t ht hn) (fun _ s h1 h2 => w_TextLB s t ht hn h1 (by rw [txt_length] at h2; exact h2)) (fun _ s h1 => w_TextWB s t ht hn (by rw [txt_length] at h1; exact h1)) (fun _ => by rw [txt_length]; omega)
theorem w_OWide (w : W) (x0 x1 x2 x3 : Int) (h0 : U64 x0) (h1 : U64 x1) (h2 : U64 x2) (h3 : U64 x3) (sl : Option (List UInt8)) (tl : List RVal) (hr : oRel w sl tl) : Spec Tryz.prog 73 [.ptr 0 0, wA x0 x1 x2 x3] (obP sl tl) (fun v h' => ∃ sl' tl', OQ (wwid w x0 x1 x2 x3) v sl' tl' ∧ ObIs sl' tl' h') :=
 put_cases hr (fun E he => w_WideEN x0 x1 x2 x3 h0 h1 h2 h3 E he) (fun s E he => w_WideEB s x0 x1 x2 x3 h0 h1 h2 h3 E he) (fun h => absurd rfl h) (fun h => absurd rfl h) (fun _ _ => w_WideWN x0 x1 x2 x3 h0 h1 h2 h3) (fun _ s g1 g2 => w_WideLB s x0 x1 x2 x3 h0 h1 h2 h3 g1 (by rw [wideL_length] at g2; exact g2)) (fun _ s g1 => w_WideWB s x0 x1 x2 x3 h0 h1 h2 h3 (by rw [wideL_length] at g1; exact g1)) (fun _ => by rw [wideL_length]; decide)
theorem w_ODone (w : W) (sl : Option (List UInt8)) (tl : List RVal) (hr : oRel w sl tl) : Spec Tryz.prog 74 [.ptr 0 0] (obP sl tl) (fun v h' => ∃ sl' tl', (v = .tuple [.r (.bs w.1), .r (.int .i64 w.2)] ∧ oRel w sl' tl') ∧ ObIs sl' tl' h') := by
 have hr' := hr
 obtain ⟨rfl, hw, hs⟩ := hr
 obtain ⟨B, E⟩ := w
 by_cases h0 : E = 0
 ·subst h0
  have hs := hs rfl
  cases sl with
  | none =>
   obtain rfl : B = [] := hs
   exact Spec.mono w_DoneN (fun v h' ⟨h1, h2⟩ => ⟨none, _, ⟨h1, hr'⟩, h2 ▸ is_N 0⟩)
  | some s =>
   obtain rfl : B = s := hs
   exact Spec.mono (w_DoneB B (by have := hw.1; simp only at this; omega)) (fun v h' ⟨h1, h2⟩ => ⟨some B, _, ⟨h1, hr'⟩, h2 ▸ is_B B 0⟩)
 ·obtain rfl : B = [] := hw.2 h0
  cases sl with
  | none => exact Spec.mono (w_DoneEN E h0) (fun v h' ⟨h1, h2⟩ => ⟨none, _, ⟨h1, hr'⟩, h2 ▸ is_N E⟩)
  | some s => exact Spec.mono (w_DoneEB s E h0) (fun v h' ⟨h1, h2⟩ => ⟨some s, _, ⟨h1, hr'⟩, h2 ▸ is_B s E⟩)
theorem w_rNumC (w : W) (n : Int) (hw : wok w) : Pur Tryz.prog 44 [wV w, .r (.int .i64 n)] (wV (wnum w n)) := by
 unfold wnum
 by_cases hn : badN n
 ·rw [if_pos hn]; exact w_rNumR w n hn
 ·rw [if_neg hn]; exact w_rNumW w n hw.1 hn
theorem w_rTextC (w : W) (t : List UInt8) (hw : wok w) : Pur Tryz.prog 47 [wV w, .r (.str t)] (wV (wtxt w t)) := by
 unfold wtxt
 by_cases hn : t.length > 1024
 ·rw [if_pos hn]; exact w_rTextR w t hn
 ·rw [if_neg hn]; exact w_rTextW w t hw.1 hn
theorem w_rWideC (w : W) (x0 x1 x2 x3 : Int) (h0 : U64 x0) (h1 : U64 x1) (h2 : U64 x2) (h3 : U64 x3) (hw : wok w) : Pur Tryz.prog 45 [wV w, wA x0 x1 x2 x3] (wV (wwid w x0 x1 x2 x3)) := w_rWideW w x0 x1 x2 x3 h0 h1 h2 h3 hw.1
end Go.Proofs.YtccdhgmkjakjkaaGreat
