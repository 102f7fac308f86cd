/-
  ABSTRACT MACHINE, 33: a call that turns an object, in a region that draws its order.
-/
import Derived.Test.YtplfajhaehkhnaaA32
namespace Go.Proofs.Ytplfajhaehkhnaa
open Go
set_option linter.unusedVariables false

section
variable {P : Program} {T : TTab} {f N : Nat} {m : Md} {ops : Array Oper} {o : Oper} {rest : List Oper} {g : Regs} {ld : List Nat} {K ix : Nat} {F : Regs → Prop}

theorem aq_obj {Hs : Nat → Hp} {j : Nat} {hj : Hp} {t : Bool} {n d : Nat} {as : List AVal} {hp hq h2 : Hp} {v0 v2 : AVal} (ι : List Nat) (hs : Spec P n as hp (fun v h' => v = v0 ∧ h' = hq)) (h0 : Hs j = hj) (hca : callA g o = some (n, AVal.rens (fun j => ι.getD j 0) as)) (hb : AVal.nbs hp.nxt as = true)
    (hh : Handed hj hp ι) (hm : mergeO hj ι v0 hq = some (v2, h2)) (hh1 : Hs (j + 1) = h2) (hl : loudB ld o = true) (hg : guardB ops g o = some t) (ht : t = true) (hd : o.dst = some d) (hN : Nat.blt d N = true)
    (hk : QGo P N ld ops Hs K F rest (ix + 1) (j + 1) ((d, v2) :: g)) : QGo P N ld ops Hs K F (o :: rest) ix j g := by
  refine aq_loud (v := v2) ?_ hl hg ht (fun d' h => by rw [hd] at h; cases h; exact hN) (by rw [hd]; exact hk)
  rw [hh1, h0]
  exact qop_obj ι hs (fun _ _ h => h) hca hb hh hm
theorem aq_objn {Hs : Nat → Hp} {j : Nat} {hj : Hp} {t : Bool} {n : Nat} {as : List AVal} {hp hq h2 : Hp} {v0 v2 : AVal} (ι : List Nat) (hs : Spec P n as hp (fun v h' => v = v0 ∧ h' = hq)) (h0 : Hs j = hj) (hca : callA g o = some (n, AVal.rens (fun j => ι.getD j 0) as)) (hb : AVal.nbs hp.nxt as = true)
    (hh : Handed hj hp ι) (hm : mergeO hj ι v0 hq = some (v2, h2)) (hh1 : Hs (j + 1) = h2) (hg : guardB ops g o = some t) (ht : t = true) (hd : o.dst = none)
    (hk : QGo P N ld ops Hs K F rest (ix + 1) (j + 1) g) : QGo P N ld ops Hs K F (o :: rest) ix j g := by
  refine aq_loud (v := v2) ?_ (by simp only [loudB, hd]) hg ht (fun d' h => by rw [hd] at h; cases h) (by rw [hd]; exact hk)
  rw [hh1, h0]
  exact qop_obj ι hs (fun _ _ h => h) hca hb hh hm

theorem aq_obj10 {h0 h1 : Hp} {t : Bool} {n d : Nat} {as : List AVal} {hp hq h2 : Hp} {v0 v2 : AVal} (ι : List Nat) (hs : Spec P n as hp (fun v h' => v = v0 ∧ h' = hq)) (hca : callA g o = some (n, AVal.rens (fun j => ι.getD j 0) as)) (hb : AVal.nbs hp.nxt as = true) (hh : Handed h0 hp ι) (hm : mergeO h0 ι v0 hq = some (v2, h2)) (hh1 : h1 = h2) (hl : loudB ld o = true) (hg : guardB ops g o = some t) (ht : t = true) (hd : o.dst = some d) (hN : Nat.blt d N = true)
    (hk : QGo P N ld ops (hs1 h0 h1) K F rest (ix + 1) 1 ((d, v2) :: g)) : QGo P N ld ops (hs1 h0 h1) K F (o :: rest) ix 0 g := aq_obj ι hs (hs1_0 h0 h1) hca hb hh hm hh1 hl hg ht hd hN hk
theorem aq_obj20 {h0 h1 h3 : Hp} {t : Bool} {n d : Nat} {as : List AVal} {hp hq h2 : Hp} {v0 v2 : AVal} (ι : List Nat) (hs : Spec P n as hp (fun v h' => v = v0 ∧ h' = hq)) (hca : callA g o = some (n, AVal.rens (fun j => ι.getD j 0) as)) (hb : AVal.nbs hp.nxt as = true) (hh : Handed h0 hp ι) (hm : mergeO h0 ι v0 hq = some (v2, h2)) (hh1 : h1 = h2) (hl : loudB ld o = true) (hg : guardB ops g o = some t) (ht : t = true) (hd : o.dst = some d) (hN : Nat.blt d N = true)
    (hk : QGo P N ld ops (hs2 h0 h1 h3) K F rest (ix + 1) 1 ((d, v2) :: g)) : QGo P N ld ops (hs2 h0 h1 h3) K F (o :: rest) ix 0 g := aq_obj ι hs (hs2_0 h0 h1 h3) hca hb hh hm hh1 hl hg ht hd hN hk
theorem aq_obj21 {h0 h1 h3 : Hp} {t : Bool} {n d : Nat} {as : List AVal} {hp hq h2 : Hp} {v0 v2 : AVal} (ι : List Nat) (hs : Spec P n as hp (fun v h' => v = v0 ∧ h' = hq)) (hca : callA g o = some (n, AVal.rens (fun j => ι.getD j 0) as)) (hb : AVal.nbs hp.nxt as = true) (hh : Handed h1 hp ι) (hm : mergeO h1 ι v0 hq = some (v2, h2)) (hh1 : h3 = h2) (hl : loudB ld o = true) (hg : guardB ops g o = some t) (ht : t = true) (hd : o.dst = some d) (hN : Nat.blt d N = true)
    (hk : QGo P N ld ops (hs2 h0 h1 h3) K F rest (ix + 1) 2 ((d, v2) :: g)) : QGo P N ld ops (hs2 h0 h1 h3) K F (o :: rest) ix 1 g := aq_obj ι hs (hs2_1 h0 h1 h3) hca hb hh hm hh1 hl hg ht hd hN hk
end
end Go.Proofs.Ytplfajhaehkhnaa
