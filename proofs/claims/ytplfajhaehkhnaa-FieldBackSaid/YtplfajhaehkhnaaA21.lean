/-
  ABSTRACT MACHINE, 21: what turns the heap in a region that draws; joins.
-/
import Derived.Test.YtplfajhaehkhnaaA20
namespace Go.Proofs.Ytplfajhaehkhnaa
open Go

section
variable {P : Program} {T : TTab} {f N : Nat} {m : Md} {ops : Array Oper} {o : Oper} {rest : List Oper} {k : List Item} {g g' : Regs} {h h' : Hp} {Post : AVal → Hp → Prop} {ld : List Nat} {Hs : Nat → Hp} {K ix j : Nat} {F : Regs → Prop}

theorem qop_of2 {av : AVal} (hs : ∀ g', (∀ x ∈ o.op.operands, evA g' x = evA g x) → OpStep2 P N o g' h av h') : QOp P N h h' o g av := by
  intro g' hag X R μ a w Q e5 e6 e7
  obtain ⟨v, w', R', μ', h1, h2, h3, h4⟩ := hs g' hag X R μ a w e5 e6 e7
  unfold Oper.wp
  rcases h1 with h1 | ⟨h1, rfl⟩
  · rw [h1]; exact ⟨v, R', μ', rfl, h2, h3, h4⟩
  · rw [h1]; exact ⟨undef, R', μ', rfl, h2, h3, h4⟩

theorem stepStore_congr (hag : ∀ x ∈ o.op.operands, evA g' x = evA g x) : stepStore g' h T o = stepStore g h T o := by
  unfold stepStore
  split
  · rename_i t x y hd hop
    rw [hop] at hag
    rw [hag x (by simp [Op.operands]), hag y (by simp [Op.operands])]
  · rfl

theorem stepNew_congr {n : Nat} (hag : ∀ x ∈ o.op.operands, evA g' x = evA g x) : stepNew T N g' n o = stepNew T N g n o := by
  unfold stepNew
  split
  · rfl
  · rename_i d hd
    congr 1
    split
    · rfl
    · rename_i t x hop
      rw [hop] at hag
      rw [hag x (by simp [Op.operands])]
    · rename_i t len parts hop
      rw [hop] at hag
      have : (parts.toList.map fun p => (p.1, evA g' p.2)) = parts.toList.map fun p => (p.1, evA g p.2) := List.map_congr_left fun p hp => by
        rw [hag p.2 (by simp only [Op.operands]; simpa using ⟨p.1, by simpa using hp⟩)]
      rw [this]
    · rfl

theorem stepApp_congr (hag : ∀ x ∈ o.op.operands, evA g' x = evA g x) : stepApp T N g' h o = stepApp T N g h o := by
  unfold stepApp
  split
  · rename_i d c hd hop
    rw [hop] at hag
    congr 1
    split
    · rename_i s x t t2 hcal hargs htys
      have h1 : evA g' s = evA g s := hag s (by simp only [Op.operands, Call.operands]; simp only [hcal]; simp [← Array.mem_toList_iff, hargs])
      have h2 : evA g' x = evA g x := hag x (by simp only [Op.operands, Call.operands]; simp only [hcal]; simp [← Array.mem_toList_iff, hargs])
      rw [h1, h2]
    · rfl
  · rfl

theorem aq_store (hTO : TOk P T) {t : Bool} {c : Prop} {hj : Hp} (h0 : Hs j = hj) (hp : stepStore g hj T o = some (h', c)) (hh : Hs (j + 1) = h') (hg : guardB ops g o = some t) (ht : t = true) (hc : c)
    (hk : QGo P N ld ops Hs K F rest (ix + 1) (j + 1) g) : QGo P N ld ops Hs K F (o :: rest) ix j g := by
  have hd := stepStore_dst hp
  refine aq_loud (v := .any) (qop_of2 fun g' hag => ?_) (by simp only [loudB, hd]) hg ht (fun d h => by rw [hd] at h; cases h) (by rw [hd]; exact hk)
  rw [hh, h0]
  exact opStep2_store hTO (by rw [stepStore_congr hag]; exact hp) hc

theorem aq_new (hTO : TOk P T) {t : Bool} {d : Nat} {v : AVal} {blk : ABlk} {c : Prop} {hj : Hp} (h0 : Hs j = hj) (hp : stepNew T N g hj.nxt o = some (d, v, blk, c)) (hh : Hs (j + 1) = hj.push blk) (hl : loudB ld o = true) (hg : guardB ops g o = some t) (ht : t = true) (hc : c)
    (hk : QGo P N ld ops Hs K F rest (ix + 1) (j + 1) ((d, v) :: g)) : QGo P N ld ops Hs K F (o :: rest) ix j g := by
  have hd := stepNew_dst hp
  refine aq_loud (v := v) (qop_of2 fun g' hag => ?_) hl hg ht (fun d' h => by rw [hd.1] at h; cases h; exact hd.2) (by rw [hd.1]; exact hk)
  rw [hh, h0]
  exact opStep2_new hTO (by rw [stepNew_congr hag]; exact hp) hc

theorem aq_app (hTO : TOk P T) {t : Bool} {d n z : Nat} {β : Option Nat} {blk : Body} {c : Prop} {hj : Hp} (h0 : Hs j = hj) (hp : stepApp T N g hj o = some (d, (n, z), β, blk, c)) (hh : Hs (j + 1) = (killO hj β).push blk) (hl : loudB ld o = true) (hg : guardB ops g o = some t) (ht : t = true) (hc : c)
    (hk : QGo P N ld ops Hs K F rest (ix + 1) (j + 1) ((d, .sl hj.nxt 0 n z) :: g)) : QGo P N ld ops Hs K F (o :: rest) ix j g := by
  have hd := stepApp_dst hp
  refine aq_loud (v := .sl hj.nxt 0 n z) (qop_of2 fun g' hag => ?_) hl hg ht (fun d' h => by rw [hd.1] at h; cases h; exact hd.2) (by rw [hd.1]; exact hk)
  rw [hh, h0]
  exact opStep2_app hTO (by rw [stepApp_congr hag]; exact hp) hc

/-- A call that hands back a new slice. -/
theorem qop_own {n : FuncId} {as : List AVal} {l z : Nat} {bd : Body} (hs : Own P n as l z bd) (hca : callA g o = some (n, as)) (hb : AVal.nbs 0 as = true) (hbd : bd.nb 0 = true) : QOp P N h (h.push bd) o g (.sl h.nxt 0 l z) := by
  refine qop_call (ι := []) hs (by rw [rens_below0 _ hb]; exact hca) hb handed_none ?_
  rintro av h' ⟨β, rfl, hg'⟩ X R μ w μ' cv e7 h1 _ hlen hlive _
  obtain ⟨b, o', h2, h3, h4, h5, h6⟩ := hlive β _ hg'
  rw [kills_nil] at e7 h6
  have hbr : BlkRel R (μ ++ [(b, o')]) w b o' bd := by
    obtain ⟨cells, el, fz, vs, h7, h8, h9, h10, h11⟩ := h5.ex
    refine ⟨cells, el, fz, vs, h7, h8, ?_, h10, h11⟩
    have := BodyRel.ren (μ2 := μ ++ [(b, o')]) (ρ := id) (m := 0) (fun β hβ => absurd hβ (Nat.not_lt_zero _)) hbd h9
    cases bd with
    | mixed cs => simp only [Body.ren] at this; rw [rens_below0 cs hbd] at this; exact this
    | plain xs => exact this
    | bytes s => exact this
  refine ⟨R, μ ++ [(b, o')], fun _ h => h, mu_app, ?_, e7.add h3 h4 hbr h6⟩
  simp only [ARel] at h1 ⊢
  obtain ⟨b2, o2, cap, cells, el, fz, h7, rest2⟩ := h1
  rw [h2] at h7
  cases h7
  exact ⟨b, o', cap, cells, el, fz, by rw [hlen]; simp, rest2⟩

theorem aq_own {n : FuncId} {as : List AVal} {l z d : Nat} {bd : Body} {t : Bool} (hs : Own P n as l z bd) (hca : callA g o = some (n, as)) (hb : AVal.nbs 0 as = true) (hbd : bd.nb 0 = true) {hj : Hp} (h0 : Hs j = hj) (hh : Hs (j + 1) = hj.push bd) (hl : loudB ld o = true) (hg : guardB ops g o = some t) (ht : t = true) (hd : o.dst = some d) (hN : Nat.blt d N = true)
    (hk : QGo P N ld ops Hs K F rest (ix + 1) (j + 1) ((d, .sl hj.nxt 0 l z) :: g)) : QGo P N ld ops Hs K F (o :: rest) ix j g := by
  refine aq_loud (v := .sl hj.nxt 0 l z) ?_ hl hg ht (fun d' h => by rw [hd] at h; cases h; exact hN) (by rw [hd]; exact hk)
  rw [hh, h0]
  exact qop_own hs hca hb hbd

/-- A read that one operation that turns the heap need not wait for. -/
theorem aq_load1 (hTO : TOk P T) {d : Nat} {v : AVal} {c : Prop} {t : Bool} (hp : stepLoad T N g (Hs 0) o = some (d, v, c)) (hl : limAt ld ops ix = 1) (hd : o.dst = some d) (hN : Nat.blt d N = true) (hg : guardB ops g o = some t) (ht : t = true) (hc : c)
    (hp1 : ∃ c, stepLoad T N g (Hs 1) o = some (d, v, c) ∧ c) (hk : QGo P N ld ops Hs K F rest (ix + 1) j ((d, v) :: g)) : QGo P N ld ops Hs K F (o :: rest) ix j g := by
  refine aq_load hTO hd hN (fun i hi => ?_) hg ht hk
  rw [hl] at hi
  rcases i with _ | i
  · exact ⟨c, hp, hc⟩
  · have : i = 0 := by omega
    subst this; exact hp1

def hs1 (h0 h1 : Hp) : Nat → Hp
  | 0 => h0
  | _ => h1
def hs2 (h0 h1 h2 : Hp) : Nat → Hp
  | 0 => h0
  | 1 => h1
  | _ => h2
def hs3 (h0 h1 h2 h3 : Hp) : Nat → Hp
  | 0 => h0
  | 1 => h1
  | 2 => h2
  | _ => h3

theorem hs1_0 (a b : Hp) : hs1 a b 0 = a := rfl
theorem hs1_1 (a b : Hp) : hs1 a b 1 = b := rfl
theorem hs2_0 (a b c : Hp) : hs2 a b c 0 = a := rfl
theorem hs2_1 (a b c : Hp) : hs2 a b c 1 = b := rfl
theorem hs2_2 (a b c : Hp) : hs2 a b c 2 = c := rfl
theorem hs3_0 (a b c d : Hp) : hs3 a b c d 0 = a := rfl
theorem hs3_1 (a b c d : Hp) : hs3 a b c d 1 = b := rfl
theorem hs3_2 (a b c d : Hp) : hs3 a b c d 2 = c := rfl
theorem hs3_3 (a b c d : Hp) : hs3 a b c d 3 = d := rfl

theorem aq_store10 {h0 h1 : Hp} (hTO : TOk P T) {t : Bool} {c : Prop} (hp : stepStore g h0 T o = some (h', c)) (hh : h1 = h') (hg : guardB ops g o = some t) (ht : t = true) (hc : c) (hk : QGo P N ld ops (hs1 h0 h1) K F rest (ix + 1) 1 g) : QGo P N ld ops (hs1 h0 h1) K F (o :: rest) ix 0 g :=
  aq_store hTO (hs1_0 h0 h1) hp hh hg ht hc hk
theorem aq_new10 {h0 h1 : Hp} (hTO : TOk P T) {t : Bool} {d : Nat} {v : AVal} {blk : ABlk} {c : Prop} (hp : stepNew T N g h0.nxt o = some (d, v, blk, c)) (hh : h1 = h0.push blk) (hl : loudB ld o = true) (hg : guardB ops g o = some t) (ht : t = true) (hc : c) (hk : QGo P N ld ops (hs1 h0 h1) K F rest (ix + 1) 1 ((d, v) :: g)) : QGo P N ld ops (hs1 h0 h1) K F (o :: rest) ix 0 g :=
  aq_new hTO (hs1_0 h0 h1) hp hh hl hg ht hc hk
theorem aq_app10 {h0 h1 : Hp} (hTO : TOk P T) {t : Bool} {d n z : Nat} {β : Option Nat} {blk : Body} {c : Prop} (hp : stepApp T N g h0 o = some (d, (n, z), β, blk, c)) (hh : h1 = (killO h0 β).push blk) (hl : loudB ld o = true) (hg : guardB ops g o = some t) (ht : t = true) (hc : c) (hk : QGo P N ld ops (hs1 h0 h1) K F rest (ix + 1) 1 ((d, .sl h0.nxt 0 n z) :: g)) : QGo P N ld ops (hs1 h0 h1) K F (o :: rest) ix 0 g :=
  aq_app hTO (hs1_0 h0 h1) hp hh hl hg ht hc hk
theorem aq_own10 {h0 h1 : Hp} {n : FuncId} {as : List AVal} {l z d : Nat} {bd : Body} {t : Bool} (hs : Own P n as l z bd) (hca : callA g o = some (n, as)) (hb : AVal.nbs 0 as = true) (hbd : bd.nb 0 = true) (hh : h1 = h0.push bd) (hl : loudB ld o = true) (hg : guardB ops g o = some t) (ht : t = true) (hd : o.dst = some d) (hN : Nat.blt d N = true) (hk : QGo P N ld ops (hs1 h0 h1) K F rest (ix + 1) 1 ((d, .sl h0.nxt 0 l z) :: g)) : QGo P N ld ops (hs1 h0 h1) K F (o :: rest) ix 0 g :=
  aq_own hs hca hb hbd (hs1_0 h0 h1) hh hl hg ht hd hN hk
theorem aq_store20 {h0 h1 h2 : Hp} (hTO : TOk P T) {t : Bool} {c : Prop} (hp : stepStore g h0 T o = some (h', c)) (hh : h1 = h') (hg : guardB ops g o = some t) (ht : t = true) (hc : c) (hk : QGo P N ld ops (hs2 h0 h1 h2) K F rest (ix + 1) 1 g) : QGo P N ld ops (hs2 h0 h1 h2) K F (o :: rest) ix 0 g :=
  aq_store hTO (hs2_0 h0 h1 h2) hp hh hg ht hc hk
theorem aq_new20 {h0 h1 h2 : Hp} (hTO : TOk P T) {t : Bool} {d : Nat} {v : AVal} {blk : ABlk} {c : Prop} (hp : stepNew T N g h0.nxt o = some (d, v, blk, c)) (hh : h1 = h0.push blk) (hl : loudB ld o = true) (hg : guardB ops g o = some t) (ht : t = true) (hc : c) (hk : QGo P N ld ops (hs2 h0 h1 h2) K F rest (ix + 1) 1 ((d, v) :: g)) : QGo P N ld ops (hs2 h0 h1 h2) K F (o :: rest) ix 0 g :=
  aq_new hTO (hs2_0 h0 h1 h2) hp hh hl hg ht hc hk
theorem aq_app20 {h0 h1 h2 : Hp} (hTO : TOk P T) {t : Bool} {d n z : Nat} {β : Option Nat} {blk : Body} {c : Prop} (hp : stepApp T N g h0 o = some (d, (n, z), β, blk, c)) (hh : h1 = (killO h0 β).push blk) (hl : loudB ld o = true) (hg : guardB ops g o = some t) (ht : t = true) (hc : c) (hk : QGo P N ld ops (hs2 h0 h1 h2) K F rest (ix + 1) 1 ((d, .sl h0.nxt 0 n z) :: g)) : QGo P N ld ops (hs2 h0 h1 h2) K F (o :: rest) ix 0 g :=
  aq_app hTO (hs2_0 h0 h1 h2) hp hh hl hg ht hc hk
theorem aq_own20 {h0 h1 h2 : Hp} {n : FuncId} {as : List AVal} {l z d : Nat} {bd : Body} {t : Bool} (hs : Own P n as l z bd) (hca : callA g o = some (n, as)) (hb : AVal.nbs 0 as = true) (hbd : bd.nb 0 = true) (hh : h1 = h0.push bd) (hl : loudB ld o = true) (hg : guardB ops g o = some t) (ht : t = true) (hd : o.dst = some d) (hN : Nat.blt d N = true) (hk : QGo P N ld ops (hs2 h0 h1 h2) K F rest (ix + 1) 1 ((d, .sl h0.nxt 0 l z) :: g)) : QGo P N ld ops (hs2 h0 h1 h2) K F (o :: rest) ix 0 g :=
  aq_own hs hca hb hbd (hs2_0 h0 h1 h2) hh hl hg ht hd hN hk
theorem aq_store21 {h0 h1 h2 : Hp} (hTO : TOk P T) {t : Bool} {c : Prop} (hp : stepStore g h1 T o = some (h', c)) (hh : h2 = h') (hg : guardB ops g o = some t) (ht : t = true) (hc : c) (hk : QGo P N ld ops (hs2 h0 h1 h2) K F rest (ix + 1) 2 g) : QGo P N ld ops (hs2 h0 h1 h2) K F (o :: rest) ix 1 g :=
  aq_store hTO (hs2_1 h0 h1 h2) hp hh hg ht hc hk
theorem aq_new21 {h0 h1 h2 : Hp} (hTO : TOk P T) {t : Bool} {d : Nat} {v : AVal} {blk : ABlk} {c : Prop} (hp : stepNew T N g h1.nxt o = some (d, v, blk, c)) (hh : h2 = h1.push blk) (hl : loudB ld o = true) (hg : guardB ops g o = some t) (ht : t = true) (hc : c) (hk : QGo P N ld ops (hs2 h0 h1 h2) K F rest (ix + 1) 2 ((d, v) :: g)) : QGo P N ld ops (hs2 h0 h1 h2) K F (o :: rest) ix 1 g :=
  aq_new hTO (hs2_1 h0 h1 h2) hp hh hl hg ht hc hk
theorem aq_app21 {h0 h1 h2 : Hp} (hTO : TOk P T) {t : Bool} {d n z : Nat} {β : Option Nat} {blk : Body} {c : Prop} (hp : stepApp T N g h1 o = some (d, (n, z), β, blk, c)) (hh : h2 = (killO h1 β).push blk) (hl : loudB ld o = true) (hg : guardB ops g o = some t) (ht : t = true) (hc : c) (hk : QGo P N ld ops (hs2 h0 h1 h2) K F rest (ix + 1) 2 ((d, .sl h1.nxt 0 n z) :: g)) : QGo P N ld ops (hs2 h0 h1 h2) K F (o :: rest) ix 1 g :=
  aq_app hTO (hs2_1 h0 h1 h2) hp hh hl hg ht hc hk
theorem aq_own21 {h0 h1 h2 : Hp} {n : FuncId} {as : List AVal} {l z d : Nat} {bd : Body} {t : Bool} (hs : Own P n as l z bd) (hca : callA g o = some (n, as)) (hb : AVal.nbs 0 as = true) (hbd : bd.nb 0 = true) (hh : h2 = h1.push bd) (hl : loudB ld o = true) (hg : guardB ops g o = some t) (ht : t = true) (hd : o.dst = some d) (hN : Nat.blt d N = true) (hk : QGo P N ld ops (hs2 h0 h1 h2) K F rest (ix + 1) 2 ((d, .sl h1.nxt 0 l z) :: g)) : QGo P N ld ops (hs2 h0 h1 h2) K F (o :: rest) ix 1 g :=
  aq_own hs hca hb hbd (hs2_1 h0 h1 h2) hh hl hg ht hd hN hk
theorem aq_store30 {h0 h1 h2 h3 : Hp} (hTO : TOk P T) {t : Bool} {c : Prop} (hp : stepStore g h0 T o = some (h', c)) (hh : h1 = h') (hg : guardB ops g o = some t) (ht : t = true) (hc : c) (hk : QGo P N ld ops (hs3 h0 h1 h2 h3) K F rest (ix + 1) 1 g) : QGo P N ld ops (hs3 h0 h1 h2 h3) K F (o :: rest) ix 0 g :=
  aq_store hTO (hs3_0 h0 h1 h2 h3) hp hh hg ht hc hk
theorem aq_new30 {h0 h1 h2 h3 : Hp} (hTO : TOk P T) {t : Bool} {d : Nat} {v : AVal} {blk : ABlk} {c : Prop} (hp : stepNew T N g h0.nxt o = some (d, v, blk, c)) (hh : h1 = h0.push blk) (hl : loudB ld o = true) (hg : guardB ops g o = some t) (ht : t = true) (hc : c) (hk : QGo P N ld ops (hs3 h0 h1 h2 h3) K F rest (ix + 1) 1 ((d, v) :: g)) : QGo P N ld ops (hs3 h0 h1 h2 h3) K F (o :: rest) ix 0 g :=
  aq_new hTO (hs3_0 h0 h1 h2 h3) hp hh hl hg ht hc hk
theorem aq_app30 {h0 h1 h2 h3 : Hp} (hTO : TOk P T) {t : Bool} {d n z : Nat} {β : Option Nat} {blk : Body} {c : Prop} (hp : stepApp T N g h0 o = some (d, (n, z), β, blk, c)) (hh : h1 = (killO h0 β).push blk) (hl : loudB ld o = true) (hg : guardB ops g o = some t) (ht : t = true) (hc : c) (hk : QGo P N ld ops (hs3 h0 h1 h2 h3) K F rest (ix + 1) 1 ((d, .sl h0.nxt 0 n z) :: g)) : QGo P N ld ops (hs3 h0 h1 h2 h3) K F (o :: rest) ix 0 g :=
  aq_app hTO (hs3_0 h0 h1 h2 h3) hp hh hl hg ht hc hk
theorem aq_own30 {h0 h1 h2 h3 : Hp} {n : FuncId} {as : List AVal} {l z d : Nat} {bd : Body} {t : Bool} (hs : Own P n as l z bd) (hca : callA g o = some (n, as)) (hb : AVal.nbs 0 as = true) (hbd : bd.nb 0 = true) (hh : h1 = h0.push bd) (hl : loudB ld o = true) (hg : guardB ops g o = some t) (ht : t = true) (hd : o.dst = some d) (hN : Nat.blt d N = true) (hk : QGo P N ld ops (hs3 h0 h1 h2 h3) K F rest (ix + 1) 1 ((d, .sl h0.nxt 0 l z) :: g)) : QGo P N ld ops (hs3 h0 h1 h2 h3) K F (o :: rest) ix 0 g :=
  aq_own hs hca hb hbd (hs3_0 h0 h1 h2 h3) hh hl hg ht hd hN hk
theorem aq_store31 {h0 h1 h2 h3 : Hp} (hTO : TOk P T) {t : Bool} {c : Prop} (hp : stepStore g h1 T o = some (h', c)) (hh : h2 = h') (hg : guardB ops g o = some t) (ht : t = true) (hc : c) (hk : QGo P N ld ops (hs3 h0 h1 h2 h3) K F rest (ix + 1) 2 g) : QGo P N ld ops (hs3 h0 h1 h2 h3) K F (o :: rest) ix 1 g :=
  aq_store hTO (hs3_1 h0 h1 h2 h3) hp hh hg ht hc hk
theorem aq_new31 {h0 h1 h2 h3 : Hp} (hTO : TOk P T) {t : Bool} {d : Nat} {v : AVal} {blk : ABlk} {c : Prop} (hp : stepNew T N g h1.nxt o = some (d, v, blk, c)) (hh : h2 = h1.push blk) (hl : loudB ld o = true) (hg : guardB ops g o = some t) (ht : t = true) (hc : c) (hk : QGo P N ld ops (hs3 h0 h1 h2 h3) K F rest (ix + 1) 2 ((d, v) :: g)) : QGo P N ld ops (hs3 h0 h1 h2 h3) K F (o :: rest) ix 1 g :=
  aq_new hTO (hs3_1 h0 h1 h2 h3) hp hh hl hg ht hc hk
theorem aq_app31 {h0 h1 h2 h3 : Hp} (hTO : TOk P T) {t : Bool} {d n z : Nat} {β : Option Nat} {blk : Body} {c : Prop} (hp : stepApp T N g h1 o = some (d, (n, z), β, blk, c)) (hh : h2 = (killO h1 β).push blk) (hl : loudB ld o = true) (hg : guardB ops g o = some t) (ht : t = true) (hc : c) (hk : QGo P N ld ops (hs3 h0 h1 h2 h3) K F rest (ix + 1) 2 ((d, .sl h1.nxt 0 n z) :: g)) : QGo P N ld ops (hs3 h0 h1 h2 h3) K F (o :: rest) ix 1 g :=
  aq_app hTO (hs3_1 h0 h1 h2 h3) hp hh hl hg ht hc hk
theorem aq_own31 {h0 h1 h2 h3 : Hp} {n : FuncId} {as : List AVal} {l z d : Nat} {bd : Body} {t : Bool} (hs : Own P n as l z bd) (hca : callA g o = some (n, as)) (hb : AVal.nbs 0 as = true) (hbd : bd.nb 0 = true) (hh : h2 = h1.push bd) (hl : loudB ld o = true) (hg : guardB ops g o = some t) (ht : t = true) (hd : o.dst = some d) (hN : Nat.blt d N = true) (hk : QGo P N ld ops (hs3 h0 h1 h2 h3) K F rest (ix + 1) 2 ((d, .sl h1.nxt 0 l z) :: g)) : QGo P N ld ops (hs3 h0 h1 h2 h3) K F (o :: rest) ix 1 g :=
  aq_own hs hca hb hbd (hs3_1 h0 h1 h2 h3) hh hl hg ht hd hN hk
theorem aq_store32 {h0 h1 h2 h3 : Hp} (hTO : TOk P T) {t : Bool} {c : Prop} (hp : stepStore g h2 T o = some (h', c)) (hh : h3 = h') (hg : guardB ops g o = some t) (ht : t = true) (hc : c) (hk : QGo P N ld ops (hs3 h0 h1 h2 h3) K F rest (ix + 1) 3 g) : QGo P N ld ops (hs3 h0 h1 h2 h3) K F (o :: rest) ix 2 g :=
  aq_store hTO (hs3_2 h0 h1 h2 h3) hp hh hg ht hc hk
theorem aq_new32 {h0 h1 h2 h3 : Hp} (hTO : TOk P T) {t : Bool} {d : Nat} {v : AVal} {blk : ABlk} {c : Prop} (hp : stepNew T N g h2.nxt o = some (d, v, blk, c)) (hh : h3 = h2.push blk) (hl : loudB ld o = true) (hg : guardB ops g o = some t) (ht : t = true) (hc : c) (hk : QGo P N ld ops (hs3 h0 h1 h2 h3) K F rest (ix + 1) 3 ((d, v) :: g)) : QGo P N ld ops (hs3 h0 h1 h2 h3) K F (o :: rest) ix 2 g :=
  aq_new hTO (hs3_2 h0 h1 h2 h3) hp hh hl hg ht hc hk
theorem aq_app32 {h0 h1 h2 h3 : Hp} (hTO : TOk P T) {t : Bool} {d n z : Nat} {β : Option Nat} {blk : Body} {c : Prop} (hp : stepApp T N g h2 o = some (d, (n, z), β, blk, c)) (hh : h3 = (killO h2 β).push blk) (hl : loudB ld o = true) (hg : guardB ops g o = some t) (ht : t = true) (hc : c) (hk : QGo P N ld ops (hs3 h0 h1 h2 h3) K F rest (ix + 1) 3 ((d, .sl h2.nxt 0 n z) :: g)) : QGo P N ld ops (hs3 h0 h1 h2 h3) K F (o :: rest) ix 2 g :=
  aq_app hTO (hs3_2 h0 h1 h2 h3) hp hh hl hg ht hc hk
theorem aq_own32 {h0 h1 h2 h3 : Hp} {n : FuncId} {as : List AVal} {l z d : Nat} {bd : Body} {t : Bool} (hs : Own P n as l z bd) (hca : callA g o = some (n, as)) (hb : AVal.nbs 0 as = true) (hbd : bd.nb 0 = true) (hh : h3 = h2.push bd) (hl : loudB ld o = true) (hg : guardB ops g o = some t) (ht : t = true) (hd : o.dst = some d) (hN : Nat.blt d N = true) (hk : QGo P N ld ops (hs3 h0 h1 h2 h3) K F rest (ix + 1) 3 ((d, .sl h2.nxt 0 l z) :: g)) : QGo P N ld ops (hs3 h0 h1 h2 h3) K F (o :: rest) ix 2 g :=
  aq_own hs hca hb hbd (hs3_2 h0 h1 h2 h3) hh hl hg ht hd hN hk

/-- A region that draws, where nothing turns the heap. -/
theorem ag_draw0 {id : Nat} (hm : P.follows .mixedOrders = true) (hok : drawsOk [] ops = true) (hq : QGo P N [] ops (fun _ => h) 0 (fun g' => AGo P f N m k g' h Post) ops.toList 0 0 g) : AGo P f N m (.code (.region id ops true) :: k) g h Post :=
  ag_draw [] (Hs := fun _ => h) hm hok hq

/-- Where one operation turns it. -/
theorem ag_draw1 (ld : List Nat) {id : Nat} {h1 : Hp} (hm : P.follows .mixedOrders = true) (hok : drawsOk ld ops = true) (hq : QGo P N ld ops (hs1 h h1) 1 (fun g' => AGo P f N m k g' h1 Post) ops.toList 0 0 g) : AGo P f N m (.code (.region id ops true) :: k) g h Post :=
  ag_draw ld (Hs := hs1 h h1) hm hok hq
theorem ag_draw2 (ld : List Nat) {id : Nat} {h1 h2 : Hp} (hm : P.follows .mixedOrders = true) (hok : drawsOk ld ops = true) (hq : QGo P N ld ops (hs2 h h1 h2) 2 (fun g' => AGo P f N m k g' h2 Post) ops.toList 0 0 g) : AGo P f N m (.code (.region id ops true) :: k) g h Post :=
  ag_draw ld (Hs := hs2 h h1 h2) hm hok hq
theorem ag_draw3 (ld : List Nat) {id : Nat} {h1 h2 h3 : Hp} (hm : P.follows .mixedOrders = true) (hok : drawsOk ld ops = true) (hq : QGo P N ld ops (hs3 h h1 h2 h3) 3 (fun g' => AGo P f N m k g' h3 Post) ops.toList 0 0 g) : AGo P f N m (.code (.region id ops true) :: k) g h Post :=
  ag_draw ld (Hs := hs3 h h1 h2 h3) hm hok hq

/-- What follows is walked once, from whatever state S tells. -/
theorem ag_join {α : Type} (S : α → Regs × Hp) (p : α → Prop) {c : Code} (h1 : (∀ x, p x → AGo P f N m k (S x).1 (S x).2 Post) → AGo P f N m (.code c :: k) g h Post) (h2 : ∀ x, p x → AGo P f N m k (S x).1 (S x).2 Post) : AGo P f N m (.code c :: k) g h Post := h1 h2

/-- A loop, from its entry: 'S x' are the states at the head of a round. -/
theorem ag_loopS {α : Type} (S : α → Regs × Hp) (p : α → Prop) (meas : α → Nat) {c : Code} (x0 : α) (he : Ent m g h (S x0).1 (S x0).2) (h0 : p x0)
    (round : ∀ x, p x → (∀ y, p y → meas y < meas x → AGo P f N m (.inLoop c :: k) (S y).1 (S y).2 Post) → AGo P f N m (.code c :: .inLoop c :: k) (S x).1 (S x).2 Post) : AGo P f N m (.code (.loop c) :: k) g h Post :=
  ag_loop_enter (ag_ent he (ag_loop_of S p meas round x0 h0))

end
end Go.Proofs.Ytplfajhaehkhnaa
