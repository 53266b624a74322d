/-
  Part 4 of the proof that FnExactStateOf returns true for every input: the functions that it reaches, each with its contract, and the law.
  Conditions: those of the given statement, no others.
-/
import Derived.Test.YtnnkedeohfbkeaaGreatDoorCFnExactStateOfW0
import Derived.Shelf.Abstract
import Derived.WalkKit
import Derived.ProofKit
import Derived.OpenShut
import Derived.Deep.Slices
import Derived.Deep.Fields
import Derived.ChangeSame
import Derived.Lib.SmallJoins
import Derived.Sort.Walk0
import Derived.Test.YtnnkedeohfbkeaaGreatDoorCFnExactStateOf0
import Derived.Test.YtnnkedeohfbkeaaGreatDoorCFnExactStateOf1
import Derived.Test.YtnnkedeohfbkeaaGreatDoorCFnExactStateOf2
set_option linter.unusedVariables false
set_option linter.unusedSimpArgs false
set_option maxHeartbeats 8000000
set_option maxRecDepth 100000
namespace Go.Proofs.YtnnkedeohfbkeaaGreatDoor.P
open Go.RowKit Go.Proofs.YtnnkedeohfbkeaaGreatDoorW.PrintWords Go.Proofs.YtnnkedeohfbkeaaGreatDoorW.PrintLast Go.Proofs.YtnnkedeohfbkeaaGreatDoorW.PrintMore
open Go.Proofs.YtnnkedeohfbkeaaGreatDoorW.PrintWords renaming blk_frozen → bF_, blk_cell → bC_, below_set → bS_, blk_below → bB_, below_step → bT_, pw_below_drewN → bN_, below_size → bZ_, below_drew1 → bD_, below_alloc → bA_, blk_far → bR_, gate_callee → gC_, gate_dst → gD_, box_event → bE_, blk_drew → b1_, blk_put → bP_, blk_drewN → b2_, blk_alloc → b3_, blk_lt → bL_, cell_far → cF_
open Go.Proofs.YtnnkedeohfbkeaaGreatDoorW.PrintLast renaming any_of → aO_, i64_w → i6_, i32_w → i3_, take_ofW → tW_
open Go.Proofs.YtnnkedeohfbkeaaGreatDoorW.PrintWords.Kd renaming R_below → kB_, R_mono → kM_, R_far → kF_, R_reads' → kR_, R_types → kT_, R_slice → kS_, R_celln → kC_, R_alloc → k1_, R_drewN → k2_, R_drew → k3_, C_below → k4_, R_lower → k5_, R_ne → k6_, own_blk → k7_
open Go.Proofs.YtnnkedeohfbkeaaGreatDoorW.PrintWords.LeO renaming none → l0_, bind → l1_, ite → l2_, refl → l3_
open World renaming block_lt_of_cell? → wB_
open _root_.Option renaming bind_eq_some_iff → oB_
open _root_.ByteArray renaming empty → eB_
open List renaming setIfInBounds_toArray → sA_, set_cons_zero → sB_, set_cons_succ → sC_, map_toArray → sD_, map_cons → sE_, map_nil → sF_, length_drop → sG_, length_take → sH_
open Bool renaming true → ty, false → fy
open Aside0 renaming mk → aM_
attribute [local go_sem] max2_int min2_int max_two min_two max_three min_three max_four min_four
def iF7.f (k : Nat) (l0_0 : List S72) : Option (List S96 × Bool) :=
 (iF25.v k l0_0 0 eB_ [] 481).bind fun p => if p.1 = true then (iF24.f k p.2.1).bind fun q => if q.2 = true then (iF14.f k q.1).bind fun m => (xF48.f k m.1 l0_0).bind fun e => if e = true then some (q.1, true) else some ([], false) else some ([], false) else some ([], false)
theorem iF7.mono : ∀ a0 k, LeO (iF7.f k a0) (iF7.f (k + 1) a0) := by
 intro a0 k
 exact l1_ (iF25.mono_v _ _ _ _ _ _) fun p => l2_ (l1_ (iF24.mono _ _) fun q => l2_ (l1_ (iF14.mono _ _) fun m => l1_ (xF48.mono _ _ _) fun _ => l3_ _) (l3_ _)) (l3_ _)
theorem iF7.calls (k : Nat) (A0_0 : Option Addr) (c0_0 : Nat) (l0_0 : List S72) (r1 : List S96) (r2 : Bool) (w : World) (hr0_0 : Kd.C k72 w A0_0 l0_0.length l0_0) (hc0_0 : l0_0.length ≤ c0_0) (h : iF7.f k l0_0 = some (r1, r2)) :
  Calls Tryz.prog 51 #[.agg #[.slice A0_0 l0_0.length c0_0]] w fun e w' => ∃ v0_ : Value, e = .returned (.tuple #[.agg #[v0_], .bool r2]) ∧ Kd.R k96 96 w' w.heap.size (fun _ => True) v0_ r1 ∧ Below w.heap.size w w' := by
 unfold iF7.f at h
 have HM := aM_ hr0_0
 have HCM := aM_ hc0_0
 clear hr0_0 hc0_0
 cases hv : iF25.v k l0_0 0 eB_ [] 481 with
 | none => rw [hv] at h; cases h
 | some p =>
 obtain ⟨pb, wp, lp⟩ := p
 rw [hv, Option.bind_some] at h
 have HV := aM_ hv
 clear hv
 have h1n : (w.alloc (.cells #[.slice A0_0 l0_0.length c0_0] 33 (0, 0))).heap[w.heap.size]? = some (.cells #[.slice A0_0 l0_0.length c0_0] 33 (0, 0)) := blk_new _ _
 obtain ⟨W1, hW1⟩ : ∃ W1, W1 = w.alloc (.cells #[.slice A0_0 l0_0.length c0_0] 33 (0, 0)) := ⟨_, rfl⟩
 obtain ⟨W2, hW2⟩ : ∃ W2, W2 = W1.alloc (.cells #[.slice none 0 0] 28 (0, 0)) := ⟨_, rfl⟩
 obtain ⟨W3, hW3⟩ : ∃ W3, W3 = W2.alloc (.cells #[.slice A0_0 l0_0.length c0_0, .slice none 0 0, .int .i64 481] 100 (0, 0)) := ⟨_, rfl⟩
 have s1 : W1.heap.size = w.heap.size + 1 := by rw [hW1]; simp
 have s2 : W2.heap.size = w.heap.size + 1 + 1 := by rw [hW2]; simp [s1]
 have g1 : W1.heap[w.heap.size]? = some (.cells #[.slice A0_0 l0_0.length c0_0] 33 (0, 0)) := by rw [hW1]; exact blk_new _ _
 have g2 : W2.heap[w.heap.size + 1]? = some (.cells #[.slice none 0 0] 28 (0, 0)) := by rw [hW2, ← s1]; exact blk_new _ _
 have g3 : W3.heap[w.heap.size + 1 + 1]? = some (.cells #[.slice A0_0 l0_0.length c0_0, .slice none 0 0, .int .i64 481] 100 (0, 0)) := by rw [hW3, ← s2]; exact blk_new _ _
 have gB : Below w.heap.size w W2 := by
  rw [hW2, hW1]
  exact ((Below.refl w.heap.size w).alloc (Nat.le_refl _) _).alloc (by simp) _
 have gC : Below W2.heap.size W2 W3 := by rw [hW3]; exact (Below.refl W2.heap.size W2).alloc (Nat.le_refl _) _
 have HA := aM_ (And.intro (show W2.heap[w.heap.size]? = some (.cells #[.slice A0_0 l0_0.length c0_0] 33 (0, 0)) by rw [hW2]; exact b3_ g1 _) (And.intro g2 gB))
 have HI := aM_ (show iF25.Inv W2 W3 (w.heap.size + 1 + 1) A0_0 l0_0.length c0_0 (.slice none 0 0) [] 481 from ⟨g3, Kd.R_nil _ _ _ _ _, gC, by omega⟩)
 have HW3 := aM_ (show W3 = ((w.alloc (.cells #[.slice A0_0 l0_0.length c0_0] 33 (0, 0))).alloc (.cells #[.slice none 0 0] 28 (0, 0))).alloc (.cells #[.slice A0_0 l0_0.length c0_0, .slice none 0 0, .int .i64 481] 100 (0, 0)) from by rw [hW3, hW2, hW1])
 have HS := aM_ (And.intro s2 (bZ_ gC))
 clear hW1 hW2 hW3 s1 s2 g1 g2 g3 gB gC h1n
 go_enter Tryz.func51, Tryz.ntmps51
 go_wp2_with fail
 rw [← HW3.out]
 clear HW3
 refine (iF25.calls k A0_0 c0_0 l0_0 (w.heap.size + 1 + 1) (.slice none 0 0) [] 481 0 eB_ pb wp lp W2 W3 (k4_ HM.out HA.out.2.2) HCM.out HI.out HV.out).mono ?_
 rintro e w4 ⟨vw, rfl, hi⟩
 have HJ := aM_ hi
 have HB := aM_ (bT_ HA.out.2.2 hi.hB)
 have H1 := aM_ (bB_ HA.out.1 hi.hB)
 have H2 := aM_ (bB_ HA.out.2.1 hi.hB)
 clear hi HI HA
 cases pb with
 | false =>
  have hq : some (([] : List S96), false) = some (r1, r2) := h
  simp only [Option.some.injEq, Prod.mk.injEq] at hq
  obtain ⟨rfl, rfl⟩ := hq
  have h2c : w4.cell? ⟨w.heap.size + 1, 0, none⟩ = some (.slice none 0 0) := (bC_ H2.out 0).trans rfl
  have h2f := bF_ H2.out 0
  go_wp2_with fail
  refine bodyPost_ret (results_ct rfl _ _ (w.heap.size + 1) 28 #[.slice none 0 0] (0, 0) _ rfl (by exact bP_ H2.out 0 _ rfl) Tryz.underlying28 rfl (by kernel_rfl)) rfl ?_
  exact ⟨_, rfl, Kd.R_nil _ _ _ _ _, bS_ HB.out (by omega)⟩
 | true =>
  have hq : ((iF24.f k wp).bind fun q => if q.2 = true then (iF14.f k q.1).bind fun m => (xF48.f k m.1 l0_0).bind fun e => if e = true then some (q.1, true) else some ([], false) else some ([], false)) = some (r1, r2) := h
  clear h
  cases hv : iF24.f k wp with
  | none => rw [hv] at hq; cases hq
  | some q =>
  obtain ⟨qt, qb⟩ := q
  rw [hv, Option.bind_some] at hq
  have HO := aM_ hv
  clear hv
  obtain ⟨Av, cv, ev⟩ := kS_ HJ.out.hw
  subst ev
  have h0c : w4.cell? ⟨w.heap.size + 1 + 1, 1, none⟩ = some (.slice Av wp.length cv) := (bC_ HJ.out.ho 1).trans rfl
  go_wp2_with fail
  refine (iF24.calls k Av cv wp qt qb w4 (kR_ HJ.out.hw).2.2 (kR_ HJ.out.hw).2.1 HO.out).mono ?_
  rintro e w5 ⟨v5, rfl, ho, hb⟩
  obtain ⟨A5, c5, e5⟩ := kS_ ho
  subst e5
  have hb6 : Below w4.heap.size w4 (w5.alloc (.cells #[.slice A5 qt.length c5] 28 (0, 0))) := bA_ hb _
  have HT := aM_ (k5_ (k1_ ho (.cells #[.slice A5 qt.length c5] 28 (0, 0))) (bZ_ HB.out))
  have H1b := aM_ (bB_ H1.out hb6)
  have H2b := aM_ (bB_ H2.out hb6)
  have HBb := aM_ (bT_ HB.out hb6)
  have HG5 := aM_ (Nat.le_trans (bZ_ HB.out) (bZ_ hb))
  have h5 : (w5.alloc (.cells #[.slice A5 qt.length c5] 28 (0, 0))).heap[w5.heap.size]? = some (.cells #[.slice A5 qt.length c5] 28 (0, 0)) := blk_new _ _
  have H5 := aM_ h5
  have HN := aM_ (show w.heap.size + 1 < w5.heap.size from Nat.lt_of_lt_of_le (bL_ H2.out) (bZ_ hb))
  clear ho hb hb6 h5 H1 H2 HB HJ h0c
  cases qb with
  | false =>
   have hq2 : some (([] : List S96), false) = some (r1, r2) := hq
   simp only [Option.some.injEq, Prod.mk.injEq] at hq2
   obtain ⟨rfl, rfl⟩ := hq2
   have h2c : (w5.alloc (.cells #[.slice A5 qt.length c5] 28 (0, 0))).cell? ⟨w.heap.size + 1, 0, none⟩ = some (.slice none 0 0) := (bC_ H2b.out 0).trans rfl
   have h2f := bF_ H2b.out 0
   go_wp2_with fail
   refine bodyPost_ret (results_ct rfl _ _ (w.heap.size + 1) 28 #[.slice none 0 0] (0, 0) _ rfl (by exact bP_ H2b.out 0 _ rfl) Tryz.underlying28 rfl (by kernel_rfl)) rfl ?_
   exact ⟨_, rfl, Kd.R_nil _ _ _ _ _, bS_ HBb.out (by omega)⟩
  | true =>
   have hq2 : ((iF14.f k qt).bind fun m => (xF48.f k m.1 l0_0).bind fun e => if e = true then some (qt, true) else some ([], false)) = some (r1, r2) := hq
   clear hq
   cases hv : iF14.f k qt with
   | none => rw [hv] at hq2; cases hq2
   | some m =>
   obtain ⟨ms, mi⟩ := m
   rw [hv, Option.bind_some] at hq2
   have HMM := aM_ hv
   clear hv
   cases hv : xF48.f k ms l0_0 with
   | none => rw [hv] at hq2; cases hq2
   | some eb =>
   rw [hv, Option.bind_some] at hq2
   have HE := aM_ hv
   clear hv
   have h5c : (w5.alloc (.cells #[.slice A5 qt.length c5] 28 (0, 0))).cell? ⟨w5.heap.size, 0, none⟩ = some (.slice A5 qt.length c5) := (bC_ H5.out 0).trans rfl
   go_wp2_with fail
   refine (iF14.calls k A5 c5 qt ms mi _ (kR_ HT.out).2.2 (kR_ HT.out).2.1 HMM.out).mono ?_
   rintro e w6 ⟨v6, v7, rfl, hs, hi, hb⟩
   obtain ⟨A6, c6, e6⟩ := Kd.S_slice hs
   subst e6
   have hb7 := bA_ hb (.cells #[.slice A6 ms.length c6] 33 (0, 0))
   have HMS := aM_ (Kd.S_alloc hs (.cells #[.slice A6 ms.length c6] 33 (0, 0)))
   have HTc := aM_ (kB_ HT.out hb7)
   have H1c := aM_ (bB_ H1b.out hb7)
   have H2c := aM_ (bB_ H2b.out hb7)
   have HBc := aM_ (bT_ HBb.out hb7)
   have H5c := aM_ (bB_ H5.out hb7)
   have h7 : (w6.alloc (.cells #[.slice A6 ms.length c6] 33 (0, 0))).heap[w6.heap.size]? = some (.cells #[.slice A6 ms.length c6] 33 (0, 0)) := blk_new _ _
   have h7c : (w6.alloc (.cells #[.slice A6 ms.length c6] 33 (0, 0))).cell? ⟨w6.heap.size, 0, none⟩ = some (.slice A6 ms.length c6) := (bC_ h7 0).trans rfl
   have h1c : (w6.alloc (.cells #[.slice A6 ms.length c6] 33 (0, 0))).cell? ⟨w.heap.size, 0, none⟩ = some (.slice A0_0 l0_0.length c0_0) := (bC_ H1c.out 0).trans rfl
   clear hs hi hb hb7 h7 HT H1b H2b HBb H5 h5c
   go_wp2_with fail
   refine (xF48.calls k A6 c6 ms A0_0 c0_0 l0_0 eb _ (Kd.S_reads' HMS.out).2.2 (Kd.S_reads' HMS.out).2.1 (k4_ HM.out HBc.out) HCM.out HE.out).mono ?_
   rintro e w8 ⟨rfl, hb⟩
   have HTd := k9_ HTc hb
   have H2d := b5_ H2c hb
   have HBd := aM_ (bT_ HBc.out hb)
   have H5d := b5_ H5c hb
   clear hb HMS HTc H1c H2c HBc H5c h7c h1c
   have h2c : w8.cell? ⟨w.heap.size + 1, 0, none⟩ = some (.slice none 0 0) := (bC_ H2d.out 0).trans rfl
   have h2f := bF_ H2d.out 0
   have h5c : w8.cell? ⟨w5.heap.size, 0, none⟩ = some (.slice A5 qt.length c5) := (bC_ H5d.out 0).trans rfl
   cases eb with
   | false =>
    have hq3 : some (([] : List S96), false) = some (r1, r2) := hq2
    simp only [Option.some.injEq, Prod.mk.injEq] at hq3
    obtain ⟨rfl, rfl⟩ := hq3
    go_wp2_with fail
    refine bodyPost_ret (results_ct rfl _ _ (w.heap.size + 1) 28 #[.slice none 0 0] (0, 0) _ rfl (by exact bP_ H2d.out 0 _ rfl) Tryz.underlying28 rfl (by kernel_rfl)) rfl ?_
    exact ⟨_, rfl, Kd.R_nil _ _ _ _ _, bS_ HBd.out (by omega)⟩
   | true =>
    have hq3 : some (qt, true) = some (r1, r2) := hq2
    simp only [Option.some.injEq, Prod.mk.injEq] at hq3
    obtain ⟨rfl, rfl⟩ := hq3
    go_wp2_with fail
    refine bodyPost_ret (results_ct rfl _ _ (w.heap.size + 1) 28 #[.slice A5 qt.length c5] (0, 0) _ rfl (bP_ H2d.out 0 _ rfl) Tryz.underlying28 rfl (by kernel_rfl)) rfl ?_
    exact ⟨_, rfl, kM_ (kF_ (kT_ HTd.out H2d.out (by decide)) (fun _ hk => hk.2) _) (fun _ h => h.1), bS_ HBd.out (by omega)⟩
end Go.Proofs.YtnnkedeohfbkeaaGreatDoor.P
namespace Go.Proofs.YtnnkedeohfbkeaaGreatDoor.P
open Go.RowKit Go.Proofs.YtnnkedeohfbkeaaGreatDoorW.PrintWords Go.Proofs.YtnnkedeohfbkeaaGreatDoorW.PrintLast Go.Proofs.YtnnkedeohfbkeaaGreatDoorW.PrintMore
attribute [local go_sem] max2_int min2_int max_two min_two max_three min_three max_four min_four
set_option maxHeartbeats 2000000 in
theorem xF0.calls (p : ByteArray → Bool) (g : Nat) (lb : Array Value) (eg : ∀ args w, (callFunc g args).run Tryz.prog w = .ok (.enter g args) w) (A0 : Option Addr) (c0 : Nat) (l0 : List ByteArray) (w : World)
  (hr0 : Kd.C Kd.string w A0 l0.length l0) (hbig : l0.length ≤ 9223372036854775807) (hp : PredBS Tryz.prog g lb Value.string p l0 w) :
  Calls Tryz.prog 112 #[.slice A0 l0.length c0, .func (.func g) #[] lb] w fun e w' => e = .returned (.bool (l0.any p)) ∧ Below w.heap.size w w' := by
 have HC := Aside0.mk (xF2.calls p g lb eg A0 c0 l0 w hr0 hbig hp)
 clear hp hr0
 go_enter Tryz.func112, Tryz.ntmps112
 go_wp2_with (go_at_call 134; refine HC.out.mono ?_; rintro e w' ⟨rfl, hb0⟩; have hb := Aside0.mk hb0; clear hb0)
 go_ret
 exact ⟨by rw [← idxByS_any p l0 0]; rfl, hb.out⟩
def iF21.p (x : ByteArray) : Bool := decide ((x.size : Int) > 12)
def iF21.f (l0 : List ByteArray) : Option Bool := some (l0.any iF21.p)
set_option maxHeartbeats 1000000 in
theorem iF21.lit (l0 : List ByteArray) (w : World) : PredBS Tryz.prog 113 #[] Value.string iF21.p l0 w := by
 intro W x _ _
 show Calls Tryz.prog 113 #[.string x] W _
 go_enter Tryz.func113, Tryz.ntmps113
 go_wp2
 go_ret
 exact ⟨rfl, Below.refl _ _⟩
theorem iF21.calls (A0 : Option Addr) (c0 : Nat) (l0 : List ByteArray) (r : Bool) (w : World) (hr0 : Kd.C Kd.string w A0 l0.length l0) (hc0 : l0.length ≤ c0) (h : iF21.f l0 = some r) :
  Calls Tryz.prog 112 #[.slice A0 l0.length c0, .func (.func 113) #[] #[]] w fun e w' => e = .returned (.bool r) ∧ Below w.heap.size w w' := by
 obtain rfl := Option.some.inj h
 exact xF0.calls iF21.p 113 #[] (Go.Proofs.enters_of Tryz.func113 (by kernel_rfl) rfl) A0 c0 l0 w hr0 hr0.2.1 (iF21.lit l0 w)
end Go.Proofs.YtnnkedeohfbkeaaGreatDoor.P
namespace Go.Proofs.YtnnkedeohfbkeaaGreatDoor.P
open Go.RowKit Go.Proofs.YtnnkedeohfbkeaaGreatDoorW.PrintWords Go.Proofs.YtnnkedeohfbkeaaGreatDoorW.PrintLast Go.Proofs.YtnnkedeohfbkeaaGreatDoorW.PrintMore
open Go.Proofs.YtnnkedeohfbkeaaGreatDoorW.PrintWords renaming blk_frozen → bF_, blk_cell → bC_, below_set → bS_, blk_below → bB_, below_step → bT_, pw_below_drewN → bN_, below_size → bZ_, below_drew1 → bD_, below_alloc → bA_, blk_far → bR_, gate_callee → gC_, gate_dst → gD_, box_event → bE_, blk_drew → b1_, blk_put → bP_, blk_drewN → b2_, blk_alloc → b3_, blk_lt → bL_, cell_far → cF_
open Go.Proofs.YtnnkedeohfbkeaaGreatDoorW.PrintLast renaming any_of → aO_, i64_w → i6_, i32_w → i3_, take_ofW → tW_
open Go.Proofs.YtnnkedeohfbkeaaGreatDoorW.PrintWords.Kd renaming R_below → kB_, R_mono → kM_, R_far → kF_, R_reads' → kR_, R_types → kT_, R_slice → kS_, R_celln → kC_, R_alloc → k1_, R_drewN → k2_, R_drew → k3_, C_below → k4_, R_lower → k5_, R_ne → k6_, own_blk → k7_
open Go.Proofs.YtnnkedeohfbkeaaGreatDoorW.PrintWords.LeO renaming none → l0_, bind → l1_, ite → l2_, refl → l3_
open World renaming block_lt_of_cell? → wB_
open _root_.Option renaming bind_eq_some_iff → oB_
open _root_.ByteArray renaming empty → eB_
open List renaming setIfInBounds_toArray → sA_, set_cons_zero → sB_, set_cons_succ → sC_, map_toArray → sD_, map_cons → sE_, map_nil → sF_, length_drop → sG_, length_take → sH_
open Bool renaming true → ty, false → fy
open Aside0 renaming mk → aM_
attribute [local go_sem] max2_int min2_int max_two min_two max_three min_three max_four min_four
def xF51.l0 : Nat → List ByteArray → Int → Option (Bool)
 | 0, _, _ => none
 | k + 1, x0, x3 => if x3 > 0 then (if 0 ≤ x3 then (if x3 < (x0.length : Int) then (if 0 ≤ (wrap64 (x3 - 1)) then (if (wrap64 (x3 - 1)) < (x0.length : Int) then ((xF5.f (rdOf eB_ x0 x3) (rdOf eB_ x0 (wrap64 (x3 - 1)))).bind fun t649 => (if t649 = true then (some false) else (xF51.l0 k x0 (wrap64 (x3 - 1))))) else (none)) else (none)) else (none)) else (none)) else (some true)
def xF51.f (k : Nat) (l0 : List ByteArray) : Option (Bool) := xF51.l0 k l0 (wrap64 ((l0.length : Int) - 1))
theorem xF51.mono_l : ∀ k, (∀ y0 y1, LeO (xF51.l0 k y0 y1) (xF51.l0 (k + 1) y0 y1))
 | 0 => fun _ _ r h => by simp [xF51.l0] at h
 | k + 1 => by
  have ih0 := xF51.mono_l k
  intro y0 y1
  unfold xF51.l0
  repeat' with_reducible first | exact ih0 _ _ | exact l3_ _ | exact l0_ _ | refine l2_ ?_ ?_ | refine l1_ ?_ (fun _ => ?_)
theorem xF51.mono : ∀ a0 k, LeO (xF51.f k a0) (xF51.f (k + 1) a0) := by
 intro a0 k
 have ih0 := xF51.mono_l k
 unfold xF51.f
 repeat' with_reducible first | exact ih0 _ _ | exact l3_ _ | exact l0_ _ | refine l2_ ?_ ?_ | refine l1_ ?_ (fun _ => ?_)
theorem xF51.calls (k : Nat) (A0 : Option Addr) (c0 : Nat) (l0 : List ByteArray) (r : Bool) (w : World) (hr0 : Kd.C Kd.string w A0 l0.length l0) (hc0 : l0.length ≤ c0) (h : xF51.f k l0 = some r) :
  Calls Tryz.prog 114 #[.slice A0 l0.length c0] w fun e w' => e = .returned (.bool r) ∧ Drawn0 w w' := by
 have HR0 := aM_ hr0
 have HC0 := aM_ hc0
 clear hr0 hc0
 have H : (xF51.l0 k l0 (wrap64 ((l0.length : Int) - 1))) = some r := h
 clear h
 have H' := aM_ H
 clear H
 go_enter Tryz.func114, Tryz.ntmps114
 go_wp2
 repeat (go_quiet (fail); try go_wp2)
 go_loopg [3] k (fun kq v3 w' => ∃ (x3_1 : Int), v3 = .int .i64 x3_1 ∧ Aside0 (xF51.l0 kq l0 x3_1 = some r) ∧ Aside0 (kq ≤ k) ∧ Drawn0 w w')
 case atStart => exact ⟨(wrap64 ((l0.length : Int) - 1)), (by rfl), H', ⟨Nat.le_refl _⟩, by repeat (first | exact Drawn0.refl _ | apply Drawn0.step)⟩
 clear H'
 obtain ⟨x3_1, rfl, HA, HK1, ⟨m1, rfl⟩⟩ := hrel
 cases gk with
 | zero => exact absurd HA.out (by simp [xF51.l0])
 | succ k1 =>
  have H := HA.out
  clear HA
  simp only [xF51.l0] at H
  by_cases c2 : x3_1 > 0
  rotate_left
  ·
   rw [if_neg c2] at H
   have c2b0 := dF_ c2
   clear c2
   obtain rfl := Option.some.inj H
   go_wp2
   repeat (go_quiet (fail); try go_wp2)
   go_ret
   exact ⟨by rfl, by repeat (first | exact Drawn0.refl _ | apply Drawn0.step)⟩
  rw [if_pos c2] at H
  have c2b0 := dT_ c2
  clear c2
  by_cases c3 : 0 ≤ x3_1
  rotate_left
  ·
   rw [if_neg c3] at H
   exact absurd H (by simp)
  rw [if_pos c3] at H
  have c3b0 := dT_ c3
  clear c3
  by_cases c4 : x3_1 < (l0.length : Int)
  rotate_left
  ·
   rw [if_neg c4] at H
   exact absurd H (by simp)
  rw [if_pos c4] at H
  have c4b0 := dT_ c4
  clear c4
  obtain ⟨ji5, hji5⟩ : ∃ j_ : Int, (wrap64 (x3_1 - 1)) = j_ := ⟨_, rfl⟩
  replace H : (if 0 ≤ (ji5) then (if (ji5) < (l0.length : Int) then ((xF5.f (rdOf eB_ l0 x3_1) (rdOf eB_ l0 (ji5))).bind fun t649 => (if t649 = true then (some false) else (xF51.l0 k1 l0 ji5))) else (none)) else (none)) = some r := by first | (rw [hji5] at H; exact H) | (simp only [hji5] at H ⊢; exact H)
  have hji5w : (IntKind.i64.wrap (x3_1 - 1)) = ji5 := (i6_ _).trans hji5
  by_cases c6 : 0 ≤ (ji5)
  rotate_left
  ·
   rw [if_neg c6] at H
   exact absurd H (by simp)
  rw [if_pos c6] at H
  have c6b0 := dT_ c6
  clear c6
  by_cases c7 : (ji5) < (l0.length : Int)
  rotate_left
  ·
   rw [if_neg c7] at H
   exact absurd H (by simp)
  rw [if_pos c7] at H
  have c7b0 := dT_ c7
  clear c7
  replace H := oB_.mp H
  obtain ⟨t649, A80, H⟩ := H
  try dsimp only at H
  have A8 := aM_ A80
  clear A80
  by_cases c9 : t649 = true
  ·
   subst c9
   rw [if_pos rfl] at H
   obtain rfl := Option.some.inj H
   have p647 : 0 ≤ (x3_1 : Int) := oD_ ‹_›
   have q647 : x3_1 < (l0.length : Int) := oD_ ‹_›
   obtain ⟨ad647, e647, hx647_0⟩ := Kd.at_string HR0.out x3_1 p647 q647
   cases e647
   replace p647 := eq_true p647
   replace q647 := eq_true q647
   have p648 : 0 ≤ ((ji5) : Int) := oD_ ‹_›
   have q648 : (ji5) < (l0.length : Int) := oD_ ‹_›
   obtain ⟨ad648, e648, hx648_0⟩ := Kd.at_string HR0.out (ji5) p648 q648
   obtain rfl : ad647 = ad648 := (by injection e648)
   replace p648 := eq_true p648
   replace q648 := eq_true q648
   go_wp2_with (first | (go_at_call 116; (with_reducible refine (xF5.calls (rdOf eB_ l0 x3_1) (rdOf eB_ l0 (ji5)) true _ A8.out).mono ?_); rintro e w' ⟨rfl, ⟨nd, rfl⟩⟩; (try first | exact ⟨rfl, _, World.drewN_drewN _ _ _⟩ | exact ⟨rfl, _, Eq.trans (World.drewN_drewN _ _ _) (congrArg (World.drewN _) (Nat.add_assoc _ _ _))⟩)))
   repeat (go_quiet (first | (go_at_call 116; (with_reducible refine (xF5.calls (rdOf eB_ l0 x3_1) (rdOf eB_ l0 (ji5)) true _ A8.out).mono ?_); rintro e w' ⟨rfl, ⟨nd, rfl⟩⟩; (try exact ⟨rfl, _, Eq.trans (World.drewN_drewN _ _ _) (congrArg (World.drewN _) (Nat.add_assoc _ _ _))⟩))); try go_wp2_with (first | (go_at_call 116; (with_reducible refine (xF5.calls (rdOf eB_ l0 x3_1) (rdOf eB_ l0 (ji5)) true _ A8.out).mono ?_); rintro e w' ⟨rfl, ⟨nd, rfl⟩⟩; (try first | exact ⟨rfl, _, World.drewN_drewN _ _ _⟩ | exact ⟨rfl, _, Eq.trans (World.drewN_drewN _ _ _) (congrArg (World.drewN _) (Nat.add_assoc _ _ _))⟩))))
   go_ret
   exact ⟨by rfl, by repeat (first | exact Drawn0.refl _ | apply Drawn0.step)⟩
  replace c9 := Bool.eq_false_iff.mpr c9
  subst c9
  replace H : (xF51.l0 k1 l0 ji5) = some r := by rw [if_neg (show ¬ (false = true) by decide)] at H; exact H
  have H' := aM_ H
  clear H
  have p647 : 0 ≤ (x3_1 : Int) := oD_ ‹_›
  have q647 : x3_1 < (l0.length : Int) := oD_ ‹_›
  obtain ⟨ad647, e647, hx647_0⟩ := Kd.at_string HR0.out x3_1 p647 q647
  cases e647
  replace p647 := eq_true p647
  replace q647 := eq_true q647
  have p648 : 0 ≤ ((ji5) : Int) := oD_ ‹_›
  have q648 : (ji5) < (l0.length : Int) := oD_ ‹_›
  obtain ⟨ad648, e648, hx648_0⟩ := Kd.at_string HR0.out (ji5) p648 q648
  obtain rfl : ad647 = ad648 := (by injection e648)
  replace p648 := eq_true p648
  replace q648 := eq_true q648
  go_wp2_with (first | (go_at_call 116; (with_reducible refine (xF5.calls (rdOf eB_ l0 x3_1) (rdOf eB_ l0 (ji5)) false _ A8.out).mono ?_); rintro e w' ⟨rfl, ⟨nd, rfl⟩⟩; (try first | exact ⟨rfl, _, World.drewN_drewN _ _ _⟩ | exact ⟨rfl, _, Eq.trans (World.drewN_drewN _ _ _) (congrArg (World.drewN _) (Nat.add_assoc _ _ _))⟩)))
  repeat (go_quiet (first | (go_at_call 116; (with_reducible refine (xF5.calls (rdOf eB_ l0 x3_1) (rdOf eB_ l0 (ji5)) false _ A8.out).mono ?_); rintro e w' ⟨rfl, ⟨nd, rfl⟩⟩; (try exact ⟨rfl, _, Eq.trans (World.drewN_drewN _ _ _) (congrArg (World.drewN _) (Nat.add_assoc _ _ _))⟩))); try go_wp2_with (first | (go_at_call 116; (with_reducible refine (xF5.calls (rdOf eB_ l0 x3_1) (rdOf eB_ l0 (ji5)) false _ A8.out).mono ?_); rintro e w' ⟨rfl, ⟨nd, rfl⟩⟩; (try first | exact ⟨rfl, _, World.drewN_drewN _ _ _⟩ | exact ⟨rfl, _, Eq.trans (World.drewN_drewN _ _ _) (congrArg (World.drewN _) (Nat.add_assoc _ _ _))⟩))))
  go_roundg k1
  case measure => have := HK1.out; omega
  case rel => exact ⟨(ji5), (by rfl), H', ⟨by have := HK1.out; omega⟩, by repeat (first | exact Drawn0.refl _ | apply Drawn0.step)⟩
end Go.Proofs.YtnnkedeohfbkeaaGreatDoor.P
namespace Go.Proofs.YtnnkedeohfbkeaaGreatDoor.P
open Go.RowKit Go.Proofs.YtnnkedeohfbkeaaGreatDoorW.PrintWords Go.Proofs.YtnnkedeohfbkeaaGreatDoorW.PrintLast Go.Proofs.YtnnkedeohfbkeaaGreatDoorW.PrintMore
attribute [local go_sem] max2_int min2_int max_two min_two max_three min_three max_four min_four
theorem eqA96 (d : Nat) (w : World) (x0 y0 : Int) (x1 y1 : Int) (x2 y2 : Bool) :
    (Op.equalIn (d + 2) 96 (.agg #[.int .i64 x0, .int .i64 x1, .bool x2]) (.agg #[.int .i64 y0, .int .i64 y1, .bool y2])).run Tryz.prog w = .ok (x0 == y0 && (x1 == y1 && (x2 == y2))) w := by
  refine eqA_of Tryz.underlying96 (by kernel_rfl) ?_
  refine eqf_cons (by rfl) (by go_simp; rfl) (by go_simp; rfl) (by go_simp) ?_
  refine eqf_cons (by rfl) (by go_simp; rfl) (by go_simp; rfl) (by go_simp) ?_
  exact eqf_last (by rfl) (by go_simp; rfl) (by go_simp; rfl) (by go_simp)
end Go.Proofs.YtnnkedeohfbkeaaGreatDoor.P
namespace Go.Proofs.YtnnkedeohfbkeaaGreatDoor.P
open Go.RowKit Go.Proofs.YtnnkedeohfbkeaaGreatDoorW.PrintWords Go.Proofs.YtnnkedeohfbkeaaGreatDoorW.PrintLast Go.Proofs.YtnnkedeohfbkeaaGreatDoorW.PrintMore
open Go.Proofs.YtnnkedeohfbkeaaGreatDoorW.PrintWords renaming blk_frozen → bF_, blk_cell → bC_, below_set → bS_, blk_below → bB_, below_step → bT_, pw_below_drewN → bN_, below_size → bZ_, below_drew1 → bD_, below_alloc → bA_, blk_far → bR_, gate_callee → gC_, gate_dst → gD_, box_event → bE_, blk_drew → b1_, blk_put → bP_, blk_drewN → b2_, blk_alloc → b3_, blk_lt → bL_, cell_far → cF_
open Go.Proofs.YtnnkedeohfbkeaaGreatDoorW.PrintLast renaming any_of → aO_, i64_w → i6_, i32_w → i3_, take_ofW → tW_
open Go.Proofs.YtnnkedeohfbkeaaGreatDoorW.PrintWords.Kd renaming R_below → kB_, R_mono → kM_, R_far → kF_, R_reads' → kR_, R_types → kT_, R_slice → kS_, R_celln → kC_, R_alloc → k1_, R_drewN → k2_, R_drew → k3_, C_below → k4_, R_lower → k5_, R_ne → k6_, own_blk → k7_
open Go.Proofs.YtnnkedeohfbkeaaGreatDoorW.PrintWords.LeO renaming none → l0_, bind → l1_, ite → l2_, refl → l3_
open World renaming block_lt_of_cell? → wB_
open _root_.Option renaming bind_eq_some_iff → oB_
open _root_.ByteArray renaming empty → eB_
open List renaming setIfInBounds_toArray → sA_, set_cons_zero → sB_, set_cons_succ → sC_, map_toArray → sD_, map_cons → sE_, map_nil → sF_, length_drop → sG_, length_take → sH_
open Bool renaming true → ty, false → fy
open Aside0 renaming mk → aM_
attribute [local go_sem] max2_int min2_int max_two min_two max_three min_three max_four min_four
attribute [local go_sem high] eqA96
def iF8.l0 : Nat → List (S96) → List (S96) → Int → Int → Option (Bool)
 | 0, _, _, _, _ => none
 | k + 1, x0, x1, x12, x13 => if x13 < x12 then (if 0 ≤ x13 then (if x13 < (x0.length : Int) then (if x13 < (x1.length : Int) then (if (!(((rd_T96 x0 x13).f0) == ((rd_T96 x1 x13).f0)) || (!(((rd_T96 x0 x13).f1) == ((rd_T96 x1 x13).f1)) || (!(((rd_T96 x0 x13).f2) == ((rd_T96 x1 x13).f2))))) = true then (some false) else (iF8.l0 k x0 x1 x12 (wrap64 (x13 + 1)))) else (none)) else (none)) else (none)) else (some true)
def iF8.f (k : Nat) (l0 : List (S96)) (l1 : List (S96)) : Option (Bool) := if (l0.length : Int) = (l1.length : Int) then (iF8.l0 k l0 l1 (l0.length : Int) 0) else (some false)
theorem iF8.mono_l : ∀ k, (∀ y0 y1 y2 y3, LeO (iF8.l0 k y0 y1 y2 y3) (iF8.l0 (k + 1) y0 y1 y2 y3))
 | 0 => fun _ _ _ _ r h => by simp [iF8.l0] at h
 | k + 1 => by
  have ih0 := iF8.mono_l k
  intro y0 y1 y2 y3
  unfold iF8.l0
  repeat' with_reducible first | exact ih0 _ _ _ _ | exact l3_ _ | exact l0_ _ | refine l2_ ?_ ?_ | refine l1_ ?_ (fun _ => ?_)
theorem iF8.mono : ∀ a0 a1 k, LeO (iF8.f k a0 a1) (iF8.f (k + 1) a0 a1) := by
 intro a0 a1 k
 have ih0 := iF8.mono_l k
 unfold iF8.f
 repeat' with_reducible first | exact ih0 _ _ _ _ | exact l3_ _ | exact l0_ _ | refine l2_ ?_ ?_ | refine l1_ ?_ (fun _ => ?_)
theorem iF8.calls (k : Nat) (A0 : Option Addr) (c0 : Nat) (l0 : List (S96)) (A1 : Option Addr) (c1 : Nat) (l1 : List (S96)) (r : Bool) (w : World) (hr0 : Kd.C k96 w A0 l0.length l0) (hc0 : l0.length ≤ c0) (hr1 : Kd.C k96 w A1 l1.length l1) (hc1 : l1.length ≤ c1) (h : iF8.f k l0 l1 = some r) :
  Calls Tryz.prog 115 #[.slice A0 l0.length c0, .slice A1 l1.length c1] w fun e w' => e = .returned (.bool r) ∧ Drawn0 w w' := by
 have hu96 := Tryz.underlying96
 have HR0 := aM_ hr0
 have HC0 := aM_ hc0
 clear hr0 hc0
 have HR1 := aM_ hr1
 have HC1 := aM_ hc1
 clear hr1 hc1
 have H : (if (l0.length : Int) = (l1.length : Int) then (iF8.l0 k l0 l1 (l0.length : Int) 0) else (some false)) = some r := h
 clear h
 by_cases c3 : (l0.length : Int) = (l1.length : Int)
 rotate_left
 ·
  rw [if_neg c3] at H
  have c3b0 : ((l0.length : Int) == (l1.length : Int)) = false := beq_eq_false_iff_ne.mpr c3
  have c3b1 : ((l0.length : Int) != (l1.length : Int)) = true := bne_iff_ne.mpr c3
  have c3b2 : (l0.length == l1.length) = false := by first | simpa using c3 | (simp at c3 ⊢; omega)
  obtain rfl := Option.some.inj H
  go_enter Tryz.func115, Tryz.ntmps115
  go_wp2
  repeat (go_quiet (fail); try go_wp2)
  go_ret
  exact ⟨by rfl, by repeat (first | exact Drawn0.refl _ | apply Drawn0.step)⟩
 rw [if_pos c3] at H
 have c3b0 : ((l0.length : Int) == (l1.length : Int)) = true := beq_iff_eq.mpr c3
 have c3b1 : ((l0.length : Int) != (l1.length : Int)) = false := bne_eq_false_iff_eq.mpr c3
 have c3b2 : (l0.length == l1.length) = true := by first | simpa using c3 | (simp at c3 ⊢; omega)
 clear c3
 have H' := aM_ H
 clear H
 go_enter Tryz.func115, Tryz.ntmps115
 go_wp2
 repeat (go_quiet (fail); try go_wp2)
 go_loopg [13] k (fun kq v13 w' => ∃ (x13_1 : Int), v13 = .int .i64 x13_1 ∧ Aside0 (iF8.l0 kq l0 l1 (l0.length : Int) x13_1 = some r) ∧ Aside0 (kq ≤ k) ∧ Drawn0 w w')
 case atStart => exact ⟨(0), (by rfl), H', ⟨Nat.le_refl _⟩, by repeat (first | exact Drawn0.refl _ | apply Drawn0.step)⟩
 clear H'
 try clear p2
 try clear c3b0
 try clear c3b1
 try clear c3b2
 obtain ⟨x13_1, rfl, HA, HK1, ⟨m1, rfl⟩⟩ := hrel
 cases gk with
 | zero => exact absurd HA.out (by simp [iF8.l0])
 | succ k1 =>
  have H := HA.out
  clear HA
  simp only [iF8.l0] at H
  by_cases c4 : x13_1 < (l0.length : Int)
  rotate_left
  ·
   rw [if_neg c4] at H
   have c4b0 := dF_ c4
   clear c4
   obtain rfl := Option.some.inj H
   go_wp2
   repeat (go_quiet (fail); try go_wp2)
   go_ret
   exact ⟨by rfl, by repeat (first | exact Drawn0.refl _ | apply Drawn0.step)⟩
  rw [if_pos c4] at H
  have c4b0 := dT_ c4
  clear c4
  by_cases c5 : 0 ≤ x13_1
  rotate_left
  ·
   rw [if_neg c5] at H
   exact absurd H (by simp)
  rw [if_pos c5] at H
  have c5b0 := dT_ c5
  clear c5
  by_cases c6 : x13_1 < (l0.length : Int)
  rotate_left
  ·
   rw [if_neg c6] at H
   exact absurd H (by simp)
  rw [if_pos c6] at H
  have c6b0 := dT_ c6
  clear c6
  by_cases c7 : x13_1 < (l1.length : Int)
  rotate_left
  ·
   rw [if_neg c7] at H
   exact absurd H (by simp)
  rw [if_pos c7] at H
  have c7b0 := dT_ c7
  clear c7
  by_cases c8 : (!(((rd_T96 l0 x13_1).f0) == ((rd_T96 l1 x13_1).f0)) || (!(((rd_T96 l0 x13_1).f1) == ((rd_T96 l1 x13_1).f1)) || (!(((rd_T96 l0 x13_1).f2) == ((rd_T96 l1 x13_1).f2))))) = true
  ·
   rw [if_pos c8] at H
   have c8b0 : (!(((rd_T96 l0 x13_1).f0) == ((rd_T96 l1 x13_1).f0)) || (!(((rd_T96 l0 x13_1).f1) == ((rd_T96 l1 x13_1).f1)) || (!(((rd_T96 l0 x13_1).f2) == ((rd_T96 l1 x13_1).f2))))) = true := c8
   clear c8
   obtain rfl := Option.some.inj H
   have p650 : 0 ≤ (x13_1 : Int) := oD_ ‹_›
   have q650 : x13_1 < (l0.length : Int) := oD_ ‹_›
   obtain ⟨ad650, e650, hx650_0, hx650_1, hx650_2⟩ := at_T96 HR0.out x13_1 p650 q650
   cases e650
   replace p650 := eq_true p650
   replace q650 := eq_true q650
   have p651 : 0 ≤ (x13_1 : Int) := oD_ ‹_›
   have q651 : x13_1 < (l1.length : Int) := oD_ ‹_›
   obtain ⟨ad651, e651, hx651_0, hx651_1, hx651_2⟩ := at_T96 HR1.out x13_1 p651 q651
   cases e651
   replace p651 := eq_true p651
   replace q651 := eq_true q651
   go_wp2
   repeat (go_quiet (fail); try go_wp2)
   go_ret
   exact ⟨by rfl, by repeat (first | exact Drawn0.refl _ | apply Drawn0.step)⟩
  rw [if_neg c8] at H
  have c8b0 : (!(((rd_T96 l0 x13_1).f0) == ((rd_T96 l1 x13_1).f0)) || (!(((rd_T96 l0 x13_1).f1) == ((rd_T96 l1 x13_1).f1)) || (!(((rd_T96 l0 x13_1).f2) == ((rd_T96 l1 x13_1).f2))))) = false := by simpa using c8
  clear c8
  have H' := aM_ H
  clear H
  have p650 : 0 ≤ (x13_1 : Int) := oD_ ‹_›
  have q650 : x13_1 < (l0.length : Int) := oD_ ‹_›
  obtain ⟨ad650, e650, hx650_0, hx650_1, hx650_2⟩ := at_T96 HR0.out x13_1 p650 q650
  cases e650
  replace p650 := eq_true p650
  replace q650 := eq_true q650
  have p651 : 0 ≤ (x13_1 : Int) := oD_ ‹_›
  have q651 : x13_1 < (l1.length : Int) := oD_ ‹_›
  obtain ⟨ad651, e651, hx651_0, hx651_1, hx651_2⟩ := at_T96 HR1.out x13_1 p651 q651
  cases e651
  replace p651 := eq_true p651
  replace q651 := eq_true q651
  go_wp2
  repeat (go_quiet (fail); try go_wp2)
  go_roundg k1
  case measure => have := HK1.out; omega
  case rel => exact ⟨(wrap64 (x13_1 + 1)), (by rfl), H', ⟨by have := HK1.out; omega⟩, by repeat (first | exact Drawn0.refl _ | apply Drawn0.step)⟩
end Go.Proofs.YtnnkedeohfbkeaaGreatDoor.P
namespace Go.Proofs.YtnnkedeohfbkeaaGreatDoor.P
open Go.RowKit Go.Proofs.YtnnkedeohfbkeaaGreatDoorW.PrintWords Go.Proofs.YtnnkedeohfbkeaaGreatDoorW.PrintLast Go.Proofs.YtnnkedeohfbkeaaGreatDoorW.PrintMore
open Go.Proofs.YtnnkedeohfbkeaaGreatDoorW.PrintWords renaming blk_frozen → bF_, blk_cell → bC_, below_set → bS_, blk_below → bB_, below_step → bT_, pw_below_drewN → bN_, below_size → bZ_, below_drew1 → bD_, below_alloc → bA_, blk_far → bR_, gate_callee → gC_, gate_dst → gD_, box_event → bE_, blk_drew → b1_, blk_put → bP_, blk_drewN → b2_, blk_alloc → b3_, blk_lt → bL_, cell_far → cF_
open Go.Proofs.YtnnkedeohfbkeaaGreatDoorW.PrintLast renaming any_of → aO_, i64_w → i6_, i32_w → i3_, take_ofW → tW_
open Go.Proofs.YtnnkedeohfbkeaaGreatDoorW.PrintWords.Kd renaming R_below → kB_, R_mono → kM_, R_far → kF_, R_reads' → kR_, R_types → kT_, R_slice → kS_, R_celln → kC_, R_alloc → k1_, R_drewN → k2_, R_drew → k3_, C_below → k4_, R_lower → k5_, R_ne → k6_, own_blk → k7_
open Go.Proofs.YtnnkedeohfbkeaaGreatDoorW.PrintWords.LeO renaming none → l0_, bind → l1_, ite → l2_, refl → l3_
open World renaming block_lt_of_cell? → wB_
open _root_.Option renaming bind_eq_some_iff → oB_
open _root_.ByteArray renaming empty → eB_
open List renaming setIfInBounds_toArray → sA_, set_cons_zero → sB_, set_cons_succ → sC_, map_toArray → sD_, map_cons → sE_, map_nil → sF_, length_drop → sG_, length_take → sH_
open Bool renaming true → ty, false → fy
open Aside0 renaming mk → aM_
attribute [local go_sem] max2_int min2_int max_two min_two max_three min_three max_four min_four
def iF20.j0 : Nat → Bool → List (S96) → Option (Bool)
 | 0, _, _ => none
 | k + 1, x16, x653000 => if x16 = true then (some false) else ((iF17.f k x653000).bind fun t658 => (if (t658.length : Int) ≤ 40 then ((xF51.f k t658).bind fun t661 => (if t661 = true then ((iF28.f k t658).bind fun t662 => ((iF8.f k t662 x653000).bind fun t665 => (some t665))) else (some false))) else (some false)))
def iF20.f (k : Nat) (l0_0 : List (S96)) : Option (Bool) := (iF15.f k l0_0).bind fun bt653 => (if bt653.2 = true then ((iF21.f bt653.1).bind fun t657 => (iF20.j0 k t657 l0_0)) else (iF20.j0 k true l0_0))
theorem iF20.mono_l : ∀ k, (∀ y0 y1, LeO (iF20.j0 k y0 y1) (iF20.j0 (k + 1) y0 y1))
 | 0 => fun _ _ r h => by simp [iF20.j0] at h
 | k + 1 => by
  have ih0 := iF20.mono_l k
  intro y0 y1
  unfold iF20.j0
  repeat' with_reducible first | exact ih0 _ _ | exact iF8.mono _ _ _ | exact iF15.mono _ _ | exact iF17.mono _ _ | exact iF28.mono _ _ | exact xF51.mono _ _ | exact l3_ _ | exact l0_ _ | refine l2_ ?_ ?_ | refine l1_ ?_ (fun _ => ?_)
theorem iF20.mono : ∀ a0 k, LeO (iF20.f k a0) (iF20.f (k + 1) a0) := by
 intro a0 k
 have ih0 := iF20.mono_l k
 unfold iF20.f
 repeat' with_reducible first | exact ih0 _ _ | exact iF8.mono _ _ _ | exact iF15.mono _ _ | exact iF17.mono _ _ | exact iF28.mono _ _ | exact xF51.mono _ _ | exact l3_ _ | exact l0_ _ | refine l2_ ?_ ?_ | refine l1_ ?_ (fun _ => ?_)
def iF20.T5 : Bool × List (List Nat × List Nat) := (true, [([], []), ([0], [0]), ([1], [1]), ([2], [2]), ([3], [3]), ([4, 3, 3], [3, 4]), ([3, 5], [3, 5]), ([6, 5], [6]), ([7], [7]), ([8, 7, 7], [7, 8]), ([9, 7], [7, 9]), ([7], [7]), ([11, 7], [7, 11]), ([10, 12, 9, 7], [7, 10, 12]), ([7, 13], [7, 13]), ([14, 13, 0, 1, 2, 3, 4, 5, 6, 7, 8, 9, 10, 11, 12, 13, 14], [14])])
def iF20.B5 : List Nat := [0, 1, 3, 7, 15, 31, 63, 127, 255, 511, 1023, 255, 2303, 8191, 16383, 32767]
theorem iF20.tab5 : rtab .any (opsOf Tryz.f91 5) = iF20.T5 := by kernel_rfl
theorem iF20.bits5 : waitsOk iF20.T5.2 iF20.B5 = true := by kernel_rfl
theorem iF20.calls (k : Nat) (A0_0 : Option Addr) (c0_0 : Nat) (l0_0 : List (S96)) (r : Bool) (w : World) (hr0_0 : Kd.C k96 w A0_0 l0_0.length l0_0) (hc0_0 : l0_0.length ≤ c0_0) (h : iF20.f k l0_0 = some r) :
  Calls Tryz.prog 91 #[.agg #[.slice A0_0 l0_0.length c0_0]] w fun e w' => e = .returned (.bool r) ∧ Below w.heap.size w w' := by
 have hu28 := Tryz.underlying28
 have hfd : ∀ (a_ : Option Addr) (n_ c_ : Nat) (W_ : World), (Instr.field 28 (.agg #[.slice a_ n_ c_]) 0).run Tryz.prog W_ = .ok (.slice a_ n_ c_) W_ := fun a_ n_ c_ W_ => by first | rfl | kernel_rfl
 have HR0_0 := aM_ hr0_0
 have HC0_0 := aM_ hc0_0
 clear hr0_0 hc0_0
 have HB := aM_ (Below.refl w.heap.size w)
 have H : ((iF15.f k l0_0).bind fun bt653 => (if bt653.2 = true then ((iF21.f bt653.1).bind fun t657 => (iF20.j0 k t657 l0_0)) else (iF20.j0 k true l0_0))) = some r := h
 clear h
 replace H := oB_.mp H
 obtain ⟨⟨t653, t656⟩, A20, H⟩ := H
 try dsimp only at H
 have A2 := aM_ A20
 clear A20
 have HC3 := aM_ H
 clear H
 go_enter Tryz.func91, Tryz.ntmps91
 go_upto_region 2 with (first | (refine bx_ 1 #[.slice A0_0 l0_0.length c0_0] 28 ?_; intro gb652 hg w4 hbox hb; have BK652 := aM_ (hbox); have GW652 := gw_ hg HB; replace HB := b4_ HB hb; clear hb hbox hg; have hcz5_0 := c0_ BK652; have hfz5_0 := bF_ BK652.out 0) | (refine gs_ 8 Tryz.func94 #[.agg #[.slice A0_0 l0_0.length c0_0]] ?_; (with_reducible refine (iF15.calls k _ _ l0_0 t653 t656 _ ?side1 HC0_0.out A2.out).mono ?_); (case side1 => repeat (first | exact (k4_ HR0_0.out HB.out) | with_reducible first | apply cA_ | apply cN_ | apply cD_)); rintro e w6 ⟨v654, rfl, ho0, hb⟩; refine ⟨_, rfl, ?_⟩; have HO655 := aM_ (k5_ ho0 (bZ_ HB.out)); replace BK652 := b5_ BK652 hb; replace HB := b4_ HB hb; (try clear hb); (try clear ho0)))
 (try simp only [Act.put, sA_, sB_, sC_])
 go_cut [16] (fun v16 wc => ∃ (kq : Nat) (x16_2 : Bool), v16 = .bool x16_2 ∧ Aside0 (iF20.j0 kq x16_2 l0_0 = some r) ∧ Aside0 (kq ≤ k) ∧ Aside0 (wc.heap[gb652]? = some (.cells #[(.slice A0_0 l0_0.length c0_0)] 28 (0, 0))) ∧ Aside0 (Below w.heap.size w wc))
 case first =>
  have H := HC3.out
  clear HC3
  by_cases c7 : t656 = true
  ·
   subst c7
   rw [if_pos rfl] at H
   replace H := oB_.mp H
   obtain ⟨t657, A80, H⟩ := H
   try dsimp only at H
   have A8 := aM_ A80
   clear A80
   have H' := aM_ H
   clear H
   obtain ⟨Ao9, co9, eo9⟩ := kS_ HO655.out
   subst eo9
   go_wp2_with (first | (go_at_call 112; (with_reducible refine (iF21.calls _ _ t653 t657 _ ?side1 ?side2 A8.out).mono ?_); (case side1 => repeat (first | exact (kR_ HO655.out).2.2 | with_reducible first | apply cA_ | apply cN_ | apply cD_)); (case side2 => exact (kR_ HO655.out).2.1); rintro e w10 ⟨rfl, hb⟩; replace HO655 := k9_ HO655 hb; replace BK652 := b5_ BK652 hb; replace HB := b4_ HB hb; (try clear hb)))
   go_meet
   case rel => exact ⟨_, (t657), (by rfl), H', ⟨by omega⟩, ⟨BK652.out⟩, ⟨HB.out⟩⟩
  replace c7 := Bool.eq_false_iff.mpr c7
  subst c7
  replace H : (iF20.j0 k true l0_0) = some r := by rw [if_neg (show ¬ (false = true) by decide)] at H; exact H
  have H' := aM_ H
  clear H
  go_wp2
  go_meet
  case rel => exact ⟨_, (true), (by rfl), H', ⟨by omega⟩, ⟨BK652.out⟩, ⟨HB.out⟩⟩
 clear HC3
 try clear p2
 try clear hcz5_0
 try clear hfz5_0
 obtain ⟨kq, x16_2, rfl, HA, HJ2, BK652, HB⟩ := hcut
 cases kq with
 | zero => exact absurd HA.out (by simp [iF20.j0])
 | succ kj2 =>
  have H := HA.out
  clear HA
  simp only [iF20.j0] at H
  by_cases c11 : x16_2 = true
  ·
   subst c11
   rw [if_pos rfl] at H
   obtain rfl := Option.some.inj H
   go_wp2
   go_ret
   exact ⟨by rfl, by exact HB.out⟩
  replace c11 := Bool.eq_false_iff.mpr c11
  subst c11
  replace H : ((iF17.f kj2 l0_0).bind fun t658 => (if (t658.length : Int) ≤ 40 then ((xF51.f kj2 t658).bind fun t661 => (if t661 = true then ((iF28.f kj2 t658).bind fun t662 => ((iF8.f kj2 t662 l0_0).bind fun t665 => (some t665))) else (some false))) else (some false))) = some r := by rw [if_neg (show ¬ (false = true) by decide)] at H; exact H
  replace H := oB_.mp H
  obtain ⟨t658, A120, H⟩ := H
  try dsimp only at H
  have A12 := aM_ A120
  clear A120
  by_cases c13 : (t658.length : Int) ≤ 40
  rotate_left
  ·
   rw [if_neg c13] at H
   have c13b0 := dF_ c13
   have c13b1 : decide (t658.length ≤ 40) = false := dF_ (by omega)
   clear c13
   obtain rfl := Option.some.inj H
   have hcz28_0 := c0_ BK652
   have hfz28_0 := bF_ BK652.out 0
   try go_wp2_with (first | (refine gs_ 18 Tryz.func90 #[.agg #[.slice A0_0 l0_0.length c0_0]] ?_; (with_reducible refine (iF17.calls kj2 _ _ l0_0 t658 _ ?side1 HC0_0.out A12.out).mono ?_); (case side1 => repeat (first | exact (k4_ HR0_0.out HB.out) | with_reducible first | apply cA_ | apply cN_ | apply cD_)); rintro e w29 ⟨v659, rfl, ho0, hb⟩; refine ⟨_, rfl, ?_⟩; have HO660 := aM_ (k5_ ho0 (bZ_ HB.out)); replace BK652 := b5_ BK652 hb; replace HB := b4_ HB hb; (try clear hb); (try clear ho0)))
   have n0_ := aM_ (k3_ HO660.out)
   have n1_ := aM_ (b1_ BK652.out)
   have n2_ := aM_ (bD_ HB.out)
   clear HO660
   clear BK652
   clear HB
   have HO660 := n0_
   have BK652 := n1_
   have HB := n2_
   clear n0_ n1_ n2_
   obtain ⟨Ao31, co31, eo31⟩ := kS_ HO660.out
   (subst eo31)
   refine start_ (n := 16) (S := fun w' => True) (ds := []) #[fy, fy, fy, fy, fy, fy, fy, fy, fy, fy, fy, fy, fy, fy, fy, fy] (by kernel_rfl) rfl rfl trivial (fun hHeld => ?_); refine with_tabW iF20.tab5 iF20.bits5 (fun HT_ HW_ => ?_)
   generalize w29.drew = w30 at HO660 BK652 HB hHeld ⊢
   refine pu_ HT_ 0 19 #[ty, fy, fy, fy, fy, fy, fy, fy, fy, fy, fy, fy, fy, fy, fy, fy] ?_
   refine pu_ HT_ 1 20 #[ty, ty, fy, fy, fy, fy, fy, fy, fy, fy, fy, fy, fy, fy, fy, fy] ?_
   refine pu_ HT_ 2 21 #[ty, ty, ty, fy, fy, fy, fy, fy, fy, fy, fy, fy, fy, fy, fy, fy] ?_
   refine pu_ HT_ 3 22 #[ty, ty, ty, ty, fy, fy, fy, fy, fy, fy, fy, fy, fy, fy, fy, fy] ?_
   refine pure_ (i := 4) (N := some 23) (v := undef) (a' := ?_) #[ty, ty, ty, ty, ty, fy, fy, fy, fy, fy, fy, fy, fy, fy, fy, fy] rfl rfl (aO_ HT_.out (by kernel_rfl)) (fun _ _ _ h => h) (Or.inr ⟨by rfl, rfl⟩) ?_ ?_
   rotate_left
   ·
    simp only [Act.put, sA_, sB_, sC_, i6_, i3_]
    rfl
   refine pure_ (i := 5) (N := some 24) (v := undef) (a' := ?_) #[ty, ty, ty, ty, ty, ty, fy, fy, fy, fy, fy, fy, fy, fy, fy, fy] rfl rfl (aO_ HT_.out (by kernel_rfl)) (fun _ _ _ h => h) (Or.inr ⟨by rfl, rfl⟩) ?_ ?_
   rotate_left
   ·
    simp only [Act.put, sA_, sB_, sC_, i6_, i3_]
    rfl
   refine pu_ HT_ 6 25 #[ty, ty, ty, ty, ty, ty, ty, fy, fy, fy, fy, fy, fy, fy, fy, fy] ?_
   refine pu_ HT_ 7 26 #[ty, ty, ty, ty, ty, ty, ty, ty, fy, fy, fy, fy, fy, fy, fy, fy] ?_
   refine pure_ (i := 8) (N := some 27) (v := undef) (a' := ?_) #[ty, ty, ty, ty, ty, ty, ty, ty, ty, fy, fy, fy, fy, fy, fy, fy] rfl rfl (aO_ HT_.out (by kernel_rfl)) (fun _ _ _ h => h) (Or.inr ⟨by rfl, rfl⟩) ?_ ?_
   rotate_left
   ·
    simp only [Act.put, sA_, sB_, sC_, i6_, i3_]
    rfl
   refine pure_ (i := 9) (N := some 28) (v := undef) (a' := ?_) #[ty, ty, ty, ty, ty, ty, ty, ty, ty, ty, fy, fy, fy, fy, fy, fy] rfl rfl (aO_ HT_.out (by kernel_rfl)) (fun _ _ _ h => h) (Or.inr ⟨by rfl, rfl⟩) ?_ ?_
   rotate_left
   ·
    simp only [Act.put, sA_, sB_, sC_, i6_, i3_]
    rfl
   refine pure_ (i := 10) (N := some 29) (v := undef) (a' := ?_) #[ty, ty, ty, ty, ty, ty, ty, ty, ty, ty, ty, fy, fy, fy, fy, fy] rfl rfl (aO_ HT_.out (by kernel_rfl)) (fun _ _ _ h => h) (Or.inr ⟨by rfl, rfl⟩) ?_ ?_
   rotate_left
   ·
    simp only [Act.put, sA_, sB_, sC_, i6_, i3_]
    rfl
   refine pure_ (i := 11) (N := some 30) (v := undef) (a' := ?_) #[ty, ty, ty, ty, ty, ty, ty, ty, ty, ty, ty, ty, fy, fy, fy, fy] rfl rfl (aO_ HT_.out (by kernel_rfl)) (fun _ _ _ h => h) (Or.inr ⟨by rfl, rfl⟩) ?_ ?_
   rotate_left
   ·
    simp only [Act.put, sA_, sB_, sC_, i6_, i3_]
    rfl
   refine pure_ (i := 12) (N := some 31) (v := undef) (a' := ?_) #[ty, ty, ty, ty, ty, ty, ty, ty, ty, ty, ty, ty, ty, fy, fy, fy] rfl rfl (aO_ HT_.out (by kernel_rfl)) (fun _ _ _ h => h) (Or.inr ⟨by rfl, rfl⟩) ?_ ?_
   rotate_left
   ·
    simp only [Act.put, sA_, sB_, sC_, i6_, i3_]
    rfl
   refine pure_ (i := 13) (N := some 32) (v := undef) (a' := ?_) #[ty, ty, ty, ty, ty, ty, ty, ty, ty, ty, ty, ty, ty, ty, fy, fy] rfl rfl (aO_ HT_.out (by kernel_rfl)) (fun _ _ _ h => h) (Or.inr ⟨by rfl, rfl⟩) ?_ ?_
   rotate_left
   ·
    simp only [Act.put, sA_, sB_, sC_, i6_, i3_]
    rfl
   refine pu_ HT_ 14 33 #[ty, ty, ty, ty, ty, ty, ty, ty, ty, ty, ty, ty, ty, ty, ty, fy] ?_
   refine pu_ HT_ 15 2 #[ty, ty, ty, ty, ty, ty, ty, ty, ty, ty, ty, ty, ty, ty, ty, ty] ?_
   refine done_ (done_of HT_.out (by kernel_rfl)) ?_
   try go_wp2
   go_ret
   exact ⟨by rfl, by exact HB.out⟩
  rw [if_pos c13] at H
  have c13b0 := dT_ c13
  have c13b1 : decide (t658.length ≤ 40) = true := dT_ (by omega)
  clear c13
  replace H := oB_.mp H
  obtain ⟨t661, A140, H⟩ := H
  try dsimp only at H
  have A14 := aM_ A140
  clear A140
  by_cases c15 : t661 = true
  rotate_left
  ·
   replace c15 := Bool.eq_false_iff.mpr c15
   subst c15
   replace H : (some false) = some r := by rw [if_neg (show ¬ (false = true) by decide)] at H; exact H
   obtain rfl := Option.some.inj H
   have hcz24_0 := c0_ BK652
   have hfz24_0 := bF_ BK652.out 0
   try go_wp2_with (first | (refine gs_ 18 Tryz.func90 #[.agg #[.slice A0_0 l0_0.length c0_0]] ?_; (with_reducible refine (iF17.calls kj2 _ _ l0_0 t658 _ ?side1 HC0_0.out A12.out).mono ?_); (case side1 => repeat (first | exact (k4_ HR0_0.out HB.out) | with_reducible first | apply cA_ | apply cN_ | apply cD_)); rintro e w25 ⟨v659, rfl, ho0, hb⟩; refine ⟨_, rfl, ?_⟩; have HO660 := aM_ (k5_ ho0 (bZ_ HB.out)); replace BK652 := b5_ BK652 hb; replace HB := b4_ HB hb; (try clear hb); (try clear ho0)))
   have n0_ := aM_ (k3_ HO660.out)
   have n1_ := aM_ (b1_ BK652.out)
   have n2_ := aM_ (bD_ HB.out)
   clear HO660
   clear BK652
   clear HB
   have HO660 := n0_
   have BK652 := n1_
   have HB := n2_
   clear n0_ n1_ n2_
   obtain ⟨Ao27, co27, eo27⟩ := kS_ HO660.out
   (subst eo27)
   refine start_ (n := 16) (S := fun w' => True) (ds := []) #[fy, fy, fy, fy, fy, fy, fy, fy, fy, fy, fy, fy, fy, fy, fy, fy] (by kernel_rfl) rfl rfl trivial (fun hHeld => ?_); refine with_tabW iF20.tab5 iF20.bits5 (fun HT_ HW_ => ?_)
   generalize w25.drew = w26 at HO660 BK652 HB hHeld ⊢
   refine pu_ HT_ 0 19 #[ty, fy, fy, fy, fy, fy, fy, fy, fy, fy, fy, fy, fy, fy, fy, fy] ?_
   refine pu_ HT_ 1 20 #[ty, ty, fy, fy, fy, fy, fy, fy, fy, fy, fy, fy, fy, fy, fy, fy] ?_
   refine pu_ HT_ 2 21 #[ty, ty, ty, fy, fy, fy, fy, fy, fy, fy, fy, fy, fy, fy, fy, fy] ?_
   refine pu_ HT_ 3 22 #[ty, ty, ty, ty, fy, fy, fy, fy, fy, fy, fy, fy, fy, fy, fy, fy] ?_
   refine pu_ HT_ 4 23 #[ty, ty, ty, ty, ty, fy, fy, fy, fy, fy, fy, fy, fy, fy, fy, fy] ?_
   refine one_ (i := 5) (N := some 24) #[ty, ty, ty, ty, ty, ty, fy, fy, fy, fy, fy, fy, fy, fy, fy, fy] rfl rfl (one_of HT_.out (by kernel_rfl)) (by decide) (fun K hK => ?_)
   refine goes_ Tryz.func114 (by kernel_rfl) rfl #[.slice Ao27 t658.length co27] (by rfl) rfl rfl (by (try simp only [sD_, sE_, sF_]); rfl) ?_
   with_reducible refine (xF51.calls kj2 _ _ t658 false _ ?side1 ?side2 A14.out).mono ?_
   (case side1 => repeat (first | exact (kR_ HO660.out).2.2 | with_reducible first | apply cA_ | apply cN_ | apply cD_))
   (case side2 => exact (kR_ HO660.out).2.1)
   rintro e w' ⟨rfl, ⟨nd, rfl⟩⟩
   refine ⟨_, rfl, ?_⟩
   refine hK.out _ _ trivial (fun hHeld => ?_)
   clear hK K
   refine norm_ (by show Act.put _ (some 24) _ = _; simp only [Act.put, sA_, sB_, sC_, i6_, i3_]; rfl) ?_
   refine pu_ HT_ 6 25 #[ty, ty, ty, ty, ty, ty, ty, fy, fy, fy, fy, fy, fy, fy, fy, fy] ?_
   refine pu_ HT_ 7 26 #[ty, ty, ty, ty, ty, ty, ty, ty, fy, fy, fy, fy, fy, fy, fy, fy] ?_
   refine pure_ (i := 8) (N := some 27) (v := undef) (a' := ?_) #[ty, ty, ty, ty, ty, ty, ty, ty, ty, fy, fy, fy, fy, fy, fy, fy] rfl rfl (aO_ HT_.out (by kernel_rfl)) (fun _ _ _ h => h) (Or.inr ⟨by rfl, rfl⟩) ?_ ?_
   rotate_left
   ·
    simp only [Act.put, sA_, sB_, sC_, i6_, i3_]
    rfl
   refine pure_ (i := 9) (N := some 28) (v := undef) (a' := ?_) #[ty, ty, ty, ty, ty, ty, ty, ty, ty, ty, fy, fy, fy, fy, fy, fy] rfl rfl (aO_ HT_.out (by kernel_rfl)) (fun _ _ _ h => h) (Or.inr ⟨by rfl, rfl⟩) ?_ ?_
   rotate_left
   ·
    simp only [Act.put, sA_, sB_, sC_, i6_, i3_]
    rfl
   refine pure_ (i := 10) (N := some 29) (v := undef) (a' := ?_) #[ty, ty, ty, ty, ty, ty, ty, ty, ty, ty, ty, fy, fy, fy, fy, fy] rfl rfl (aO_ HT_.out (by kernel_rfl)) (fun _ _ _ h => h) (Or.inr ⟨by rfl, rfl⟩) ?_ ?_
   rotate_left
   ·
    simp only [Act.put, sA_, sB_, sC_, i6_, i3_]
    rfl
   refine pure_ (i := 11) (N := some 30) (v := undef) (a' := ?_) #[ty, ty, ty, ty, ty, ty, ty, ty, ty, ty, ty, ty, fy, fy, fy, fy] rfl rfl (aO_ HT_.out (by kernel_rfl)) (fun _ _ _ h => h) (Or.inr ⟨by rfl, rfl⟩) ?_ ?_
   rotate_left
   ·
    simp only [Act.put, sA_, sB_, sC_, i6_, i3_]
    rfl
   refine pure_ (i := 12) (N := some 31) (v := undef) (a' := ?_) #[ty, ty, ty, ty, ty, ty, ty, ty, ty, ty, ty, ty, ty, fy, fy, fy] rfl rfl (aO_ HT_.out (by kernel_rfl)) (fun _ _ _ h => h) (Or.inr ⟨by rfl, rfl⟩) ?_ ?_
   rotate_left
   ·
    simp only [Act.put, sA_, sB_, sC_, i6_, i3_]
    rfl
   refine pure_ (i := 13) (N := some 32) (v := undef) (a' := ?_) #[ty, ty, ty, ty, ty, ty, ty, ty, ty, ty, ty, ty, ty, ty, fy, fy] rfl rfl (aO_ HT_.out (by kernel_rfl)) (fun _ _ _ h => h) (Or.inr ⟨by rfl, rfl⟩) ?_ ?_
   rotate_left
   ·
    simp only [Act.put, sA_, sB_, sC_, i6_, i3_]
    rfl
   refine pu_ HT_ 14 33 #[ty, ty, ty, ty, ty, ty, ty, ty, ty, ty, ty, ty, ty, ty, ty, fy] ?_
   refine pu_ HT_ 15 2 #[ty, ty, ty, ty, ty, ty, ty, ty, ty, ty, ty, ty, ty, ty, ty, ty] ?_
   refine done_ (done_of HT_.out (by kernel_rfl)) ?_
   try go_wp2
   go_ret
   exact ⟨by rfl, by repeat with_reducible first | exact HB.out | apply bA_ | apply bN_ | apply bD_ | refine bS_ ?_ GW652.out⟩
  subst c15
  rw [if_pos rfl] at H
  replace H := oB_.mp H
  obtain ⟨t662, A160, H⟩ := H
  try dsimp only at H
  have A16 := aM_ A160
  clear A160
  replace H := oB_.mp H
  obtain ⟨t665, A170, H⟩ := H
  try dsimp only at H
  have A17 := aM_ A170
  clear A170
  obtain rfl := Option.some.inj H
  have hcz18_0 := c0_ BK652
  have hfz18_0 := bF_ BK652.out 0
  try go_wp2_with (first | (refine gs_ 18 Tryz.func90 #[.agg #[.slice A0_0 l0_0.length c0_0]] ?_; (with_reducible refine (iF17.calls kj2 _ _ l0_0 t658 _ ?side1 HC0_0.out A12.out).mono ?_); (case side1 => repeat (first | exact (k4_ HR0_0.out HB.out) | with_reducible first | apply cA_ | apply cN_ | apply cD_)); rintro e w19 ⟨v659, rfl, ho0, hb⟩; refine ⟨_, rfl, ?_⟩; have HO660 := aM_ (k5_ ho0 (bZ_ HB.out)); replace BK652 := b5_ BK652 hb; replace HB := b4_ HB hb; (try clear hb); (try clear ho0)))
  have n0_ := aM_ (k3_ HO660.out)
  have n1_ := aM_ (b1_ BK652.out)
  have n2_ := aM_ (bD_ HB.out)
  clear HO660
  clear BK652
  clear HB
  have HO660 := n0_
  have BK652 := n1_
  have HB := n2_
  clear n0_ n1_ n2_
  obtain ⟨Ao21, co21, eo21⟩ := kS_ HO660.out
  (subst eo21)
  refine start_ (n := 16) (S := fun w' => w'.cell? ⟨gb652, 0, none⟩ = some (.slice A0_0 l0_0.length c0_0)) (ds := []) #[fy, fy, fy, fy, fy, fy, fy, fy, fy, fy, fy, fy, fy, fy, fy, fy] (by kernel_rfl) rfl rfl ((bC_ BK652.out 0).trans rfl) (fun hHeld => ?_); refine with_tabW iF20.tab5 iF20.bits5 (fun HT_ HW_ => ?_)
  generalize w19.drew = w20 at HO660 BK652 HB hHeld ⊢
  refine pu_ HT_ 0 19 #[ty, fy, fy, fy, fy, fy, fy, fy, fy, fy, fy, fy, fy, fy, fy, fy] ?_
  refine pu_ HT_ 1 20 #[ty, ty, fy, fy, fy, fy, fy, fy, fy, fy, fy, fy, fy, fy, fy, fy] ?_
  refine pu_ HT_ 2 21 #[ty, ty, ty, fy, fy, fy, fy, fy, fy, fy, fy, fy, fy, fy, fy, fy] ?_
  refine pu_ HT_ 3 22 #[ty, ty, ty, ty, fy, fy, fy, fy, fy, fy, fy, fy, fy, fy, fy, fy] ?_
  refine pu_ HT_ 4 23 #[ty, ty, ty, ty, ty, fy, fy, fy, fy, fy, fy, fy, fy, fy, fy, fy] ?_
  refine one_ (i := 5) (N := some 24) #[ty, ty, ty, ty, ty, ty, fy, fy, fy, fy, fy, fy, fy, fy, fy, fy] rfl rfl (one_of HT_.out (by kernel_rfl)) (by decide) (fun K hK => ?_)
  refine goes_ Tryz.func114 (by kernel_rfl) rfl #[.slice Ao21 t658.length co21] (by rfl) rfl rfl (by (try simp only [sD_, sE_, sF_]); rfl) ?_
  with_reducible refine (xF51.calls kj2 _ _ t658 true _ ?side1 ?side2 A14.out).mono ?_
  (case side1 => repeat (first | exact (kR_ HO660.out).2.2 | with_reducible first | apply cA_ | apply cN_ | apply cD_))
  (case side2 => exact (kR_ HO660.out).2.1)
  rintro e w' ⟨rfl, ⟨nd, rfl⟩⟩
  refine ⟨_, rfl, ?_⟩
  refine hK.out _ _ ((bC_ BK652.out 0).trans rfl) (fun hHeld => ?_)
  clear hK K
  refine norm_ (by show Act.put _ (some 24) _ = _; simp only [Act.put, sA_, sB_, sC_, i6_, i3_]; rfl) ?_
  refine pu_ HT_ 6 25 #[ty, ty, ty, ty, ty, ty, ty, fy, fy, fy, fy, fy, fy, fy, fy, fy] ?_
  refine pu_ HT_ 7 26 #[ty, ty, ty, ty, ty, ty, ty, ty, fy, fy, fy, fy, fy, fy, fy, fy] ?_
  refine pu_ HT_ 8 27 #[ty, ty, ty, ty, ty, ty, ty, ty, ty, fy, fy, fy, fy, fy, fy, fy] ?_
  refine pu_ HT_ 11 30 #[ty, ty, ty, ty, ty, ty, ty, ty, ty, fy, fy, ty, fy, fy, fy, fy] ?_
  refine take_ (i := 12) (N := some 31) (v := ?_) (a' := ?_) #[ty, ty, ty, ty, ty, ty, ty, ty, ty, fy, fy, ty, ty, fy, fy, fy] rfl rfl (tW_ HT_.out HW_.out (by kernel_rfl)) (fun _ _ _ h => h) (Or.inl ⟨by rfl, ?_⟩) hHeld ?_ ?_; rotate_left; (intro w' s0; go_simp; with_reducible rfl); rotate_left; (simp only [Act.put, sA_, sB_, sC_, i6_, i3_]; rfl)
  refine one_ (i := 9) (N := some 28) #[ty, ty, ty, ty, ty, ty, ty, ty, ty, ty, fy, ty, ty, fy, fy, fy] rfl rfl (one_of HT_.out (by kernel_rfl)) (by decide) (fun K hK => ?_)
  refine goes_ Tryz.func108 (by kernel_rfl) rfl #[.slice Ao21 t658.length co21] (by rfl) rfl rfl (by (try simp only [sD_, sE_, sF_]); rfl) ?_
  with_reducible refine (iF28.calls kj2 _ _ t658 t662 _ ?side1 ?side2 A16.out).mono ?_
  (case side1 => repeat (first | exact (kR_ HO660.out).2.2 | with_reducible first | apply cA_ | apply cN_ | apply cD_))
  (case side2 => exact (kR_ HO660.out).2.1)
  rintro e w22 ⟨v663, rfl, ho0, hb⟩
  refine ⟨_, rfl, ?_⟩
  have n0_ := aM_ (kB_ (by (with_reducible repeat (first | apply k1_ | apply k2_ | apply k3_)); exact HO660.out) hb)
  have n1_ := aM_ (k5_ ho0 (bZ_ (by repeat with_reducible first | exact HB.out | apply bA_ | apply bN_ | apply bD_ | refine bS_ ?_ GW652.out)))
  have n2_ := aM_ (bB_ (g := gb652) (o := .cells #[.slice A0_0 l0_0.length c0_0] 28 (0, 0)) (by (with_reducible repeat (first | refine b2_ ?_ _ | refine b1_ ?_ | refine b3_ ?_ _)); exact BK652.out) hb)
  have n3_ := aM_ (bT_ (by repeat with_reducible first | exact HB.out | apply bA_ | apply bN_ | apply bD_ | refine bS_ ?_ GW652.out) hb)
  clear HO660
  clear BK652
  clear HB
  have HO660 := n0_
  have HO664 := n1_
  have BK652 := n2_
  have HB := n3_
  clear n0_ n1_ n2_ n3_
  (try clear hb)
  (try clear ho0)
  obtain ⟨Ao23, co23, eo23⟩ := kS_ HO664.out
  (subst eo23)
  refine hK.out _ _ ((bC_ BK652.out 0).trans rfl) (fun hHeld => ?_)
  clear hK K
  refine norm_ (by show Act.put _ (some 28) _ = _; simp only [Act.put, sA_, sB_, sC_, i6_, i3_]; rfl) ?_
  refine pu_ HT_ 10 29 #[ty, ty, ty, ty, ty, ty, ty, ty, ty, ty, ty, ty, ty, fy, fy, fy] ?_
  refine one_ (i := 13) (N := some 32) #[ty, ty, ty, ty, ty, ty, ty, ty, ty, ty, ty, ty, ty, ty, fy, fy] rfl rfl (one_of HT_.out (by kernel_rfl)) (by decide) (fun K hK => ?_)
  refine goes_ Tryz.func115 (by kernel_rfl) rfl #[.slice Ao23 t662.length co23, .slice A0_0 l0_0.length c0_0] (by rfl) rfl rfl (by (try simp only [sD_, sE_, sF_]); rfl) ?_
  with_reducible refine (iF8.calls kj2 _ _ t662 _ _ l0_0 t665 _ ?side1 ?side2 ?side3 ?side4 A17.out).mono ?_
  (case side1 => repeat (first | exact (kR_ HO664.out).2.2 | with_reducible first | apply cA_ | apply cN_ | apply cD_))
  (case side2 => exact (kR_ HO664.out).2.1)
  (case side3 => repeat (first | exact (k4_ HR0_0.out HB.out) | with_reducible first | apply cA_ | apply cN_ | apply cD_))
  (case side4 => exact HC0_0.out)
  rintro e w' ⟨rfl, ⟨nd, rfl⟩⟩
  refine ⟨_, rfl, ?_⟩
  refine hK.out _ _ ((bC_ BK652.out 0).trans rfl) (fun hHeld => ?_)
  clear hK K
  refine norm_ (by show Act.put _ (some 32) _ = _; simp only [Act.put, sA_, sB_, sC_, i6_, i3_]; rfl) ?_
  refine pu_ HT_ 14 33 #[ty, ty, ty, ty, ty, ty, ty, ty, ty, ty, ty, ty, ty, ty, ty, fy] ?_
  refine pu_ HT_ 15 2 #[ty, ty, ty, ty, ty, ty, ty, ty, ty, ty, ty, ty, ty, ty, ty, ty] ?_
  refine done_ (done_of HT_.out (by kernel_rfl)) ?_
  try go_wp2
  go_ret
  exact ⟨by rfl, by repeat with_reducible first | exact HB.out | apply bA_ | apply bN_ | apply bD_ | refine bS_ ?_ GW652.out⟩
def xF50.l0 : Nat → List ByteArray → ByteArray → Int → Int → Option (Int)
 | 0, _, _, _, _ => none
 | k + 1, x0, x1, x7, x8 => if x8 < x7 then (if 0 ≤ x8 then (if x8 < (x0.length : Int) then (if x1.toList = (rdOf eB_ x0 x8).toList then (some x8) else (xF50.l0 k x0 x1 x7 (wrap64 (x8 + 1)))) else (none)) else (none)) else (some (-1))
def xF50.f (k : Nat) (l0 : List ByteArray) (a1 : ByteArray) : Option (Int) := xF50.l0 k l0 a1 (l0.length : Int) 0
theorem xF50.mono_l : ∀ k, (∀ y0 y1 y2 y3, LeO (xF50.l0 k y0 y1 y2 y3) (xF50.l0 (k + 1) y0 y1 y2 y3))
 | 0 => fun _ _ _ _ r h => by simp [xF50.l0] at h
 | k + 1 => by
  have ih0 := xF50.mono_l k
  intro y0 y1 y2 y3
  unfold xF50.l0
  repeat' with_reducible first | exact ih0 _ _ _ _ | exact l3_ _ | exact l0_ _ | refine l2_ ?_ ?_ | refine l1_ ?_ (fun _ => ?_)
theorem xF50.mono : ∀ a0 a1 k, LeO (xF50.f k a0 a1) (xF50.f (k + 1) a0 a1) := by
 intro a0 a1 k
 have ih0 := xF50.mono_l k
 unfold xF50.f
 repeat' with_reducible first | exact ih0 _ _ _ _ | exact l3_ _ | exact l0_ _ | refine l2_ ?_ ?_ | refine l1_ ?_ (fun _ => ?_)
theorem xF50.calls (k : Nat) (A0 : Option Addr) (c0 : Nat) (l0 : List ByteArray) (a1 : ByteArray) (r : Int) (w : World) (hr0 : Kd.C Kd.string w A0 l0.length l0) (hc0 : l0.length ≤ c0) (h : xF50.f k l0 a1 = some r) :
  Calls Tryz.prog 95 #[.slice A0 l0.length c0, .string a1] w fun e w' => e = .returned (.int .i64 r) ∧ Drawn0 w w' := by
 have HR0 := aM_ hr0
 have HC0 := aM_ hc0
 clear hr0 hc0
 have H : (xF50.l0 k l0 a1 (l0.length : Int) 0) = some r := h
 clear h
 have H' := aM_ H
 clear H
 go_enter Tryz.func95, Tryz.ntmps95
 go_wp2
 go_loopg [8] k (fun kq v8 w' => ∃ (x8_1 : Int), v8 = .int .i64 x8_1 ∧ Aside0 (xF50.l0 kq l0 a1 (l0.length : Int) x8_1 = some r) ∧ Aside0 (kq ≤ k) ∧ Drawn0 w w')
 case atStart => exact ⟨(0), (by rfl), H', ⟨Nat.le_refl _⟩, by repeat (first | exact Drawn0.refl _ | apply Drawn0.step)⟩
 clear H'
 try clear p2
 obtain ⟨x8_1, rfl, HA, HK1, ⟨m1, rfl⟩⟩ := hrel
 cases gk with
 | zero => exact absurd HA.out (by simp [xF50.l0])
 | succ k1 =>
  have H := HA.out
  clear HA
  simp only [xF50.l0] at H
  by_cases c3 : x8_1 < (l0.length : Int)
  rotate_left
  ·
   rw [if_neg c3] at H
   have c3b0 := dF_ c3
   clear c3
   obtain rfl := Option.some.inj H
   go_wp2
   go_ret
   exact ⟨by rfl, by repeat (first | exact Drawn0.refl _ | apply Drawn0.step)⟩
  rw [if_pos c3] at H
  have c3b0 := dT_ c3
  clear c3
  by_cases c4 : 0 ≤ x8_1
  rotate_left
  ·
   rw [if_neg c4] at H
   exact absurd H (by simp)
  rw [if_pos c4] at H
  have c4b0 := dT_ c4
  clear c4
  by_cases c5 : x8_1 < (l0.length : Int)
  rotate_left
  ·
   rw [if_neg c5] at H
   exact absurd H (by simp)
  rw [if_pos c5] at H
  have c5b0 := dT_ c5
  clear c5
  by_cases c6 : a1.toList = (rdOf eB_ l0 x8_1).toList
  ·
   rw [if_pos c6] at H
   have c6b0 : (a1.toList == (rdOf eB_ l0 x8_1).toList) = true := beq_iff_eq.mpr c6
   have c6b1 : (a1.toList != (rdOf eB_ l0 x8_1).toList) = false := bne_eq_false_iff_eq.mpr c6
   clear c6
   obtain rfl := Option.some.inj H
   have p608 : 0 ≤ (x8_1 : Int) := oD_ ‹_›
   have q608 : x8_1 < (l0.length : Int) := oD_ ‹_›
   obtain ⟨ad608, e608, hx608_0⟩ := Kd.at_string HR0.out x8_1 p608 q608
   cases e608
   replace p608 := eq_true p608
   replace q608 := eq_true q608
   go_wp2
   go_ret
   exact ⟨by rfl, by repeat (first | exact Drawn0.refl _ | apply Drawn0.step)⟩
  rw [if_neg c6] at H
  have c6b0 : (a1.toList == (rdOf eB_ l0 x8_1).toList) = false := beq_eq_false_iff_ne.mpr c6
  have c6b1 : (a1.toList != (rdOf eB_ l0 x8_1).toList) = true := bne_iff_ne.mpr c6
  have H' := aM_ H
  clear H
  have p608 : 0 ≤ (x8_1 : Int) := oD_ ‹_›
  have q608 : x8_1 < (l0.length : Int) := oD_ ‹_›
  obtain ⟨ad608, e608, hx608_0⟩ := Kd.at_string HR0.out x8_1 p608 q608
  cases e608
  replace p608 := eq_true p608
  replace q608 := eq_true q608
  go_wp2
  go_roundg k1
  case measure => have := HK1.out; omega
  case rel => exact ⟨(wrap64 (x8_1 + 1)), (by rfl), H', ⟨by have := HK1.out; omega⟩, by repeat (first | exact Drawn0.refl _ | apply Drawn0.step)⟩
def iF9.f (k : Nat) (l0_0 : List (S96)) (a1 : ByteArray) : Option (Int × Bool) := (iF20.f k l0_0).bind fun t820 => (if t820 = true then ((iF15.f k l0_0).bind fun bt821 => ((xF50.f k bt821.1 a1).bind fun t825 => (some (mx t825 0, decide (t825 ≥ 0))))) else (some (0, false)))
theorem iF9.mono : ∀ a0 a1 k, LeO (iF9.f k a0 a1) (iF9.f (k + 1) a0 a1) := by
 intro a0 a1 k
 unfold iF9.f
 repeat' with_reducible first | exact iF15.mono _ _ | exact iF20.mono _ _ | exact xF50.mono _ _ _ | exact l3_ _ | exact l0_ _ | refine l2_ ?_ ?_ | refine l1_ ?_ (fun _ => ?_)
theorem iF9.calls (k : Nat) (A0_0 : Option Addr) (c0_0 : Nat) (l0_0 : List (S96)) (a1 : ByteArray) (r1 : Int) (r2 : Bool) (w : World) (hr0_0 : Kd.C k96 w A0_0 l0_0.length l0_0) (hc0_0 : l0_0.length ≤ c0_0) (h : iF9.f k l0_0 a1 = some (r1, r2)) :
  Calls Tryz.prog 67 #[.agg #[.slice A0_0 l0_0.length c0_0], .string a1] w fun e w' => e = .returned (.tuple #[.int .i64 r1, .bool r2]) ∧ Below w.heap.size w w' := by
 have hu28 := Tryz.underlying28
 have HR0_0 := aM_ hr0_0
 have HC0_0 := aM_ hc0_0
 clear hr0_0 hc0_0
 have HB := aM_ (Below.refl w.heap.size w)
 have H : ((iF20.f k l0_0).bind fun t820 => (if t820 = true then ((iF15.f k l0_0).bind fun bt821 => ((xF50.f k bt821.1 a1).bind fun t825 => (some (mx t825 0, decide (t825 ≥ 0))))) else (some (0, false)))) = some (r1, r2) := h
 clear h
 replace H := oB_.mp H
 obtain ⟨t820, A30, H⟩ := H
 try dsimp only at H
 have A3 := aM_ A30
 clear A30
 by_cases c4 : t820 = true
 rotate_left
 ·
  replace c4 := Bool.eq_false_iff.mpr c4
  subst c4
  replace H : (some (0, false)) = some (r1, r2) := by rw [if_neg (show ¬ (false = true) by decide)] at H; exact H
  simp only [Option.some.injEq, Prod.mk.injEq] at H
  obtain ⟨rfl, rfl⟩ := H
  go_enter Tryz.func67, Tryz.ntmps67
  go_wp2_with (first | (refine bx_ 2 #[.slice A0_0 l0_0.length c0_0] 28 ?_; intro gb819 hg w14 hbox hb; have BK819 := aM_ (hbox); have GW819 := gw_ hg HB; replace HB := b4_ HB hb; clear hb hbox hg; have hcz15_0 := c0_ BK819; have hfz15_0 := bF_ BK819.out 0) | (refine gs_ 10 Tryz.func91 #[.agg #[.slice A0_0 l0_0.length c0_0]] ?_; (with_reducible refine (iF20.calls k _ _ l0_0 false _ ?side1 HC0_0.out A3.out).mono ?_); (case side1 => repeat (first | exact (k4_ HR0_0.out HB.out) | with_reducible first | apply cA_ | apply cN_ | apply cD_)); rintro e w16 ⟨rfl, hb⟩; refine ⟨_, rfl, ?_⟩; replace BK819 := b5_ BK819 hb; replace HB := b4_ HB hb; (try clear hb)))
  go_ret2
  exact ⟨by rfl, by exact HB.out⟩
 subst c4
 rw [if_pos rfl] at H
 replace H := oB_.mp H
 obtain ⟨⟨t821, t824⟩, A50, H⟩ := H
 try dsimp only at H
 have A5 := aM_ A50
 clear A50
 replace H := oB_.mp H
 obtain ⟨t825, A60, H⟩ := H
 try dsimp only at H
 have A6 := aM_ A60
 clear A60
 obtain ⟨ji7, hji7⟩ : ∃ j_ : Int, (mx t825 0) = j_ := ⟨_, rfl⟩
 replace H : (some (ji7, decide (t825 ≥ 0))) = some (r1, r2) := by first | (rw [hji7] at H; exact H) | (simp only [hji7] at H ⊢; exact H)
 (try rw [hji7] at A3)
 (try rw [hji7] at A5)
 (try rw [hji7] at A6)
 (try (have hji7l : 0 ≤ ji7 := by (rw [← hji7]; unfold mx; (repeat' split) <;> omega)))
 (try (have hji7m : 0 ≤ ji7 := by omega))
 have hji7_ : (if t825 < 0 then 0 else t825) = ji7 := hji7
 have hji7n := hji7_
 (try simp only [Int.ofNat_lt] at hji7n)
 simp only [Option.some.injEq, Prod.mk.injEq] at H
 obtain ⟨rfl, rfl⟩ := H
 go_enter Tryz.func67, Tryz.ntmps67
 go_wp2_with (first | (refine bx_ 2 #[.slice A0_0 l0_0.length c0_0] 28 ?_; intro gb819 hg w8 hbox hb; have BK819 := aM_ (hbox); have GW819 := gw_ hg HB; replace HB := b4_ HB hb; clear hb hbox hg; have hcz9_0 := c0_ BK819; have hfz9_0 := bF_ BK819.out 0) | (refine gs_ 10 Tryz.func91 #[.agg #[.slice A0_0 l0_0.length c0_0]] ?_; (with_reducible refine (iF20.calls k _ _ l0_0 true _ ?side1 HC0_0.out A3.out).mono ?_); (case side1 => repeat (first | exact (k4_ HR0_0.out HB.out) | with_reducible first | apply cA_ | apply cN_ | apply cD_)); rintro e w10 ⟨rfl, hb⟩; refine ⟨_, rfl, ?_⟩; replace BK819 := b5_ BK819 hb; replace HB := b4_ HB hb; (try clear hb); have hcz11_0 := c0_ BK819; have hfz11_0 := bF_ BK819.out 0) | (refine gs_ 14 Tryz.func94 #[.agg #[.slice A0_0 l0_0.length c0_0]] ?_; (with_reducible refine (iF15.calls k _ _ l0_0 t821 t824 _ ?side1 HC0_0.out A5.out).mono ?_); (case side1 => repeat (first | exact (k4_ HR0_0.out HB.out) | with_reducible first | apply cA_ | apply cN_ | apply cD_)); rintro e w12 ⟨v822, rfl, ho0, hb⟩; refine ⟨_, rfl, ?_⟩; have HO823 := aM_ (k5_ ho0 (bZ_ HB.out)); replace BK819 := b5_ BK819 hb; replace HB := b4_ HB hb; (try clear hb); (try clear ho0); obtain ⟨Ao13, co13, eo13⟩ := kS_ HO823.out; subst eo13) | (refine gs_ 19 Tryz.func95 #[.slice Ao13 t821.length co13, .string a1] ?_; (with_reducible refine (xF50.calls k _ _ t821 a1 t825 _ ?side1 ?side2 A6.out).mono ?_); (case side1 => repeat (first | exact (kR_ HO823.out).2.2 | with_reducible first | apply cA_ | apply cN_ | apply cD_)); (case side2 => exact (kR_ HO823.out).2.1); rintro e w' ⟨rfl, ⟨nd, rfl⟩⟩; refine ⟨_, rfl, ?_⟩))
 go_ret2
 exact ⟨by rfl, by repeat with_reducible first | exact HB.out | apply bA_ | apply bN_ | apply bD_ | refine bS_ ?_ GW819.out⟩
def iF10.f (k : Nat) (l0_0 : List (S72)) (a1 : ByteArray) : Option (Int × Bool) := (iF7.f k l0_0).bind fun bt827 => (if bt827.2 = true then ((iF9.f k bt827.1 a1).bind fun bt832 => (if bt832.2 = true then ((iF14.f k bt827.1).bind fun bt834 => (if 0 ≤ bt832.1 then (if bt832.1 < (bt834.2.length : Int) then (some (rd bt834.2 bt832.1, true)) else (none)) else (none))) else (some (0, false)))) else (some (0, false)))
theorem iF10.mono : ∀ a0 a1 k, LeO (iF10.f k a0 a1) (iF10.f (k + 1) a0 a1) := by
 intro a0 a1 k
 unfold iF10.f
 repeat' with_reducible first | exact iF7.mono _ _ | exact iF9.mono _ _ _ | exact iF14.mono _ _ | exact l3_ _ | exact l0_ _ | refine l2_ ?_ ?_ | refine l1_ ?_ (fun _ => ?_)
theorem iF10.calls (k : Nat) (A0_0 : Option Addr) (c0_0 : Nat) (l0_0 : List (S72)) (a1 : ByteArray) (r1 : Int) (r2 : Bool) (w : World) (hr0_0 : Kd.C k72 w A0_0 l0_0.length l0_0) (hc0_0 : l0_0.length ≤ c0_0) (h : iF10.f k l0_0 a1 = some (r1, r2)) :
  Calls Tryz.prog 35 #[.agg #[.slice A0_0 l0_0.length c0_0], .string a1] w fun e w' => e = .returned (.tuple #[.int .i64 r1, .bool r2]) ∧ Below w.heap.size w w' := by
 have hu33 := Tryz.underlying33
 have hu28 := Tryz.underlying28
 have HR0_0 := aM_ hr0_0
 have HC0_0 := aM_ hc0_0
 clear hr0_0 hc0_0
 have HB := aM_ (Below.refl w.heap.size w)
 have H : ((iF7.f k l0_0).bind fun bt827 => (if bt827.2 = true then ((iF9.f k bt827.1 a1).bind fun bt832 => (if bt832.2 = true then ((iF14.f k bt827.1).bind fun bt834 => (if 0 ≤ bt832.1 then (if bt832.1 < (bt834.2.length : Int) then (some (rd bt834.2 bt832.1, true)) else (none)) else (none))) else (some (0, false)))) else (some (0, false)))) = some (r1, r2) := h
 clear h
 replace H := oB_.mp H
 obtain ⟨⟨t827, t830⟩, A30, H⟩ := H
 try dsimp only at H
 have A3 := aM_ A30
 clear A30
 by_cases c4 : t830 = true
 rotate_left
 ·
  replace c4 := Bool.eq_false_iff.mpr c4
  subst c4
  replace H : (some (0, false)) = some (r1, r2) := by rw [if_neg (show ¬ (false = true) by decide)] at H; exact H
  simp only [Option.some.injEq, Prod.mk.injEq] at H
  obtain ⟨rfl, rfl⟩ := H
  go_enter Tryz.func35, Tryz.ntmps35
  go_wp2_with (first | (refine bx_ 2 #[.slice A0_0 l0_0.length c0_0] 33 ?_; intro gb826 hg w34 hbox hb; have BK826 := aM_ (hbox); have GW826 := gw_ hg HB; replace HB := b4_ HB hb; clear hb hbox hg; have hcz35_0 := c0_ BK826; have hfz35_0 := bF_ BK826.out 0) | (refine gs_ 13 Tryz.func51 #[.agg #[.slice A0_0 l0_0.length c0_0]] ?_; (with_reducible refine (iF7.calls k _ _ l0_0 t827 false _ ?side1 HC0_0.out A3.out).mono ?_); (case side1 => repeat (first | exact (k4_ HR0_0.out HB.out) | with_reducible first | apply cA_ | apply cN_ | apply cD_)); rintro e w36 ⟨v828, rfl, ho0, hb⟩; refine ⟨_, rfl, ?_⟩; have HO829 := aM_ (k5_ ho0 (bZ_ HB.out)); replace BK826 := b5_ BK826 hb; replace HB := b4_ HB hb; (try clear hb); (try clear ho0)) | (refine bx_ 6 #[.slice none 0 0] 28 ?_; intro gb831 hg w37 hbox hb; replace HO829 := k9_ HO829 hb; have BK831 := aM_ (hbox); have GW831 := gw_ hg HB; replace HB := b4_ HB hb; have NB826_831 := nb_ hg BK826; have NB831_826 := ns_ NB826_831; replace BK826 := b5_ BK826 hb; clear hb hbox hg; obtain ⟨Ao38, co38, eo38⟩ := kS_ HO829.out; subst eo38; have hnb39 := NB831_826.out; have hnc39 := NB826_831.out; have hcz40_0 := c0_ BK831; have hfz40_0 := bF_ BK831.out 0))
  go_ret2
  exact ⟨by rfl, by repeat with_reducible first | exact HB.out | apply bA_ | apply bN_ | apply bD_ | refine bS_ ?_ (Aside0.out ‹_›)⟩
 subst c4
 rw [if_pos rfl] at H
 replace H := oB_.mp H
 obtain ⟨⟨t832, t833⟩, A50, H⟩ := H
 try dsimp only at H
 have A5 := aM_ A50
 clear A50
 by_cases c6 : t833 = true
 rotate_left
 ·
  replace c6 := Bool.eq_false_iff.mpr c6
  subst c6
  replace H : (some (0, false)) = some (r1, r2) := by rw [if_neg (show ¬ (false = true) by decide)] at H; exact H
  simp only [Option.some.injEq, Prod.mk.injEq] at H
  obtain ⟨rfl, rfl⟩ := H
  go_enter Tryz.func35, Tryz.ntmps35
  go_wp2_with (first | (refine bx_ 2 #[.slice A0_0 l0_0.length c0_0] 33 ?_; intro gb826 hg w26 hbox hb; have BK826 := aM_ (hbox); have GW826 := gw_ hg HB; replace HB := b4_ HB hb; clear hb hbox hg; have hcz27_0 := c0_ BK826; have hfz27_0 := bF_ BK826.out 0) | (refine gs_ 13 Tryz.func51 #[.agg #[.slice A0_0 l0_0.length c0_0]] ?_; (with_reducible refine (iF7.calls k _ _ l0_0 t827 true _ ?side1 HC0_0.out A3.out).mono ?_); (case side1 => repeat (first | exact (k4_ HR0_0.out HB.out) | with_reducible first | apply cA_ | apply cN_ | apply cD_)); rintro e w28 ⟨v828, rfl, ho0, hb⟩; refine ⟨_, rfl, ?_⟩; have HO829 := aM_ (k5_ ho0 (bZ_ HB.out)); replace BK826 := b5_ BK826 hb; replace HB := b4_ HB hb; (try clear hb); (try clear ho0)) | (refine bx_ 6 #[.slice none 0 0] 28 ?_; intro gb831 hg w29 hbox hb; replace HO829 := k9_ HO829 hb; have BK831 := aM_ (hbox); have GW831 := gw_ hg HB; replace HB := b4_ HB hb; have NB826_831 := nb_ hg BK826; have NB831_826 := ns_ NB826_831; replace BK826 := b5_ BK826 hb; clear hb hbox hg; obtain ⟨Ao30, co30, eo30⟩ := kS_ HO829.out; subst eo30; have hnb31 := NB831_826.out; have hnc31 := NB826_831.out; have hcz32_0 := c0_ BK831; have hfz32_0 := bF_ BK831.out 0) | (refine gs_ 21 Tryz.func67 #[.agg #[.slice Ao30 t827.length co30], .string a1] ?_; (with_reducible refine (iF9.calls k _ _ t827 a1 t832 false _ ?side1 ?side2 A5.out).mono ?_); (case side1 => refine (kR_ (e := 96) (base := w.heap.size) (ok := fun k_ => True) (n := t827.length) (c := co30) ?_).2.2; exact (by exact (kM_ (kG_ (kT_ HO829.out BK831.out (by decide))) (fun _ h_ => h_.1)))); (case side2 => exact (kR_ HO829.out).2.1); rintro e w33 ⟨rfl, hb⟩; refine ⟨_, rfl, ?_⟩; replace HO829 := aM_ (kB_ (by exact (kM_ (kG_ (kT_ HO829.out BK831.out (by decide))) (fun _ h_ => h_.1))) hb); replace BK826 := aM_ (bB_ (g := gb826) (o := .cells #[.slice A0_0 l0_0.length c0_0] 33 (0, 0)) (by exact br_ NB826_831.out (BK826.out)) hb); replace BK831 := aM_ (bB_ (g := gb831) (o := .cells #[.slice Ao30 t827.length co30] 28 (0, 0)) (by refine bP_ (cs := #[.slice none 0 0]) ?_ 0 _ rfl; exact BK831.out) hb); replace HB := aM_ (bT_ (by repeat with_reducible first | exact HB.out | apply bA_ | apply bN_ | apply bD_ | refine bS_ ?_ (Aside0.out ‹_›)) hb); (try clear hb)))
  go_ret2
  exact ⟨by rfl, by exact HB.out⟩
 subst c6
 rw [if_pos rfl] at H
 replace H := oB_.mp H
 obtain ⟨⟨t834, t837⟩, A70, H⟩ := H
 try dsimp only at H
 have A7 := aM_ A70
 clear A70
 by_cases c8 : 0 ≤ t832
 rotate_left
 ·
  rw [if_neg c8] at H
  exact absurd H (by simp)
 rw [if_pos c8] at H
 have c8b0 := dT_ c8
 clear c8
 by_cases c9 : t832 < (t837.length : Int)
 rotate_left
 ·
  rw [if_neg c9] at H
  exact absurd H (by simp)
 rw [if_pos c9] at H
 have c9b0 := dT_ c9
 clear c9
 simp only [Option.some.injEq, Prod.mk.injEq] at H
 obtain ⟨rfl, rfl⟩ := H
 go_enter Tryz.func35, Tryz.ntmps35
 go_wp2_with (first | (refine bx_ 2 #[.slice A0_0 l0_0.length c0_0] 33 ?_; intro gb826 hg w10 hbox hb; have BK826 := aM_ (hbox); have GW826 := gw_ hg HB; replace HB := b4_ HB hb; clear hb hbox hg; have hcz11_0 := c0_ BK826; have hfz11_0 := bF_ BK826.out 0) | (refine gs_ 13 Tryz.func51 #[.agg #[.slice A0_0 l0_0.length c0_0]] ?_; (with_reducible refine (iF7.calls k _ _ l0_0 t827 true _ ?side1 HC0_0.out A3.out).mono ?_); (case side1 => repeat (first | exact (k4_ HR0_0.out HB.out) | with_reducible first | apply cA_ | apply cN_ | apply cD_)); rintro e w12 ⟨v828, rfl, ho0, hb⟩; refine ⟨_, rfl, ?_⟩; have HO829 := aM_ (k5_ ho0 (bZ_ HB.out)); replace BK826 := b5_ BK826 hb; replace HB := b4_ HB hb; (try clear hb); (try clear ho0)) | (refine bx_ 6 #[.slice none 0 0] 28 ?_; intro gb831 hg w13 hbox hb; replace HO829 := k9_ HO829 hb; have BK831 := aM_ (hbox); have GW831 := gw_ hg HB; replace HB := b4_ HB hb; have NB826_831 := nb_ hg BK826; have NB831_826 := ns_ NB826_831; replace BK826 := b5_ BK826 hb; clear hb hbox hg; obtain ⟨Ao14, co14, eo14⟩ := kS_ HO829.out; subst eo14; have hnb15 := NB831_826.out; have hnc15 := NB826_831.out; have hcz16_0 := c0_ BK831; have hfz16_0 := bF_ BK831.out 0) | (refine gs_ 21 Tryz.func67 #[.agg #[.slice Ao14 t827.length co14], .string a1] ?_; (with_reducible refine (iF9.calls k _ _ t827 a1 t832 true _ ?side1 ?side2 A5.out).mono ?_); (case side1 => refine (kR_ (e := 96) (base := w.heap.size) (ok := fun k_ => True) (n := t827.length) (c := co14) ?_).2.2; exact (by exact (kM_ (kG_ (kT_ HO829.out BK831.out (by decide))) (fun _ h_ => h_.1)))); (case side2 => exact (kR_ HO829.out).2.1); rintro e w17 ⟨rfl, hb⟩; refine ⟨_, rfl, ?_⟩; replace HO829 := aM_ (kB_ (by exact (kM_ (kG_ (kT_ HO829.out BK831.out (by decide))) (fun _ h_ => h_.1))) hb); replace BK826 := aM_ (bB_ (g := gb826) (o := .cells #[.slice A0_0 l0_0.length c0_0] 33 (0, 0)) (by exact br_ NB826_831.out (BK826.out)) hb); replace BK831 := aM_ (bB_ (g := gb831) (o := .cells #[.slice Ao14 t827.length co14] 28 (0, 0)) (by refine bP_ (cs := #[.slice none 0 0]) ?_ 0 _ rfl; exact BK831.out) hb); replace HB := aM_ (bT_ (by repeat with_reducible first | exact HB.out | apply bA_ | apply bN_ | apply bD_ | refine bS_ ?_ (Aside0.out ‹_›)) hb); (try clear hb); have hcz18_0 := c0_ BK831; have hfz18_0 := bF_ BK831.out 0) | (refine gs_ 28 Tryz.func68 #[.agg #[.slice Ao14 t827.length co14]] ?_; (with_reducible refine (iF14.calls k _ _ t827 t834 t837 _ ?side1 ?side2 A7.out).mono ?_); (case side1 => repeat (first | exact (kR_ HO829.out).2.2 | with_reducible first | apply cA_ | apply cN_ | apply cD_)); (case side2 => exact (kR_ HO829.out).2.1); rintro e w19 ⟨v835, v838, rfl, ho0, ho1, hb⟩; refine ⟨_, rfl, ?_⟩; replace HO829 := k9_ HO829 hb; have HO836 := aM_ (Kd.S_lower ho0 (bZ_ HB.out)); have HO839 := aM_ (k5_ ho1 (bZ_ HB.out)); replace BK826 := b5_ BK826 hb; replace BK831 := b5_ BK831 hb; replace HB := b4_ HB hb; (try clear hb); (try clear ho0); (try clear ho1)) | (refine bx_ 9 #[.slice none 0 0] 33 ?_; intro gb840 hg w20 hbox hb; replace HO829 := k9_ HO829 hb; replace HO836 := aM_ (Kd.S_below (by (with_reducible repeat (first | apply Kd.S_alloc | apply Kd.S_drewN | apply Kd.S_drew)); exact HO836.out) hb); replace HO839 := k9_ HO839 hb; have BK840 := aM_ (hbox); have GW840 := gw_ hg HB; replace HB := b4_ HB hb; have NB826_840 := nb_ hg BK826; have NB840_826 := ns_ NB826_840; replace BK826 := b5_ BK826 hb; have NB831_840 := nb_ hg BK831; have NB840_831 := ns_ NB831_840; replace BK831 := b5_ BK831 hb; clear hb hbox hg; obtain ⟨Ao21, co21, eo21⟩ := Kd.S_slice HO836.out; subst eo21; have hnb22 := NB840_826.out; have hnc22 := NB826_840.out; have hnb23 := NB840_831.out; have hnc23 := NB831_840.out; have hcz24_0 := c0_ BK840; have hfz24_0 := bF_ BK840.out 0; obtain ⟨Ao25, co25, eo25⟩ := kS_ HO839.out; subst eo25; have p841 : 0 ≤ (t832 : Int) := oD_ ‹_›; have q841 : t832 < (t837.length : Int) := oD_ ‹_›; obtain ⟨ad841, e841, hx841_0⟩ := Kd.at_int (kR_ HO839.out).2.2 t832 p841 q841; cases e841; have hn841_0 : ad841.block ≠ gb840 := k7_ (k6_ HO839.out BK840.out (by decide)); replace hx841_0 := (cF_ (p := ⟨gb840, 0, none⟩) (by (rw [add_block]; exact hn841_0)) (.slice Ao21 t834.length co21)).trans hx841_0; clear hn841_0; replace p841 := eq_true p841; replace q841 := eq_true q841))
 go_ret2
 exact ⟨by rfl, by repeat with_reducible first | exact HB.out | apply bA_ | apply bN_ | apply bD_ | refine bS_ ?_ (Aside0.out ‹_›)⟩
end Go.Proofs.YtnnkedeohfbkeaaGreatDoor.P
namespace Go.Proofs.YtnnkedeohfbkeaaGreatDoor.P
open Go.RowKit Go.Proofs.YtnnkedeohfbkeaaGreatDoorW.PrintWords Go.Proofs.YtnnkedeohfbkeaaGreatDoorW.PrintLast Go.Proofs.YtnnkedeohfbkeaaGreatDoorW.PrintMore
attribute [local go_sem] max2_int min2_int max_two min_two max_three min_three max_four min_four
namespace OA
open Go.ChangeShapes Go.WideShapes Go.Deep Go.ChangeAt Go.Joins
section
variable {H : Type} {enc : TypeId × Value → H} {P : Program} {w : World} {base : Nat} {spare : Nat → Bool} {held : Bool}
theorem fields {t e : TypeId} {fs : Array Field} {fuel : Nat} {cs : List Value} {x : DataW H × List MemPlace} (ht : P.underlying t = some (.slice e)) (he : P.underlying e = some (.struct fs))
  (hone : oneCellFields P fs = true) (hC : P.cellsOf e = fs.size) (h : DataW.trod enc P w base spare held fuel t cs = some x) :
  (cs = [.slice none 0 0]) ∨
  ∃ (a : Addr) (len cap : Nat), cs = [.slice (some a) len cap] ∧ len ≤ cap ∧ cap ≤ maxLen ∧
   ∀ i, i < len → ∃ n : Nat, ∀ (j : Nat) (f : Field), fs[j]? = some f → ∃ (v : Value) (y : DataW H × List MemPlace), w.cell? (a.add (i * fs.size + j)) = some v ∧ DataW.trod enc P w base spare held n f.type [v] = some y := by
 rcases open_slice ht h with h0 | ⟨a, len, cap, m, n, D, Pl, hcs, hb, hl, hm, hmm, hx, hi⟩
 ·
  exact .inl h0.1
 refine .inr ⟨a, len, cap, hcs, hl, hm, fun i hil => ?_⟩
 have him : i < m := by rw [hmm]; split <;> omega
 obtain ⟨cs', hc, ht'⟩ := hi i him
 rw [hC] at hc
 obtain ⟨ys, n', hn', hy, hlen, hyl, hf⟩ := DataW.trod_struct he ht'
 obtain ⟨_, hcl, hat⟩ := World.cells?_some hc
 refine ⟨n', fun j f hj => ?_⟩
 obtain ⟨ho, hk⟩ := hone_of hone j f hj
 have hjl : j < fs.size := (Array.getElem?_eq_some_iff.1 hj).1
 have hcell := hat j hjl
 have hv : cs'[j]? = some (cs'[j]'(by omega)) := List.getElem?_eq_getElem (by omega)
 have h1 := hf j f hj
 rw [ho, hk] at h1
 have hone' : (cs'.drop j).take 1 = [cs'[j]'(by omega)] := by
  rw [List.drop_eq_getElem_cons (by omega)]
  rfl
 rw [hone'] at h1
 have hys : ys[j]? = some (ys[j]'(by omega)) := List.getElem?_eq_getElem (by omega)
 refine ⟨_, _, ?_, h1.trans hys⟩
 rw [← Go.Deep.add_add, hcell, hv]
theorem array1 {α : Type} {cs : Array α} (h : cs.size = 1) : ∃ c0, cs = #[c0] := by
 obtain ⟨l⟩ := cs
 match l, h with
 | [c0], _ => exact ⟨c0, rfl⟩
theorem agg1 {r : Reach} {b0 : Nat} {t : TypeId} {f0 : Field} {v : Value} {d : DataW H} {p : List MemPlace} (hs : P.underlying t = some (.struct #[f0])) (hone : oneCellFields P #[f0] = true) (hC : P.cellsOf t = 1)
  (hv : Value.okWide P w r b0 t v) (h : DataW.Trod enc P w base spare held t v d p) :
  ∃ (v0 : Value) (y0 : DataW H × List MemPlace) (n : Nat), v = .agg #[v0] ∧ DataW.trod enc P w base spare held n f0.type [v0] = some y0 := by
 obtain ⟨cs, rfl, hsz⟩ := okWide_struct hs hv
 obtain ⟨c0, rfl⟩ := array1 (hsz.trans hC)
 obtain ⟨fuel, hf⟩ := h
 obtain ⟨xs, n, _, hx, _, hlen, hg⟩ := DataW.trod_struct hs hf
 obtain ⟨o0, k0⟩ := hone_of hone 0 f0 rfl
 have h0 := hg 0 f0 rfl
 have hl : 0 < xs.length := by rw [hlen]; exact Nat.zero_lt_one
 rw [List.getElem?_eq_getElem hl] at h0
 exact ⟨c0, _, n, rfl, by simpa [Value.cells, o0, k0] using h0⟩
end
end OA
end Go.Proofs.YtnnkedeohfbkeaaGreatDoor.P
namespace Go.Proofs.YtnnkedeohfbkeaaGreatDoor.P
open Go.RowKit Go.Proofs.YtnnkedeohfbkeaaGreatDoorW.PrintWords Go.Proofs.YtnnkedeohfbkeaaGreatDoorW.PrintLast Go.Proofs.YtnnkedeohfbkeaaGreatDoorW.PrintMore
attribute [local go_sem] max2_int min2_int max_two min_two max_three min_three max_four min_four
namespace OM
open Go.ChangeShapes Go.WideShapes Go.Deep Go.ChangeAt Go.Joins OA
section
variable {H : Type} {enc : TypeId × Value → H} {w : World} {base : Nat} {spare : Nat → Bool} {held : Bool}
theorem edges {fuel : Nat} {v : Value} {x : DataW H × List MemPlace} (h : DataW.trod enc Tryz.prog w base spare held fuel 70 [v] = some x) :
  ∃ (A : Option Addr) (cap : Nat) (l : List S88), v = .slice A l.length cap ∧ l.length ≤ cap ∧ Kd.C k88 w A l.length l := by
 have hce : Tryz.prog.cellsOf 88 = 2 := by kernel_rfl
 have hci : Tryz.prog.cellsOf 3 = 1 := by kernel_rfl
 rcases open_slice Tryz.underlying70 h with e | ⟨a, len, cap, m, n, D, Pl, e, _, hl, hm, hmm, _, hi⟩
 ·
  obtain rfl : v = .slice none 0 0 := by simpa using e.1
  exact ⟨none, 0, [], rfl, Nat.le_refl _, ⟨rfl, by simp, fun h => absurd h (Nat.lt_irrefl _)⟩⟩
 obtain rfl : v = .slice (some a) len cap := by simpa using e
 have hex : ∀ i, i < len → ∃ x : S88, w.cell? (a.add (i * 2 + 0)) = some (.int .i64 x.f0) ∧ w.cell? (a.add (i * 2 + 1)) = some (.int .i64 x.f1) := by
  intro i hil
  obtain ⟨cs', hc, ht⟩ := hi i (by rw [hmm]; split <;> omega)
  rw [hce] at hc
  obtain ⟨_, hcl, hat⟩ := World.cells?_some hc
  obtain ⟨xs, m', _, _, _, hxl, hx⟩ := DataW.trod_array Tryz.underlying88 ht
  match cs', hcl with
  | [u0, u1], _ =>
   have h0 := hx 0 (by omega)
   have h1 := hx 1 (by omega)
   rw [hci, List.getElem?_eq_getElem (by omega)] at h0 h1
   obtain ⟨n0, e0, _, _⟩ := DataW.trod_int Tryz.underlying3 h0
   obtain ⟨n1, e1, _, _⟩ := DataW.trod_int Tryz.underlying3 h1
   have a0 := hat 0 (by omega)
   have a1 := hat 1 (by omega)
   rw [Go.Deep.add_add] at a0 a1
   have e0' : u0 = .int .i64 n0 := by simpa using e0
   have e1' : u1 = .int .i64 n1 := by simpa using e1
   subst e0' e1'
   exact ⟨⟨n0, n1⟩, a0, a1⟩
 obtain ⟨g, hg⟩ : ∃ g : Nat → S88, ∀ i, i < len → w.cell? (a.add (i * 2 + 0)) = some (.int .i64 (g i).f0) ∧ w.cell? (a.add (i * 2 + 1)) = some (.int .i64 (g i).f1) :=
  ⟨fun i => if h : i < len then Classical.choose (hex i h) else z88, fun i h => by simp only [dif_pos h]; exact Classical.choose_spec (hex i h)⟩
 refine ⟨some a, cap, (List.range len).map g, by simp, by simpa using hl, ⟨by simp, ?_, fun _ => ⟨a, rfl, fun j p hj => ?_⟩⟩⟩
 ·
  have : (maxLen : Nat) ≤ 9223372036854775807 := by decide
  simp; omega
 obtain ⟨hjl, rfl⟩ := List.getElem?_eq_some_iff.1 hj
 have hjl' : j < len := by simpa using hjl
 obtain ⟨c0, c1⟩ := hg j hjl'
 rw [List.getElem_map, List.getElem_range]
 refine ⟨_, rfl, k88_mk w (g j), fun i u hu => ?_⟩
 match i, hu with
 | 0, hu => obtain rfl := Option.some.inj hu; exact c0
 | 1, hu => obtain rfl := Option.some.inj hu; exact c1
theorem machine {r : Reach} {b0 : Nat} {v : Value} {d : DataW H} {p : List MemPlace}
  (hv : Value.okWide Tryz.prog w r b0 24 v) (h : DataW.Trod enc Tryz.prog w base spare held 24 v d p) :
  ∃ (A : Option Addr) (cap : Nat) (l : List S90), v = .agg #[.slice A l.length cap] ∧ l.length ≤ cap ∧ Kd.C k90 w A l.length l := by
 obtain ⟨v0, y0, n, rfl, h0⟩ := agg1 Tryz.underlying24 (by kernel_rfl) (by kernel_rfl) hv h
 rcases fields Tryz.underlying22 Tryz.underlying90 (by kernel_rfl) (by kernel_rfl) h0 with e | ⟨a, len, cap, e, hl, hm, hi⟩
 ·
  obtain rfl : v0 = .slice none 0 0 := by simpa using e
  exact ⟨none, 0, [], rfl, Nat.le_refl _, ⟨rfl, by simp, fun h => absurd h (Nat.lt_irrefl _)⟩⟩
 obtain rfl : v0 = .slice (some a) len cap := by simpa using e
 have hex : ∀ i, i < len → ∃ x : S90, ∃ A1 c1, w.cell? (a.add (i * 2 + 0)) = some (.bool x.f0) ∧ w.cell? (a.add (i * 2 + 1)) = some (.slice A1 x.f1.length c1) ∧ x.f1.length ≤ c1 ∧ Kd.C k88 w A1 x.f1.length x.f1 := by
  intro i hil
  obtain ⟨n, hf⟩ := hi i hil
  obtain ⟨u0, y0, c0, t0⟩ := hf 0 _ rfl
  obtain ⟨u1, y1, c1, t1⟩ := hf 1 _ rfl
  obtain ⟨b0, e0, _⟩ := DataW.trod_bool Tryz.underlying4 t0
  obtain ⟨A1, cap1, l1, e1, hc1, hr1⟩ := edges t1
  simp only [List.cons.injEq, and_true] at e0
  subst e0 e1
  exact ⟨⟨b0, l1⟩, A1, cap1, c0, c1, hc1, hr1⟩
 obtain ⟨g, hg⟩ : ∃ g : Nat → S90, ∀ i, i < len → ∃ A1 c1, w.cell? (a.add (i * 2 + 0)) = some (.bool (g i).f0) ∧ w.cell? (a.add (i * 2 + 1)) = some (.slice A1 (g i).f1.length c1) ∧ (g i).f1.length ≤ c1 ∧ Kd.C k88 w A1 (g i).f1.length (g i).f1 :=
  ⟨fun i => if h : i < len then Classical.choose (hex i h) else z90, fun i h => by simp only [dif_pos h]; exact Classical.choose_spec (hex i h)⟩
 refine ⟨some a, cap, (List.range len).map g, by simp, by simpa using hl, ⟨by simp, ?_, fun _ => ⟨a, rfl, fun j p hj => ?_⟩⟩⟩
 ·
  have : (maxLen : Nat) ≤ 9223372036854775807 := by decide
  simp; omega
 obtain ⟨hjl, rfl⟩ := List.getElem?_eq_some_iff.1 hj
 have hjl' : j < len := by simpa using hjl
 obtain ⟨A1, c1, d0, d1, d2, d3⟩ := hg j hjl'
 rw [List.getElem_map, List.getElem_range]
 refine ⟨_, rfl, k90_mk w (g j) d2 d3, fun i u hu => ?_⟩
 match i, hu with
 | 0, hu => obtain rfl := Option.some.inj hu; exact d0
 | 1, hu => obtain rfl := Option.some.inj hu; exact d1
end
end OM
end Go.Proofs.YtnnkedeohfbkeaaGreatDoor.P
namespace Go.Proofs.YtnnkedeohfbkeaaGreatDoor.P
open Go.RowKit Go.Proofs.YtnnkedeohfbkeaaGreatDoorW.PrintWords Go.Proofs.YtnnkedeohfbkeaaGreatDoorW.PrintLast Go.Proofs.YtnnkedeohfbkeaaGreatDoorW.PrintMore
open Go.Proofs.YtnnkedeohfbkeaaGreatDoorW.PrintWords renaming blk_frozen → bF_, blk_cell → bC_, below_set → bS_, blk_below → bB_, below_step → bT_, pw_below_drewN → bN_, below_size → bZ_, below_drew1 → bD_, below_alloc → bA_, blk_far → bR_, gate_callee → gC_, gate_dst → gD_, box_event → bE_, blk_drew → b1_, blk_put → bP_, blk_drewN → b2_, blk_alloc → b3_, blk_lt → bL_, cell_far → cF_
open Go.Proofs.YtnnkedeohfbkeaaGreatDoorW.PrintLast renaming any_of → aO_, i64_w → i6_, i32_w → i3_, take_ofW → tW_
open Go.Proofs.YtnnkedeohfbkeaaGreatDoorW.PrintWords.Kd renaming R_below → kB_, R_mono → kM_, R_far → kF_, R_reads' → kR_, R_types → kT_, R_slice → kS_, R_celln → kC_, R_alloc → k1_, R_drewN → k2_, R_drew → k3_, C_below → k4_, R_lower → k5_, R_ne → k6_, own_blk → k7_
open Go.Proofs.YtnnkedeohfbkeaaGreatDoorW.PrintWords.LeO renaming none → l0_, bind → l1_, ite → l2_, refl → l3_
open World renaming block_lt_of_cell? → wB_
open _root_.Option renaming bind_eq_some_iff → oB_
open _root_.ByteArray renaming empty → eB_
open List renaming setIfInBounds_toArray → sA_, set_cons_zero → sB_, set_cons_succ → sC_, map_toArray → sD_, map_cons → sE_, map_nil → sF_, length_drop → sG_, length_take → sH_
open Bool renaming true → ty, false → fy
open Aside0 renaming mk → aM_
attribute [local go_sem] max2_int min2_int max_two min_two max_three min_three max_four min_four
def sF74.f (k : Nat) (l0_0 : List (S72)) : Option (List ByteArray) := (sF73.f k l0_0 0 (⟨#[]⟩ : ByteArray) 0).bind fun bt314 => (some bt314.1)
theorem sF74.mono : ∀ a0 k, LeO (sF74.f k a0) (sF74.f (k + 1) a0) := by
 intro a0 k
 unfold sF74.f
 repeat' with_reducible first | exact sF73.mono _ _ _ _ _ | exact l3_ _ | exact l0_ _ | refine l2_ ?_ ?_ | refine l1_ ?_ (fun _ => ?_)
theorem sF74.calls (k : Nat) (A0_0 : Option Addr) (c0_0 : Nat) (l0_0 : List (S72)) (r : List ByteArray) (w : World) (hr0_0 : Kd.C k72 w A0_0 l0_0.length l0_0) (hc0_0 : l0_0.length ≤ c0_0) (h : sF74.f k l0_0 = some r) :
  Calls Tryz.prog 49 #[.agg #[.slice A0_0 l0_0.length c0_0]] w fun e w' => ∃ v0_ : Value, e = .returned (v0_) ∧ Kd.R Kd.string 9 w' w.heap.size (fun _ => True) v0_ r ∧ Below w.heap.size w w' := by
 have hu33 := Tryz.underlying33
 have HR0_0 := aM_ hr0_0
 have HC0_0 := aM_ hc0_0
 clear hr0_0 hc0_0
 have HB := aM_ (Below.refl w.heap.size w)
 have H : ((sF73.f k l0_0 0 (⟨#[]⟩ : ByteArray) 0).bind fun bt314 => (some bt314.1)) = some r := h
 clear h
 replace H := oB_.mp H
 obtain ⟨⟨t314, t317⟩, A20, H⟩ := H
 try dsimp only at H
 have A2 := aM_ A20
 clear A20
 obtain rfl := Option.some.inj H
 go_enter Tryz.func49, Tryz.ntmps49
 go_wp2_with (first | (refine bx_ 1 #[.slice A0_0 l0_0.length c0_0] 33 ?_; intro gb313 hg w3 hbox hb; have BK313 := aM_ (hbox); have GW313 := gw_ hg HB; replace HB := b4_ HB hb; clear hb hbox hg; have hcz4_0 := c0_ BK313; have hfz4_0 := bF_ BK313.out 0) | (refine gs_ 7 Tryz.func69 #[.agg #[.slice A0_0 l0_0.length c0_0], .int .i64 0, .string (⟨#[]⟩ : ByteArray), .int .i64 0] ?_; (with_reducible refine (sF73.calls k _ _ l0_0 0 (⟨#[]⟩ : ByteArray) 0 t314 t317 _ ?side1 HC0_0.out A2.out).mono ?_); (case side1 => repeat (first | exact (k4_ HR0_0.out HB.out) | with_reducible first | apply cA_ | apply cN_ | apply cD_)); rintro e w5 ⟨v315, rfl, ho0, hb⟩; refine ⟨_, rfl, ?_⟩; have HO316 := aM_ (k5_ ho0 (bZ_ HB.out)); replace BK313 := b5_ BK313 hb; replace HB := b4_ HB hb; (try clear hb); (try clear ho0)))
 go_ret
 exact ⟨_, by rfl, by exact HO316.out, by exact HB.out⟩
def wF35.aN (a1 : Int) : Nat → Int
 | 0 => a1
 | i + 1 => wrap64 (wrap64 (wF35.aN a1 i + 1) + 1)
def wF35.mN (l0 : List S88) (a1 : Int) : Nat → List S88
 | 0 => l0
 | i + 1 => (wF35.mN l0 a1 i).set i ⟨wF35.aN a1 i, wrap64 (wF35.aN a1 i + 1)⟩
theorem wF35.mN_length (l0 : List S88) (a1 : Int) : ∀ i, (wF35.mN l0 a1 i).length = l0.length
 | 0 => rfl
 | i + 1 => by rw [wF35.mN, List.length_set, wF35.mN_length l0 a1 i]
def wF35.f (l0 : List S88) (a1 : Int) : Option (Int × List S88) := if l0.length ≤ 1000000000 then some (wF35.aN a1 l0.length, wF35.mN l0 a1 l0.length) else none
def wF35.aJ (a : Int) : Nat → Int
 | 0 => a
 | j + 1 => wrap64 (wF35.aJ a j + 1)
def wF35.mJ (x : List S88) (i : Nat) (a : Int) : Nat → List S88
 | 0 => x
 | 1 => x.set i ⟨a, (rd_T88 x (i : Int)).f1⟩
 | _ => x.set i ⟨a, wrap64 (a + 1)⟩
theorem wF35.mJ_length (x : List S88) (i : Nat) (a : Int) : ∀ j, (wF35.mJ x i a j).length = x.length
 | 0 => rfl
 | 1 => List.length_set ..
 | _ + 2 => List.length_set ..
set_option maxHeartbeats 4000000 in
theorem wF35.calls (P0_ : Nat → Prop) (u9000_ : Value) (l0 : List S88) (a1 : Int) (r1 : Int) (r2 : List S88) (w0 w : World) (hB : Below w0.heap.size w0 w) (ho0 : Kd.R k88 88 w w0.heap.size P0_ u9000_ l0) (h : wF35.f l0 a1 = some (r1, r2)) :
  Calls Tryz.prog 87 #[u9000_, .int .i64 a1] w fun e w' => e = .returned (.int .i64 r1) ∧ Kd.R k88 88 w' w0.heap.size (fun k_ => (P0_ k_ ∨ w.heap.size ≤ k_)) u9000_ r2 ∧ Below w0.heap.size w0 w' ∧ Kept w w' (fun k_ => P0_ k_) := by
 unfold wF35.f at h
 by_cases hbig : l0.length ≤ 1000000000
 rotate_left
 ·
  rw [if_neg hbig] at h; cases h
 rw [if_pos hbig] at h
 simp only [Option.some.injEq, Prod.mk.injEq] at h
 obtain ⟨rfl, rfl⟩ := h
 obtain ⟨A0, c0, hv⟩ := kS_ ho0
 subst hv
 obtain ⟨n, hn⟩ : ∃ n, l0.length = n := ⟨_, rfl⟩
 have HN := aM_ hn
 have HO0 := aM_ (show Kd.R k88 88 w w0.heap.size (fun k_ => (P0_ k_ ∨ w.heap.size ≤ k_)) (.slice A0 l0.length c0) l0 from kM_ ho0 (fun k_ hk => (.inl hk)))
 have HK := aM_ (Kept.refl w (fun k_ => P0_ k_))
 have HP0 := aM_ ho0.1
 have HW0 := aM_ hB.size
 have HB := aM_ hB
 have HBIG := aM_ hbig
 rw [hn]
 rw [hn] at HO0
 clear hB ho0 hbig hn
 go_enter Tryz.func87, Tryz.ntmps87
 go_wp2_with fail
 go_loopg [1, 5] n (fun gg v1 v5 w' => ∃ i : Nat, i ≤ n ∧ n - i ≤ gg ∧ v1 = .int .i64 (wF35.aN a1 i) ∧ v5 = .int .i64 (i : Int) ∧ Aside0 (Kd.R k88 88 w' w0.heap.size (fun k_ => (P0_ k_ ∨ w.heap.size ≤ k_)) (.slice A0 n c0) (wF35.mN l0 a1 i)) ∧ Aside0 (Kept w w' (fun k_ => P0_ k_)) ∧ Aside0 (Below w0.heap.size w0 w'))
 case atStart => exact ⟨0, Nat.zero_le _, by omega, rfl, rfl, HO0, HK, HB⟩
 clear HO0 HK HB
 obtain ⟨i, hi, hg, rfl, rfl, HO, HK, HB⟩ := hrel
 by_cases hlt : i < n
 rotate_left
 ·
  have hltz : ¬ (i : Int) < (n : Int) := by omega
  obtain rfl : i = n := by omega
  go_wp2_with fail
  go_ret
  exact ⟨rfl, HO.out, HB.out, HK.out⟩
 have hltz : (i : Int) < (n : Int) := by omega
 obtain ⟨a, ha⟩ : ∃ a, a = wF35.aN a1 i := ⟨_, rfl⟩
 obtain ⟨x, hx⟩ : ∃ x, x = wF35.mN l0 a1 i := ⟨_, rfl⟩
 have HXL := aM_ (show x.length = n from by rw [hx, wF35.mN_length, HN.out])
 rw [← hx] at HO
 rw [← ha]
 have HAX := aM_ (And.intro ha hx)
 clear ha hx
 go_wp2_with fail
 go_loopg [1, 6] 2 (fun gg v1 v6 w' => ∃ j : Nat, j ≤ 2 ∧ 2 - j ≤ gg ∧ v1 = .int .i64 (wF35.aJ a j) ∧ v6 = .int .i64 (j : Int) ∧ Aside0 (Kd.R k88 88 w' w0.heap.size (fun k_ => (P0_ k_ ∨ w.heap.size ≤ k_)) (.slice A0 n c0) (wF35.mJ x i a j)) ∧ Aside0 (Kept w w' (fun k_ => P0_ k_)) ∧ Aside0 (Below w0.heap.size w0 w'))
 case atStart => exact ⟨0, Nat.zero_le _, by omega, rfl, rfl, HO, HK, HB⟩
 clear HO HK HB
 obtain ⟨j, hj, hgj, rfl, rfl, HO, HK, HB⟩ := hrel
 by_cases hlj : j < 2
 rotate_left
 ·
  have hljz : ¬ (j : Int) < 2 := by omega
  obtain rfl : j = 2 := by omega
  have HO2 := aM_ (show Kd.R k88 88 wr w0.heap.size (fun k_ => (P0_ k_ ∨ w.heap.size ≤ k_)) (.slice A0 n c0) (wF35.mN l0 a1 (i + 1)) from by
   obtain ⟨h1, h2⟩ := HAX.out
   have := HO.out
   rw [wF35.mN, ← h1, ← h2]
   exact this)
  have HA2 := aM_ (show wF35.aJ a 2 = wF35.aN a1 (i + 1) from by rw [wF35.aN, ← HAX.out.1]; rfl)
  clear HO
  go_wp2_with fail
  go_roundg (n - (i + 1))
  case measure => omega
  case rel => exact ⟨i + 1, by omega, by omega, by rw [HA2.out], (by have h9 := HBIG.out; have h8 := HN.out; congr 1; unfold wrap64; omega), HO2, HK, HB⟩
 have hljz : (j : Int) < 2 := by omega
 obtain ⟨go, co, eo, gb, gl, cl, HG⟩ := Kd.R_form HO.out (by rw [wF35.mJ_length, HXL.out]; omega)
 have HGO := aM_ (show ∀ k_, _ → _ from HO.out.1)
 injection eo with ea_ en_ ec_
 subst ea_
 have GB := aM_ gb
 clear gb gl HG en_ ec_
 obtain ⟨ce, hcl, hM, hcc, hfr⟩ := Kd.R_elem HO.out z88 (i : Int) (by omega) (by omega)
 obtain rfl := k88_openM hM
 have hx0 := hcc 0 _ rfl
 have hx1 := hcc 1 _ rfl
 have hf0 := hfr 0
 have hf1 := hfr 1
 simp only [show (k88).sz = 2 from rfl, Int.toNat_natCast, Nat.add_zero] at hx0 hx1 hf0 hf1
 clear hM hfr
 rcases (show j = 0 ∨ j = 1 from by omega) with rfl | rfl
 ·
  have HP := Kd.R_seg HO.out (i : Int) (by omega) hltz (seg := [.int .i64 a]) (j := 0) hcl hcc (show 1 ≤ 2 from by decide) (x' := (⟨a, (rd_T88 x (i : Int)).f1⟩ : S88)) (k88_mkM _ _ _ (⟨a, (rd_T88 x (i : Int)).f1⟩ : S88)) (fun _ hk => hk)
  have hmj : (wF35.mJ x i a 0).set (i : Int).toNat (⟨a, (rd_T88 x (i : Int)).f1⟩ : S88) = wF35.mJ x i a 1 := rfl
  rw [hmj] at HP
  have HP1 := aM_ HP
  clear HP hmj hcl hcc
  have hxc : wr.cell? ⟨go, i * 2, none⟩ = _ := hx0
  have hfc : wr.frozen? ⟨go, i * 2, none⟩ = false := hf0
  clear hx0 hx1 hf0 hf1
  have HJ := aM_ (show wF35.aJ a 0 = a from rfl)
  rw [HJ.out]
  clear HO HJ
  go_wp2_with (first | ((with_reducible refine gate_store (t := 3) (p := 22) rfl ?_); refine store_event (t := 3) (p := 22) (v := ?vo) (w1 := (wr.setCell ⟨go, i * 2, none⟩ (.int .i64 a))) ?hg ?ho ?hn ?hr ?_; (case ho => rfl); (case hg => rfl); (case hn => rfl); (case hr => (go_simp; done)); intro w10 hw; have hg : wr.grownBy w10 (some go) := (by rw [hw]; exact HP1.out.2); have HO := aM_ (show Kd.R k88 88 w10 w0.heap.size (fun k_ => (P0_ k_ ∨ w.heap.size ≤ k_)) (.slice (some ⟨go, 0, none⟩) n c0) (wF35.mJ x i a 1) from by rw [hw]; have h9 := HP1.out.1; exact h9); have n1_ := aM_ ((by rw [hw]; exact bS_ (HB.out) GB.out : Below w0.heap.size w0 w10)); have n2_ := aM_ (Kept.of_grown (S := (fun k_ => P0_ k_)) hg HK.out (fun k_ e_ => HGO.out k_ e_)); clear HB HK HP1; have HB := n1_; have HK := n2_; clear n1_ n2_ hg hw hxc hfc))
  go_roundg (2 - 1)
  case measure => omega
  case rel => exact ⟨1, by omega, by omega, rfl, rfl, HO, HK, HB⟩
 have HP := Kd.R_seg HO.out (i : Int) (by omega) hltz (seg := [.int .i64 (wrap64 (a + 1))]) (j := 1) hcl hcc (show 2 ≤ 2 from by decide) (x' := (⟨(rd_T88 (wF35.mJ x i a 1) (i : Int)).f0, wrap64 (a + 1)⟩ : S88)) (k88_mkM _ _ _ (⟨(rd_T88 (wF35.mJ x i a 1) (i : Int)).f0, wrap64 (a + 1)⟩ : S88)) (fun _ hk => hk)
 have hmj : (wF35.mJ x i a 1).set (i : Int).toNat (⟨(rd_T88 (wF35.mJ x i a 1) (i : Int)).f0, wrap64 (a + 1)⟩ : S88) = wF35.mJ x i a 2 := by
  show (x.set i _).set i _ = x.set i _
  rw [List.set_set]
  congr 2
  show ((x.set i _).getD (i : Int).toNat _).f0 = a
  rw [Int.toNat_natCast, List.getD_eq_getElem?_getD, List.getElem?_set_self (by rw [HXL.out]; exact hlt)]
  rfl
 rw [hmj] at HP
 have HP1 := aM_ HP
 clear HP hmj hcl hcc
 have hxc : wr.cell? ⟨go, i * 2 + 1, none⟩ = _ := hx1
 have hfc : wr.frozen? ⟨go, i * 2 + 1, none⟩ = false := hf1
 clear hx0 hx1 hf0 hf1
 have HJ := aM_ (show wF35.aJ a 1 = (wrap64 (a + 1)) from rfl)
 rw [HJ.out]
 clear HO HJ
 go_wp2_with (first | ((with_reducible refine gate_store (t := 3) (p := 22) rfl ?_); refine store_event (t := 3) (p := 22) (v := ?vo) (w1 := (wr.setCell ⟨go, i * 2 + 1, none⟩ (.int .i64 (wrap64 (a + 1))))) ?hg ?ho ?hn ?hr ?_; (case ho => rfl); (case hg => rfl); (case hn => rfl); (case hr => (go_simp; done)); intro w10 hw; have hg : wr.grownBy w10 (some go) := (by rw [hw]; exact HP1.out.2); have HO := aM_ (show Kd.R k88 88 w10 w0.heap.size (fun k_ => (P0_ k_ ∨ w.heap.size ≤ k_)) (.slice (some ⟨go, 0, none⟩) n c0) (wF35.mJ x i a 2) from by rw [hw]; have h9 := HP1.out.1; exact h9); have n1_ := aM_ ((by rw [hw]; exact bS_ (HB.out) GB.out : Below w0.heap.size w0 w10)); have n2_ := aM_ (Kept.of_grown (S := (fun k_ => P0_ k_)) hg HK.out (fun k_ e_ => HGO.out k_ e_)); clear HB HK HP1; have HB := n1_; have HK := n2_; clear n1_ n2_ hg hw hxc hfc))
 go_roundg (2 - 2)
 case measure => omega
 case rel => exact ⟨2, by omega, by omega, rfl, rfl, HO, HK, HB⟩
def wF37.go : (d i : Nat) → Int → List S72 → Option (Int × List S72)
 | 0, _, k, l => some (k, l)
 | d + 1, i, k, l => (wF35.f (rd_T72 l (i : Int)).f1 (wrap64 (k + 1))).bind fun p => wF37.go d (i + 1) p.1 (l.set i ⟨Int.tmod k 3 == 0, p.2⟩)
def wF37.f (l0 : List S72) (a1 : Int) : Option (Int × List S72) := if l0.length ≤ 1000000000 then wF37.go l0.length 0 a1 l0 else none
set_option maxHeartbeats 4000000 in
theorem wF37.calls (P0_ : Nat → Prop) (u9000_ : Value) (l0 : List S72) (a1 : Int) (r1 : Int) (r2 : List S72) (w0 w : World) (hB : Below w0.heap.size w0 w) (ho0 : Kd.S k72 72 w w0.heap.size P0_ u9000_ l0) (h : wF37.f l0 a1 = some (r1, r2)) :
  Calls Tryz.prog 54 #[u9000_, .int .i64 a1] w fun e w' => e = .returned (.int .i64 r1) ∧ Kd.S k72 72 w' w0.heap.size (fun k_ => (P0_ k_ ∨ w.heap.size ≤ k_)) u9000_ r2 ∧ Below w0.heap.size w0 w' ∧ Kept w w' (fun k_ => P0_ k_) := by
 unfold wF37.f at h
 by_cases hbig : l0.length ≤ 1000000000
 rotate_left
 ·
  rw [if_neg hbig] at h; cases h
 rw [if_pos hbig] at h
 obtain ⟨A0, c0, hv⟩ := Kd.S_slice ho0
 subst hv
 obtain ⟨n, hn⟩ : ∃ n, l0.length = n := ⟨_, rfl⟩
 rw [hn] at h
 have HQ := aM_ h
 have HNL := aM_ hn
 have HO0 := aM_ (show Kd.S k72 72 w w0.heap.size (fun k_ => (P0_ k_ ∨ w.heap.size ≤ k_)) (.slice A0 l0.length c0) l0 from Kd.S_mono ho0 (fun k_ hk => (.inl hk)))
 have HK := aM_ (Kept.refl w (fun k_ => P0_ k_))
 have HW0 := aM_ hB.size
 have HB := aM_ hB
 have hnb : n ≤ 1000000000 := by omega
 have HBIG := aM_ hnb
 rw [hn]
 rw [hn] at HO0
 clear hB ho0 hbig hn h
 go_enter Tryz.func54, Tryz.ntmps54
 go_wp2_with fail
 go_loopg [1, 5] n (fun gg v1 v5 w' => ∃ (i : Nat) (k : Int) (l : List S72), i ≤ n ∧ n - i ≤ gg ∧ v1 = .int .i64 k ∧ v5 = .int .i64 (i : Int) ∧ Aside0 (wF37.go (n - i) i k l = some (r1, r2)) ∧ Aside0 (l.length = n) ∧ Aside0 (Kd.S k72 72 w' w0.heap.size (fun k_ => (P0_ k_ ∨ w.heap.size ≤ k_)) (.slice A0 n c0) l) ∧ Aside0 (Kept w w' (fun k_ => P0_ k_)) ∧ Aside0 (Below w0.heap.size w0 w'))
 case atStart => exact ⟨0, a1, l0, Nat.zero_le _, by omega, rfl, rfl, HQ, HNL, HO0, HK, HB⟩
 clear HQ HNL HO0 HK HB
 obtain ⟨i, k, l, hi, hg, rfl, rfl, HQ, HNL, HO, HK, HB⟩ := hrel
 by_cases hlt : i < n
 rotate_left
 ·
  have hltz : ¬ (i : Int) < (n : Int) := by omega
  obtain rfl : i = n := by omega
  have hQ := HQ.out
  rw [Nat.sub_self, wF37.go] at hQ
  simp only [Option.some.injEq, Prod.mk.injEq] at hQ
  obtain ⟨rfl, rfl⟩ := hQ
  clear HQ
  go_wp2_with fail
  go_ret
  exact ⟨rfl, HO.out, HB.out, HK.out⟩
 have hltz : (i : Int) < (n : Int) := by omega
 obtain ⟨d, hd⟩ : ∃ d, n - i = d + 1 := ⟨n - i - 1, by omega⟩
 have HD := aM_ (show n - (i + 1) = d from by omega)
 have hQ := HQ.out
 rw [hd, wF37.go] at hQ
 clear hd
 obtain ⟨gS, cS, eS, _, _, _, _⟩ := Kd.S_form HO.out (by rw [HNL.out]; omega)
 injection eS with e1 e2 e3
 subst e1
 subst e3
 clear e2
 obtain ⟨x, hx⟩ : ∃ x, rd_T72 l (i : Int) = x := ⟨_, rfl⟩
 rw [hx] at hQ
 cases hm : wF35.f x.f1 (wrap64 (k + 1)) with
 | none => rw [hm] at hQ; cases hQ
 | some p =>
 rw [hm, Option.bind_some] at hQ
 obtain ⟨kp, y⟩ := p
 have HQ2 := aM_ hQ
 have HM := aM_ hm
 obtain ⟨b, hb⟩ : ∃ b, (Int.tmod k 3 == 0) = b := ⟨_, rfl⟩
 have HBB := aM_ hb
 obtain ⟨oki0, ce0, hcl0, hMe0, hcc0, hfr0, hoki0, hH0⟩ := Kd.S_elem HO.out z72 (i : Int) (by omega) hltz
 obtain ⟨u0, rfl, hR0⟩ := k72_openM hMe0
 have c00 := hcc0 0 _ rfl
 have f00 := hfr0 0
 rw [show (k72).sz = 2 from rfl, Int.toNat_natCast, Nat.add_zero] at c00 f00
 have hxx : (l.getD (i : Int).toNat z72) = x := hx
 rw [hxx] at hR0
 rw [Int.toNat_natCast] at hxx
 rw [hxx] at c00
 have hs0 := Kd.S_seg0 hH0 (by omega) hltz (seg := [.bool b]) (j := 0) (show 1 ≤ 2 from by decide) (x' := (⟨b, x.f1⟩ : S72)) (okp := oki0) (k72_mkM _ _ _ (⟨b, x.f1⟩ : S72) hR0) (fun _ hk => hk)
 rw [show (k72).sz = 2 from rfl, Int.toNat_natCast, Nat.add_zero] at hs0
 have HS0 := aM_ (show Kd.S k72 72 (wr.setCell ⟨gS, i * 2, none⟩ (.bool b)) w0.heap.size (fun k_ => (P0_ k_ ∨ w.heap.size ≤ k_)) (.slice (some ⟨gS, 0, none⟩) n c0) (l.set i ⟨b, x.f1⟩) from hs0.1)
 have hgS : (P0_ gS ∨ w.heap.size ≤ gS) := (Kd.S_R HO.out).1 gS (by simp [Value.ownBlock])
 have HK1 := aM_ (HK.out.setCell (p := ⟨gS, i * 2, none⟩) hgS (.bool b))
 have HB1 := aM_ (bS_ (j := i * 2) (v := .bool b) HB.out (Kd.R_base (Kd.S_R HO.out) gS (by simp [Value.ownBlock])))
 obtain ⟨oki, ce, hcl, hMe, hcc, hfr, hoki, hH⟩ := Kd.S_elem HS0.out z72 (i : Int) (by omega) hltz
 obtain ⟨ue, rfl, hR⟩ := k72_openM hMe
 have hgx : ((l.set i ⟨b, x.f1⟩).getD (i : Int).toNat z72) = ⟨b, x.f1⟩ := by
  rw [Int.toNat_natCast, List.getD_eq_getElem?_getD, List.getElem?_set_self (by rw [HNL.out]; exact hlt)]
  rfl
 rw [hgx] at hR hcc hH
 have c1 := hcc 1 _ rfl
 rw [show (k72).sz = 2 from rfl, Int.toNat_natCast] at c1
 have hec : (wr.setCell ⟨gS, i * 2, none⟩ (.bool b)).cell? ⟨gS, i * 2 + 1, none⟩ = some ue := c1
 have HC := aM_ (wF35.calls oki ue x.f1 (wrap64 (k + 1)) kp y w0 (wr.setCell ⟨gS, i * 2, none⟩ (.bool b)) HB1.out hR HM.out)
 have HH := aM_ hH
 have HOK := aM_ hoki
 have hcell0 : wr.cell? ⟨gS, i * 2, none⟩ = some (.bool x.f0) := c00
 have hfroz0 : wr.frozen? ⟨gS, i * 2, none⟩ = false := f00
 clear hQ hx hm hcl0 hMe0 hcc0 hfr0 hoki0 hH0 hR0 hs0 hgS hcl hMe hcc hfr hR hH hgx c1 c00 f00 hxx hoki HO HQ HM
 go_wp2_with fail
 refine HC.out.mono ?_
 clear HC hb
 rintro e w2 ⟨rfl, ho2, hb2, hk2⟩
 have HH2 := aM_ (Kd.H_kept (Kd.H_widen HH.out) hk2 (fun k _ hn hs => hn (.inl hs)))
 have HO2 := aM_ (show Kd.S k72 72 w2 w0.heap.size (fun k_ => (P0_ k_ ∨ w.heap.size ≤ k_)) (.slice (some ⟨gS, 0, none⟩) n c0) (l.set i ⟨b, y⟩) from by
  have h9 := Kd.H_back HH2.out (x' := (⟨b, y⟩ : S72)) (okp := fun k => oki k ∨ (wr.setCell ⟨gS, i * 2, none⟩ (.bool b)).heap.size ≤ k) (k72_mkM _ _ _ (⟨b, y⟩ : S72) ho2) (fun k hk => hk.imp_right fun h => ⟨.inr (Nat.le_trans HK1.out.1 h), h⟩)
  rw [Int.toNat_natCast, List.set_set] at h9
  exact h9)
 have HK2 := aM_ (HK1.out.then_ hk2 (fun k hk => (HOK.out k hk).1))
 have HB2 := aM_ hb2
 clear ho2 hb2 hk2 HH HH2 hcell0 hfroz0 hec HK1 HB1 HS0 HK HB
 go_wp2_with fail
 go_roundg (n - (i + 1))
 case measure => omega
 refine ⟨i + 1, kp, l.set i ⟨b, y⟩, by omega, by omega, rfl, by go_num, ⟨?_⟩, ⟨by rw [List.length_set]; exact HNL.out⟩, HO2, HK2, HB2⟩
 rw [HD.out]
 have h9 := HQ2.out
 rw [HBB.out] at h9
 exact h9
def wF36.f (l0_0 : List S72) (a1 : Int) : Option (Int × List S72) := wF37.f l0_0 a1
set_option maxHeartbeats 4000000 in
theorem wF36.calls (P0_0_ : Nat → Prop) (u9000_ : Value) (l0_0 : List S72) (a1 : Int) (r1 : Int) (r2 : List S72) (w0 w : World) (hB : Below w0.heap.size w0 w) (ho0_0 : Kd.S k72 72 w w0.heap.size P0_0_ u9000_ l0_0) (h : wF36.f l0_0 a1 = some (r1, r2)) :
  Calls Tryz.prog 19 #[.agg #[u9000_], .int .i64 a1] w fun e w' => e = .returned (.int .i64 r1) ∧ Kd.S k72 72 w' w0.heap.size (fun k_ => (P0_0_ k_ ∨ w.heap.size ≤ k_)) u9000_ r2 ∧ Below w0.heap.size w0 w' ∧ Kept w w' (fun k_ => P0_0_ k_) := by
 obtain ⟨A0, c0, hv⟩ := Kd.S_slice ho0_0
 subst hv
 have HC := aM_ (wF37.calls P0_0_ (.slice A0 l0_0.length c0) l0_0 a1 r1 r2 w0 (w.alloc (.cells #[.slice A0 l0_0.length c0] 33)) (hB.alloc hB.size _) (Kd.S_alloc ho0_0 _) h)
 have HBW := aM_ hB.size
 clear h ho0_0 hB
 go_enter Tryz.func19, Tryz.ntmps19
 go_wp2_with fail
 refine HC.out.mono ?_
 clear HC
 rintro e w2 ⟨rfl, ho, hb, hk⟩
 have HO := aM_ (Kd.S_mono (ok' := fun k_ => (P0_0_ k_ ∨ w.heap.size ≤ k_)) ho (fun k hk => hk.imp_right fun h => by simp at h; omega))
 have HB := aM_ hb
 have HK := aM_ ((Kept.alloc (Kept.refl w (fun k_ => P0_0_ k_)) (.cells #[.slice A0 l0_0.length c0] 33)).then_ hk (fun _ h => .inl h))
 clear ho hb hk
 go_wp2_with fail
 go_ret
 exact ⟨rfl, HO.out, HB.out, HK.out⟩
end Go.Proofs.YtnnkedeohfbkeaaGreatDoor.P
namespace Go.Proofs.YtnnkedeohfbkeaaGreatDoor.M
open Go.RowKit Go.Proofs.YtnnkedeohfbkeaaGreatDoorW.PrintWords
theorem wrap64_id {x : Int} (h0 : -9223372036854775808 ≤ x) (h1 : x ≤ 9223372036854775807) : wrap64 x = x := by unfold wrap64; omega
theorem wrap64_succ (n : Nat) (h : n < 4611686018427387904) : wrap64 ((n : Int) + 1) = ((n + 1 : Nat) : Int) := by rw [wrap64_id (by omega) (by omega)]; rfl
theorem rd_nat (xs : List Int) (n : Nat) : rd xs (n : Int) = xs.getD n 0 := by simp [rd]
theorem getD_lt {α : Type} (z : α) {xs : List α} {n : Nat} (h : n < xs.length) : xs.getD n z = xs[n] := by simp [List.getD_eq_getElem?_getD, h]
theorem drop_cons_getD {α : Type} (z : α) {xs : List α} {n : Nat} (h : n < xs.length) : xs.drop n = xs.getD n z :: xs.drop (n + 1) := by
 rw [getD_lt z h]; exact List.drop_eq_getElem_cons h
theorem take_succ_getD {α : Type} (z : α) {xs : List α} {n : Nat} (h : n < xs.length) : xs.take (n + 1) = xs.take n ++ [xs.getD n z] := by
 rw [getD_lt z h, List.take_succ_eq_append_getElem h]
theorem fill_set {α : Type} (z : α) (xs : List α) (n : Nat) (h : n < xs.length) (y : α) : (xs.take n ++ List.replicate (xs.length - n) y).set n (xs.getD n z) = xs.take (n + 1) ++ List.replicate (xs.length - (n + 1)) y := by
 have hl : (xs.take n).length = n := by simp; omega
 rw [List.set_append_right _ _ (by omega), hl, Nat.sub_self, show xs.length - n = (xs.length - (n + 1)) + 1 from by omega, List.replicate_succ, List.set_cons_zero, take_succ_getD z h, List.append_assoc]
 rfl
theorem Ev.some_bind {α β : Type} {a : α} {f : Nat → α → Option β} {r : β} (k : Ev (fun n => f n a) r) : Ev (fun n => (some a).bind fun t => f n t) r := k
theorem Ev.ifT {α : Type} {c : Prop} [Decidable c] {f g : Nat → Option α} {r : α} (h : c) (k : Ev f r) : Ev (fun n => if c then f n else g n) r := by simpa only [if_pos h] using k
theorem Ev.ifF {α : Type} {c : Prop} [Decidable c] {f g : Nat → Option α} {r : α} (h : ¬ c) (k : Ev g r) : Ev (fun n => if c then f n else g n) r := by simpa only [if_neg h] using k
def B (l : List UInt8) : ByteArray := ⟨l.toArray⟩
theorem exB (a : ByteArray) : ∃ l, a = B l := ⟨a.data.toList, ByteArray.ext (by simp [B])⟩
@[simp] theorem data_B (l : List UInt8) : (B l).data.toList = l := by simp [B]
@[simp] theorem toList_B (l : List UInt8) : (B l).toList = l := by rw [Go.ByteArray.toList_eq]; simp
@[simp] theorem size_B (l : List UInt8) : (B l).size = l.length := by rw [← ByteArray.size_data, ← Array.length_toList, data_B]
theorem B_data (a : ByteArray) : B a.data.toList = a := ByteArray.ext (by simp [B])
theorem eq_B {a : ByteArray} {l : List UInt8} (h : a.data.toList = l) : a = B l := by rw [← h, B_data]
@[simp] theorem append_B (l m : List UInt8) : B l ++ B m = B (l ++ m) := eq_B (by simp)
@[simp] theorem extract_B (l : List UInt8) (a b : Nat) : (B l).extract a b = B ((l.drop a).take (b - a)) := eq_B (by simp)
@[simp] theorem nil_B : (⟨#[]⟩ : ByteArray) = B [] := rfl
theorem bt_B (l : List UInt8) (n : Nat) (h : n < l.length) : bt (B l) (n : Int) = ((l.getD n 0).toNat : Int) := by
 have h2 : ((n : Int).toNat) < (B l).size := by simpa using h
 rw [bt, dif_pos h2, getD_lt 0 h]
 simp [B, ByteArray.getElem_eq_getElem_data]
def letterB (c : UInt8) : Bool := decide (97 ≤ c.toNat ∧ c.toNat ≤ 122)
end Go.Proofs.YtnnkedeohfbkeaaGreatDoor.M
namespace Go.Proofs.YtnnkedeohfbkeaaGreatDoor.M
abbrev Txt := List UInt8
theorem txt_irrefl (a : Txt) : ¬ a < a := List.lt_irrefl a
theorem txt_trans {a b c : Txt} (h : a < b) (k : b < c) : a < c := List.lt_trans h k
theorem txt_asymm {a b : Txt} (h : a < b) : ¬ b < a := fun k => txt_irrefl a (txt_trans h k)
theorem txt_tri {a b : Txt} (h : ¬ a < b) (k : ¬ b < a) : a = b := List.le_antisymm (List.not_lt.1 k) (List.not_lt.1 h)
def putL : List Txt → Txt → List Txt
 | [], w => [w]
 | x :: r, w => if x < w then x :: putL r w else if x = w then x :: r else w :: x :: r
def foundL : List Txt → Txt → Bool
 | [], _ => false
 | x :: r, w => if x < w then foundL r w else decide (x = w)
theorem putL_found : ∀ (l : List Txt) (w : Txt), foundL l w = true → putL l w = l
 | [], _, h => by simp [foundL] at h
 | x :: r, w, h => by
  by_cases h1 : x < w
  ·
   simp only [foundL, if_pos h1] at h; simp only [putL, if_pos h1, putL_found r w h]
  simp only [foundL, if_neg h1, decide_eq_true_eq] at h; simp only [putL, if_neg h1, if_pos h]
def Asc (l : List Txt) : Prop := l.Pairwise (· < ·)
theorem mem_putL : ∀ (l : List Txt) (w y : Txt), y ∈ putL l w ↔ y = w ∨ y ∈ l
 | [], w, y => by simp [putL]
 | x :: r, w, y => by
  by_cases h1 : x < w
  ·
   simp only [putL, if_pos h1, List.mem_cons, mem_putL r w y]
   constructor
   ·
    rintro (h | h | h)
    ·
     exact .inr (.inl h)
    ·
     exact .inl h
    exact .inr (.inr h)
   rintro (h | h | h)
   ·
    exact .inr (.inl h)
   ·
    exact .inl h
   exact .inr (.inr h)
  by_cases h2 : x = w
  ·
   simp only [putL, if_neg h1, if_pos h2, List.mem_cons]
   constructor
   ·
    exact fun h => .inr h
   rintro (h | h)
   ·
    exact .inl (h.trans h2.symm)
   exact h
  simp [putL, h1, h2]
theorem asc_putL : ∀ (l : List Txt) (w : Txt), Asc l → Asc (putL l w)
 | [], w, _ => by simp [putL, Asc]
 | x :: r, w, h => by
  unfold Asc at h ⊢
  rw [List.pairwise_cons] at h
  by_cases h1 : x < w
  ·
   simp only [putL, if_pos h1, List.pairwise_cons]
   refine ⟨fun y hy => ?_, asc_putL r w h.2⟩
   rcases (mem_putL r w y).1 hy with rfl | hy
   ·
    exact h1
   exact h.1 y hy
  by_cases h2 : x = w
  ·
   simp only [putL, if_neg h1, if_pos h2]; exact List.pairwise_cons.2 h
  simp only [putL, if_neg h1, if_neg h2, List.pairwise_cons]
  have hw : w < x := by
   by_cases h3 : w < x
   ·
    exact h3
   exact absurd (txt_tri h1 h3) h2
  refine ⟨fun y hy => ?_, h⟩
  rcases List.mem_cons.1 hy with rfl | hy
  ·
   exact hw
  exact txt_trans hw (h.1 y hy)
theorem asc_ext : ∀ (l m : List Txt), Asc l → Asc m → (∀ y, y ∈ l ↔ y ∈ m) → l = m
 | [], [], _, _, _ => rfl
 | [], y :: m, _, _, h => absurd ((h y).2 (by simp)) (by simp)
 | x :: l, [], _, _, h => absurd ((h x).1 (by simp)) (by simp)
 | x :: l, y :: m, hl, hm, h => by
  unfold Asc at hl hm
  rw [List.pairwise_cons] at hl hm
  have hxy : x = y := by
   rcases List.mem_cons.1 ((h x).1 (by simp)) with e | hx
   ·
    exact e
   rcases List.mem_cons.1 ((h y).2 (by simp)) with e | hy
   ·
    exact e.symm
   exact absurd (hm.1 x hx) (txt_asymm (hl.1 y hy))
  subst hxy
  rw [asc_ext l m hl.2 hm.2 ?_]
  intro z
  have := h z
  simp only [List.mem_cons] at this
  constructor
  ·
   intro hz
   rcases this.1 (.inr hz) with e | hz'
   ·
    exact absurd (hl.1 z hz) (by rw [e]; exact txt_irrefl _)
   exact hz'
  intro hz
  rcases this.2 (.inr hz) with e | hz'
  ·
   exact absurd (hm.1 z hz) (by rw [e]; exact txt_irrefl _)
  exact hz'
def setL (l : List Txt) : List Txt := l.foldl putL []
theorem foldl_putL_mem : ∀ (l acc : List Txt) (y : Txt), y ∈ l.foldl putL acc ↔ y ∈ l ∨ y ∈ acc
 | [], acc, y => by simp
 | x :: l, acc, y => by
  rw [List.foldl_cons, foldl_putL_mem l, mem_putL]
  simp only [List.mem_cons]
  constructor
  ·
   rintro (h | h | h)
   ·
    exact .inl (.inr h)
   ·
    exact .inl (.inl h)
   exact .inr h
  rintro ((h | h) | h)
  ·
   exact .inr (.inl h)
  ·
   exact .inl h
  exact .inr (.inr h)
theorem foldl_putL_asc : ∀ (l acc : List Txt), Asc acc → Asc (l.foldl putL acc)
 | [], _, h => h
 | _ :: l, acc, h => foldl_putL_asc l _ (asc_putL acc _ h)
theorem mem_setL (l : List Txt) (y : Txt) : y ∈ setL l ↔ y ∈ l := by simp [setL, foldl_putL_mem]
theorem asc_setL (l : List Txt) : Asc (setL l) := foldl_putL_asc l [] List.Pairwise.nil
theorem setL_of_asc {l : List Txt} (h : Asc l) : setL l = l := asc_ext _ _ (asc_setL l) h (mem_setL l)
theorem putL_length_le : ∀ (l : List Txt) (w : Txt), (putL l w).length ≤ l.length + 1
 | [], w => by simp [putL]
 | x :: r, w => by
  have := putL_length_le r w
  by_cases h1 : x < w
  ·
   simp only [putL, if_pos h1, List.length_cons]; omega
  by_cases h2 : x = w
  ·
   simp only [putL, if_neg h1, if_pos h2, List.length_cons]; omega
  simp only [putL, if_neg h1, if_neg h2, List.length_cons]; omega
end Go.Proofs.YtnnkedeohfbkeaaGreatDoor.M
namespace Go.Proofs.YtnnkedeohfbkeaaGreatDoor.P
open Go.RowKit Go.Proofs.YtnnkedeohfbkeaaGreatDoorW.PrintWords Go.Proofs.YtnnkedeohfbkeaaGreatDoorW.PrintLast Go.Proofs.YtnnkedeohfbkeaaGreatDoorW.PrintMore
open Go.Proofs.YtnnkedeohfbkeaaGreatDoorW.PrintWords renaming blk_frozen → bF_, blk_cell → bC_, below_set → bS_, blk_below → bB_, below_step → bT_, pw_below_drewN → bN_, below_size → bZ_, below_drew1 → bD_, below_alloc → bA_, blk_far → bR_, gate_callee → gC_, gate_dst → gD_, box_event → bE_, blk_drew → b1_, blk_put → bP_, blk_drewN → b2_, blk_alloc → b3_, blk_lt → bL_, cell_far → cF_
open Go.Proofs.YtnnkedeohfbkeaaGreatDoorW.PrintLast renaming any_of → aO_, i64_w → i6_, i32_w → i3_, take_ofW → tW_
open Go.Proofs.YtnnkedeohfbkeaaGreatDoorW.PrintWords.Kd renaming R_below → kB_, R_mono → kM_, R_far → kF_, R_reads' → kR_, R_types → kT_, R_slice → kS_, R_celln → kC_, R_alloc → k1_, R_drewN → k2_, R_drew → k3_, C_below → k4_, R_lower → k5_, R_ne → k6_, own_blk → k7_
open Go.Proofs.YtnnkedeohfbkeaaGreatDoorW.PrintWords.LeO renaming none → l0_, bind → l1_, ite → l2_, refl → l3_
open World renaming block_lt_of_cell? → wB_
open _root_.Option renaming bind_eq_some_iff → oB_
open _root_.ByteArray renaming empty → eB_
open List renaming setIfInBounds_toArray → sA_, set_cons_zero → sB_, set_cons_succ → sC_, map_toArray → sD_, map_cons → sE_, map_nil → sF_, length_drop → sG_, length_take → sH_
open Bool renaming true → ty, false → fy
open Aside0 renaming mk → aM_
attribute [local go_sem] max2_int min2_int max_two min_two max_three min_three max_four min_four
def sF62.l0 : Nat → List ByteArray → ByteArray → Int → Option (List ByteArray)
 | 0, _, _, _ => none
 | k + 1, x0, x1, x5 => if x5 < (x0.length : Int) then (if 0 ≤ x5 then ((sF56.f k (rdOf eB_ x0 x5) x1).bind fun t115 => (if t115 = true then (sF62.l0 k x0 x1 (wrap64 (x5 + 1))) else (if (rdOf eB_ x0 x5).toList = x1.toList then (none) else (if x5 ≤ (x0.length : Int) then ((sF59.f (x0.take (x5 : Int).toNat)).bind fun t118 => ((some (([x1] : List ByteArray) : List ByteArray)).bind fun y121 => (if t118.length + y121.length < 8796093022208 then ((some (t118 ++ y121 : List ByteArray)).bind fun y124 => (if y124.length + (x0.drop (x5 : Int).toNat).length < 8796093022208 then (some (y124 ++ (x0.drop (x5 : Int).toNat))) else (none))) else (none)))) else (none))))) else (none)) else (if 0 ≤ x5 then (if x5 ≤ (x0.length : Int) then ((sF59.f (x0.take (x5 : Int).toNat)).bind fun t132 => ((some (([x1] : List ByteArray) : List ByteArray)).bind fun y135 => (if t132.length + y135.length < 8796093022208 then ((some (t132 ++ y135 : List ByteArray)).bind fun y138 => (if y138.length + (x0.drop (x5 : Int).toNat).length < 8796093022208 then (some (y138 ++ (x0.drop (x5 : Int).toNat))) else (none))) else (none)))) else (none)) else (none))
def sF62.f (k : Nat) (l0 : List ByteArray) (a1 : ByteArray) : Option (List ByteArray) := sF62.l0 k l0 a1 0
theorem sF62.mono_l : ∀ k, (∀ y0 y1 y2, LeO (sF62.l0 k y0 y1 y2) (sF62.l0 (k + 1) y0 y1 y2))
 | 0 => fun _ _ _ r h => by simp [sF62.l0] at h
 | k + 1 => by
  have ih0 := sF62.mono_l k
  intro y0 y1 y2
  unfold sF62.l0
  repeat' with_reducible first | exact ih0 _ _ _ | exact sF56.mono _ _ _ | exact l3_ _ | exact l0_ _ | refine l2_ ?_ ?_ | refine l1_ ?_ (fun _ => ?_)
theorem sF62.mono : ∀ a0 a1 k, LeO (sF62.f k a0 a1) (sF62.f (k + 1) a0 a1) := by
 intro a0 a1 k
 have ih0 := sF62.mono_l k
 unfold sF62.f
 repeat' with_reducible first | exact ih0 _ _ _ | exact sF56.mono _ _ _ | exact l3_ _ | exact l0_ _ | refine l2_ ?_ ?_ | refine l1_ ?_ (fun _ => ?_)
def sF62.T6 : Bool × List (List Nat × List Nat) := (true, [([], []), ([], []), ([0, 1], [0, 1]), ([2], [2]), ([], []), ([4], [4]), ([3, 5, 3], [3, 5]), ([], []), ([], []), ([7, 8], [7, 8]), ([6, 9, 6], [6, 9]), ([10, 10, 0, 1, 2, 3, 4, 5, 6, 7, 8, 9, 10], [10])])
def sF62.B6 : List Nat := [0, 0, 3, 7, 0, 16, 63, 0, 0, 384, 1023, 2047]
theorem sF62.tab6 : rtab .any (opsOf Tryz.f78 6) = sF62.T6 := by kernel_rfl
theorem sF62.bits6 : waitsOk sF62.T6.2 sF62.B6 = true := by kernel_rfl
theorem sF62.calls (k : Nat) (A0 : Option Addr) (c0 : Nat) (l0 : List ByteArray) (a1 : ByteArray) (r : List ByteArray) (w : World) (hr0 : Kd.C Kd.string w A0 l0.length l0) (hc0 : l0.length ≤ c0) (h : sF62.f k l0 a1 = some r) :
  Calls Tryz.prog 78 #[.slice A0 l0.length c0, .string a1] w fun e w' => ∃ v0_ : Value, e = .returned (v0_) ∧ Kd.R Kd.string 9 w' w.heap.size (fun _ => True) v0_ r ∧ Below w.heap.size w w' := by
 have HR0 := aM_ hr0
 have HC0 := aM_ hc0
 clear hr0 hc0
 have HB := aM_ (Below.refl w.heap.size w)
 have H : (sF62.l0 k l0 a1 0) = some r := h
 clear h
 have H' := aM_ H
 clear H
 go_enter Tryz.func78, Tryz.ntmps78
 go_wp2
 go_loopg [5] k (fun kq v5 w' => ∃ (x5_1 : Int), v5 = .int .i64 x5_1 ∧ Aside0 (sF62.l0 kq l0 a1 x5_1 = some r) ∧ Aside0 (kq ≤ k) ∧ Aside0 (Below w.heap.size w w'))
 case atStart => exact ⟨(0), (by rfl), H', ⟨Nat.le_refl _⟩, ⟨HB.out⟩⟩
 clear H'
 try clear p2
 obtain ⟨x5_1, rfl, HA, HK1, HB⟩ := hrel
 cases gk with
 | zero => exact absurd HA.out (by simp [sF62.l0])
 | succ k1 =>
  have H := HA.out
  clear HA
  simp only [sF62.l0] at H
  by_cases c3 : x5_1 < (l0.length : Int)
  rotate_left
  ·
   rw [if_neg c3] at H
   have c3b0 := dF_ c3
   clear c3
   by_cases c25 : 0 ≤ x5_1
   rotate_left
   ·
    rw [if_neg c25] at H
    exact absurd H (by simp)
   rw [if_pos c25] at H
   have c25b0 := eq_true c25
   have c25b1 := dT_ c25
   clear c25
   by_cases c26 : x5_1 ≤ (l0.length : Int)
   rotate_left
   ·
    rw [if_neg c26] at H
    exact absurd H (by simp)
   rw [if_pos c26] at H
   have c26b0 := eq_true c26
   have c26b1 := dT_ c26
   clear c26
   replace H := oB_.mp H
   obtain ⟨t132, A270, H⟩ := H
   try dsimp only at H
   have A27 := aM_ A270
   clear A270
   obtain ⟨y135, hy135⟩ : ∃ y_ : List ByteArray, y_ = (([a1] : List ByteArray)) := ⟨_, rfl⟩
   replace H : (if t132.length + y135.length < 8796093022208 then ((some (t132 ++ y135 : List ByteArray)).bind fun y138 => (if y138.length + (l0.drop (x5_1 : Int).toNat).length < 8796093022208 then (some (y138 ++ (l0.drop (x5_1 : Int).toNat))) else (none))) else (none)) = some r := by (try rw [hy135]); first | with_reducible exact H | with_reducible exact oS_ H | exact H
   have Ny135 := aM_ hy135
   clear hy135
   by_cases c28 : t132.length + y135.length < 8796093022208
   rotate_left
   ·
    rw [if_neg c28] at H
    exact absurd H (by simp)
   rw [if_pos c28] at H
   have LMc28 := aM_ c28
   clear c28
   obtain ⟨y138, hy138⟩ : ∃ y_ : List ByteArray, y_ = (t132 ++ y135) := ⟨_, rfl⟩
   replace H : (if y138.length + (l0.drop (x5_1 : Int).toNat).length < 8796093022208 then (some (y138 ++ (l0.drop (x5_1 : Int).toNat))) else (none)) = some r := by (try rw [hy138]); first | with_reducible exact H | with_reducible exact oS_ H | exact H
   have Ny138 := aM_ hy138
   clear hy138
   have c29b0 := eq_true (oD_ ‹_› : 0 ≤ x5_1)
   have c30b0 := eq_true (oD_ ‹_› : x5_1 ≤ (l0.length : Int))
   by_cases c31 : y138.length + (l0.drop (x5_1 : Int).toNat).length < 8796093022208
   rotate_left
   ·
    rw [if_neg c31] at H
    exact absurd H (by simp)
   rw [if_pos c31] at H
   have LMc31 := aM_ c31
   clear c31
   obtain ⟨y142, hy142⟩ : ∃ y_ : List ByteArray, y_ = (y138 ++ (l0.drop (x5_1 : Int).toNat)) := ⟨_, rfl⟩
   replace H : (some y142) = some r := by (try rw [hy142]); first | with_reducible exact H | with_reducible exact oS_ H | exact H
   have Ny142 := aM_ hy142
   clear hy142
   obtain rfl := Option.some.inj H
   try go_wp2
   replace HB := aM_ (bD_ HB.out)
   obtain ⟨i033, hi033, _, hsz33, _⟩ := info_parts info9
   obtain ⟨hcut33, hA33, hC33⟩ := print_take_of (P := Tryz.prog) Value.string (⟨#[]⟩ : ByteArray) 51 9 .i64 Tryz.underlying51 hi033 hsz33 A0 c0 l0 x5_1 (oD_ ‹_›) (oD_ ‹_›) HC0.out
   have HR131 := aM_ (Kd.C_of_reads (h1 := fun _ => rfl) (hA33 _ (Kd.reads_of_C HR0.out)))
   have HC131 := aM_ hC33
   clear hA33 hC33 hi033 hsz33
   obtain ⟨i034, hi034, _, hsz34, _⟩ := info_parts info9
   obtain ⟨A34, hcut34, hA34, hC34⟩ := print_drop_of (P := Tryz.prog) Value.string (⟨#[]⟩ : ByteArray) 51 9 .i64 Tryz.underlying51 hi034 hsz34 A0 c0 l0 x5_1 (oD_ ‹_›) (oD_ ‹_›) HC0.out
   have HR141 := aM_ (Kd.C_of_reads (h1 := fun _ => rfl) (hA34 _ (Kd.reads_of_C HR0.out)))
   have HC141 := aM_ hC34
   clear hA34 hC34 hi034 hsz34
   refine start_ (n := 12) (S := fun w' => True) (ds := []) #[fy, fy, fy, fy, fy, fy, fy, fy, fy, fy, fy, fy] (by kernel_rfl) rfl rfl trivial (fun hHeld => ?_); refine with_tabW sF62.tab6 sF62.bits6 (fun HT_ HW_ => ?_)
   generalize wr.drew = w32 at HB HR131 HR141 hHeld ⊢
   refine pu_ HT_ 0 33 #[ty, fy, fy, fy, fy, fy, fy, fy, fy, fy, fy, fy] ?_
   refine pu_ HT_ 1 34 #[ty, ty, fy, fy, fy, fy, fy, fy, fy, fy, fy, fy] ?_
   refine pu_ HT_ 2 35 #[ty, ty, ty, fy, fy, fy, fy, fy, fy, fy, fy, fy] ?_
   refine pu_ HT_ 4 37 #[ty, ty, ty, fy, ty, fy, fy, fy, fy, fy, fy, fy] ?_
   refine pu_ HT_ 7 40 #[ty, ty, ty, fy, ty, fy, fy, ty, fy, fy, fy, fy] ?_
   refine pu_ HT_ 8 41 #[ty, ty, ty, fy, ty, fy, fy, ty, ty, fy, fy, fy] ?_
   refine pu_ HT_ 9 42 #[ty, ty, ty, fy, ty, fy, fy, ty, ty, ty, fy, fy] ?_
   refine join_ (σ := Value × Value) 3 #[ty, ty, ty, ty, ty, ty, fy, ty, ty, ty, fy, fy] (fun s_ => [(36, s_.1), (38, s_.2)]) (fun s_ w' => (Kd.R Kd.string 9 w' w.heap.size (fun k_ => some k_ ≠ (s_.2 : Value).ownBlock) s_.1 t132) ∧ (Kd.R Kd.string 9 w' w.heap.size (fun k_ => some k_ ≠ (s_.1 : Value).ownBlock) s_.2 y135) ∧ (Below w.heap.size w w')) ?_ ?_
   rotate_left
   ·
    intro hCont
    refine two_ (i := 3) (j := 5) (Ni := some 36) (Nj := some 38) #[ty, ty, ty, ty, ty, fy, fy, ty, ty, ty, fy, fy] #[ty, ty, ty, fy, ty, ty, fy, ty, ty, ty, fy, fy] rfl rfl rfl rfl (two_of HT_.out (by kernel_rfl)) (by decide) (by decide) (fun K hK => ?_) (fun K hK => ?_)
    ·
     skip
     refine goes_ Tryz.func104 (by kernel_rfl) rfl #[.slice A0 (l0.take (x5_1 : Int).toNat).length c0] (by rfl) rfl rfl (by (try simp only [sD_, sE_, sF_]); (rw [show (l0.take (x5_1 : Int).toNat).length = x5_1.toNat from (by rw [List.length_take]; have h_ : (x5_1 : Int) ≤ (l0.length : Int) := oD_ ‹_›; omega)] <;> rfl)) ?_
     with_reducible refine (sF59.calls _ _ (l0.take (x5_1 : Int).toNat) t132 _ ?side1 ?side2 A27.out).mono ?_
     (case side1 => repeat (first | exact (k4_ HR131.out HB.out) | with_reducible first | apply cA_ | apply cN_ | apply cD_))
     (case side2 => exact HC131.out)
     rintro e w35 ⟨v133, rfl, ho0, hb⟩
     refine ⟨_, rfl, ?_⟩
     have n0_ := aM_ (k5_ ho0 (bZ_ HB.out))
     have n1_ := b4_ HB hb
     clear HB
     have HO134 := n0_
     have HB := n1_
     clear n0_ n1_
     (try clear hb)
     (try clear ho0)
     refine hK.out _ _ trivial (fun hHeld => ?_)
     clear hK K
     refine norm_ (by show Act.put _ (some 36) _ = _; simp only [Act.put, sA_, sB_, sC_, i6_, i3_]; rfl) ?_
     refine one_ (i := 5) (N := some 38) #[ty, ty, ty, ty, ty, ty, fy, ty, ty, ty, fy, fy] rfl rfl (one_of HT_.out (by kernel_rfl)) (by decide) (fun K hK => ?_)
     refine Kd.R_lit_step Kd.string _ 9 ?hg (N := 38) ?hd (xs := ([a1] : List ByteArray)) (inner := [.string a1]) (ok := fun _ => True) (okp := fun _ => True) ?hr ?hp (fun _ hk => hk) trivial (Below.refl _ _) (Nat.le_refl _) (by simp) ?_; (case hd => rfl); (case hg => rfl); (case hr => (go_simp; done)); (case hp => exact (Reps.one (show Kd.M Kd.string _ _ _ a1 [.string a1] from rfl) (Reps.none _ _)))
     intro v136 w36 ho37 hb hg_ hnew_
     clear hg_ hnew_
     (rw [← Ny135.out] at ho37)
     have n0_ := aM_ (Kd.R_elder' HO134.out (Kd.R_base ho37) hb)
     have n1_ := aM_ (k5_ (Kd.R_new' ho37 (Kd.R_lt HO134.out)) (bZ_ HB.out))
     have n2_ := b4_ HB hb
     clear HO134
     clear HB
     have HO134 := n0_
     have HO137 := n1_
     have HB := n2_
     clear n0_ n1_ n2_
     clear hb ho37
     refine hK.out _ _ trivial (fun hHeld => ?_)
     clear hK K
     refine norm_ (by show Act.put _ (some 38) _ = _; simp only [Act.put, sA_, sB_, sC_, i6_, i3_]; rfl) ?_
     exact norm_ (by simp only [putAll, Act.put, sA_, sB_, sC_]) (hCont (v133, v136) _ ⟨(by exact kM_ HO134.out (fun _ hk => hk.2)), (by exact kM_ HO137.out (fun _ hk => hk.2)), HB.out⟩)
    skip
    refine Kd.R_lit_step Kd.string _ 9 ?hg (N := 38) ?hd (xs := ([a1] : List ByteArray)) (inner := [.string a1]) (ok := fun _ => True) (okp := fun _ => True) ?hr ?hp (fun _ hk => hk) trivial (Below.refl _ _) (Nat.le_refl _) (by simp) ?_; (case hd => rfl); (case hg => rfl); (case hr => (go_simp; done)); (case hp => exact (Reps.one (show Kd.M Kd.string _ _ _ a1 [.string a1] from rfl) (Reps.none _ _)))
    intro v136 w35 ho36 hb hg_ hnew_
    clear hg_ hnew_
    (rw [← Ny135.out] at ho36)
    have n0_ := aM_ (k5_ ho36 (bZ_ HB.out))
    have n1_ := b4_ HB hb
    clear HB
    have HO137 := n0_
    have HB := n1_
    clear n0_ n1_
    clear hb ho36
    refine hK.out _ _ trivial (fun hHeld => ?_)
    clear hK K
    refine norm_ (by show Act.put _ (some 38) _ = _; simp only [Act.put, sA_, sB_, sC_, i6_, i3_]; rfl) ?_
    refine one_ (i := 3) (N := some 36) #[ty, ty, ty, ty, ty, ty, fy, ty, ty, ty, fy, fy] rfl rfl (one_of HT_.out (by kernel_rfl)) (by decide) (fun K hK => ?_)
    refine goes_ Tryz.func104 (by kernel_rfl) rfl #[.slice A0 (l0.take (x5_1 : Int).toNat).length c0] (by rfl) rfl rfl (by (try simp only [sD_, sE_, sF_]); (rw [show (l0.take (x5_1 : Int).toNat).length = x5_1.toNat from (by rw [List.length_take]; have h_ : (x5_1 : Int) ≤ (l0.length : Int) := oD_ ‹_›; omega)] <;> rfl)) ?_
    with_reducible refine (sF59.calls _ _ (l0.take (x5_1 : Int).toNat) t132 _ ?side1 ?side2 A27.out).mono ?_
    (case side1 => repeat (first | exact (k4_ HR131.out HB.out) | with_reducible first | apply cA_ | apply cN_ | apply cD_))
    (case side2 => exact HC131.out)
    rintro e w37 ⟨v133, rfl, ho0, hb⟩
    refine ⟨_, rfl, ?_⟩
    have n0_ := aM_ (Kd.R_elder' HO137.out (Kd.R_base ho0) hb)
    have n1_ := aM_ (k5_ (Kd.R_new' ho0 (Kd.R_lt HO137.out)) (bZ_ HB.out))
    have n2_ := b4_ HB hb
    clear HO137
    clear HB
    have HO137 := n0_
    have HO134 := n1_
    have HB := n2_
    clear n0_ n1_ n2_
    (try clear hb)
    (try clear ho0)
    refine hK.out _ _ trivial (fun hHeld => ?_)
    clear hK K
    refine norm_ (by show Act.put _ (some 36) _ = _; simp only [Act.put, sA_, sB_, sC_, i6_, i3_]; rfl) ?_
    exact norm_ (by simp only [putAll, Act.put, sA_, sB_, sC_]) (hCont (v133, v136) _ ⟨(by exact kM_ HO134.out (fun _ hk => hk.2)), (by exact kM_ HO137.out (fun _ hk => hk.2)), HB.out⟩)
   rintro ⟨v133, v136⟩ w38 ⟨h0_, h1_, h2_⟩
   have n0_ : Aside0 (Kd.R Kd.string 9 w38 w.heap.size (fun k_ => some k_ ≠ (v136 : Value).ownBlock) v133 t132) := ⟨h0_⟩
   have n1_ : Aside0 (Kd.R Kd.string 9 w38 w.heap.size (fun k_ => some k_ ≠ (v133 : Value).ownBlock) v136 y135) := ⟨h1_⟩
   have n2_ : Aside0 (Below w.heap.size w w38) := ⟨h2_⟩
   clear HB
   clear h0_ h1_ h2_
   have HO134 := n0_
   have HO137 := n1_
   have HB := n2_
   clear n0_ n1_ n2_
   have hHeld := trivial
   obtain ⟨Ao40, co40, eo40⟩ := kS_ HO137.out
   (subst eo40)
   refine norm_ (a' := ?_) ?_ ?_
   rotate_left
   ·
    simp only [putAll, Act.put, sA_, sB_, sC_]
    rfl
   refine one_ (i := 6) (N := some 39) #[ty, ty, ty, ty, ty, ty, ty, ty, ty, ty, fy, fy] rfl rfl (one_of HT_.out (by kernel_rfl)) (by decide) (fun K hK => ?_)
   refine Kd.R_append_rows_step Kd.string (w0 := w) w.heap.size (by rfl) (.tmp 36) (.tmp 38) 51 9 (.string ⟨#[]⟩) 16 rfl Tryz.underlying51 info9 rfl (by decide) (by omega) v133 t132 y135 _ _ _ (fun k_ => some k_ ≠ (.slice Ao40 y135.length co40 : Value).ownBlock) (fun _ => False) rfl rfl ?aO ?aR (fun _ _ h => h) (fun _ h => h.elim) ?aF ?aB ?aS ?aL ?_
   (case aR => repeat (first | exact (kR_ HO137.out).2.2 | with_reducible first | apply cA_ | apply cN_ | apply cD_))
   (case aB => exact HB.out)
   (case aF => exact (fun k_ hk => Kd.fresh' (Kd.R_lt HO137.out) k_ hk))
   (case aO => exact HO134.out)
   (case aS => exact (bZ_ HB.out))
   (case aL => have := LMc28.out; omega)
   intro v139 w39 ho hb hg hat
   rw [← Ny138.out] at ho
   have n0_ := aM_ (Kd.R_after (ok := (fun _ => True)) (by exact kM_ HO137.out (fun _ hk => ⟨trivial, hk⟩)) hg hat)
   have n1_ := aM_ (hb)
   have n2_ := aM_ (ho)
   clear HO137
   clear HB
   clear HO134
   have HO137 := n0_
   have HB := n1_
   have HO140 := n2_
   clear n0_ n1_ n2_
   clear ho hb hg hat
   refine hK.out _ _ trivial (fun hHeld => ?_)
   clear hK K
   refine norm_ (by show Act.put _ (some 39) _ = _; simp only [Act.put, sA_, sB_, sC_, i6_, i3_]; rfl) ?_
   refine one_ (i := 10) (N := some 43) #[ty, ty, ty, ty, ty, ty, ty, ty, ty, ty, ty, fy] rfl rfl (one_of HT_.out (by kernel_rfl)) (by decide) (fun K hK => ?_)
   refine Kd.R_append_rows_step Kd.string (w0 := w) w.heap.size (by rfl) (.tmp 39) (.tmp 42) 51 9 (.string ⟨#[]⟩) 16 rfl Tryz.underlying51 info9 rfl (by decide) (by omega) v139 y138 (l0.drop (x5_1 : Int).toNat) _ _ _ (fun k_ => some k_ ≠ (.slice Ao40 y135.length co40 : Value).ownBlock) (fun _ => False) rfl rfl ?aO ?aR (fun _ _ h => h) (fun _ h => h.elim) ?aF ?aB ?aS ?aL ?_
   (case aR => (rw [← show (l0.drop (x5_1 : Int).toNat).length = (l0.length - x5_1.toNat) from List.length_drop]; repeat (first | exact (k4_ HR141.out HB.out) | with_reducible first | apply cA_ | apply cN_ | apply cD_)))
   (case aB => exact HB.out)
   (case aF => exact (fun k_ hk => Kd.fresh' (Kd.R_lt HO137.out) k_ hk))
   (case aO => exact HO140.out)
   (case aS => exact (bZ_ HB.out))
   (case aL => have := LMc31.out; have hlx_ := (show (l0.drop (x5_1 : Int).toNat).length = (l0.length - x5_1.toNat) from List.length_drop); omega)
   intro v143 w41 ho hb hg hat
   rw [← Ny142.out] at ho
   have n0_ := aM_ (Kd.R_after (ok := (fun _ => True)) HO137.out hg hat)
   have n1_ := aM_ (hb)
   have n2_ := aM_ (ho)
   clear HO137
   clear HB
   clear HO140
   have HO137 := n0_
   have HB := n1_
   have HO144 := n2_
   clear n0_ n1_ n2_
   clear ho hb hg hat
   refine hK.out _ _ trivial (fun hHeld => ?_)
   clear hK K
   refine norm_ (by show Act.put _ (some 43) _ = _; simp only [Act.put, sA_, sB_, sC_, i6_, i3_]; rfl) ?_
   refine pu_ HT_ 11 4 #[ty, ty, ty, ty, ty, ty, ty, ty, ty, ty, ty, ty] ?_
   refine done_ (done_of HT_.out (by kernel_rfl)) ?_
   try go_wp2
   go_ret
   exact ⟨_, by rfl, by exact kM_ HO144.out (fun _ hk => trivial), by exact HB.out⟩
  rw [if_pos c3] at H
  have c3b0 := dT_ c3
  clear c3
  by_cases c4 : 0 ≤ x5_1
  rotate_left
  ·
   rw [if_neg c4] at H
   exact absurd H (by simp)
  rw [if_pos c4] at H
  have c4b0 := dT_ c4
  clear c4
  replace H := oB_.mp H
  obtain ⟨t115, A50, H⟩ := H
  try dsimp only at H
  have A5 := aM_ A50
  clear A50
  by_cases c6 : t115 = true
  ·
   subst c6
   rw [if_pos rfl] at H
   have H' := aM_ H
   clear H
   have p114 : 0 ≤ (x5_1 : Int) := oD_ ‹_›
   have q114 : x5_1 < (l0.length : Int) := oD_ ‹_›
   obtain ⟨ad114, e114, hx114_0⟩ := Kd.at_string HR0.out x5_1 p114 q114
   cases e114
   replace hx114_0 := cb_ HB hx114_0
   replace p114 := eq_true p114
   replace q114 := eq_true q114
   go_wp2_with (first | (go_at_call 103; (with_reducible refine (sF56.calls k1 (rdOf eB_ l0 x5_1) a1 true _ A5.out).mono ?_); rintro e w' ⟨rfl, ⟨nd, rfl⟩⟩))
   go_roundg k1
   case measure => have := HK1.out; omega
   case rel => exact ⟨(wrap64 (x5_1 + 1)), (by rfl), H', ⟨by have := HK1.out; omega⟩, ⟨by repeat with_reducible first | exact HB.out | apply bA_ | apply bN_ | apply bD_⟩⟩
  replace c6 := Bool.eq_false_iff.mpr c6
  subst c6
  replace H : (if (rdOf eB_ l0 x5_1).toList = a1.toList then (none) else (if x5_1 ≤ (l0.length : Int) then ((sF59.f (l0.take (x5_1 : Int).toNat)).bind fun t118 => ((some (([a1] : List ByteArray) : List ByteArray)).bind fun y121 => (if t118.length + y121.length < 8796093022208 then ((some (t118 ++ y121 : List ByteArray)).bind fun y124 => (if y124.length + (l0.drop (x5_1 : Int).toNat).length < 8796093022208 then (some (y124 ++ (l0.drop (x5_1 : Int).toNat))) else (none))) else (none)))) else (none))) = some r := by rw [if_neg (show ¬ (false = true) by decide)] at H; exact H
  by_cases c7 : (rdOf eB_ l0 x5_1).toList = a1.toList
  ·
   rw [if_pos c7] at H
   exact absurd H (by simp)
  rw [if_neg c7] at H
  have c7b0 : ((rdOf eB_ l0 x5_1).toList == a1.toList) = false := beq_eq_false_iff_ne.mpr c7
  have c7b1 : ((rdOf eB_ l0 x5_1).toList != a1.toList) = true := bne_iff_ne.mpr c7
  have c8b0 := eq_true (oD_ ‹_› : 0 ≤ x5_1)
  by_cases c9 : x5_1 ≤ (l0.length : Int)
  rotate_left
  ·
   rw [if_neg c9] at H
   exact absurd H (by simp)
  rw [if_pos c9] at H
  have c9b0 := eq_true c9
  have c9b1 := dT_ c9
  clear c9
  replace H := oB_.mp H
  obtain ⟨t118, A100, H⟩ := H
  try dsimp only at H
  have A10 := aM_ A100
  clear A100
  obtain ⟨y121, hy121⟩ : ∃ y_ : List ByteArray, y_ = (([a1] : List ByteArray)) := ⟨_, rfl⟩
  replace H : (if t118.length + y121.length < 8796093022208 then ((some (t118 ++ y121 : List ByteArray)).bind fun y124 => (if y124.length + (l0.drop (x5_1 : Int).toNat).length < 8796093022208 then (some (y124 ++ (l0.drop (x5_1 : Int).toNat))) else (none))) else (none)) = some r := by (try rw [hy121]); first | with_reducible exact H | with_reducible exact oS_ H | exact H
  have Ny121 := aM_ hy121
  clear hy121
  by_cases c11 : t118.length + y121.length < 8796093022208
  rotate_left
  ·
   rw [if_neg c11] at H
   exact absurd H (by simp)
  rw [if_pos c11] at H
  have LMc11 := aM_ c11
  clear c11
  obtain ⟨y124, hy124⟩ : ∃ y_ : List ByteArray, y_ = (t118 ++ y121) := ⟨_, rfl⟩
  replace H : (if y124.length + (l0.drop (x5_1 : Int).toNat).length < 8796093022208 then (some (y124 ++ (l0.drop (x5_1 : Int).toNat))) else (none)) = some r := by (try rw [hy124]); first | with_reducible exact H | with_reducible exact oS_ H | exact H
  have Ny124 := aM_ hy124
  clear hy124
  have c12b0 := eq_true (oD_ ‹_› : 0 ≤ x5_1)
  have c13b0 := eq_true (oD_ ‹_› : x5_1 ≤ (l0.length : Int))
  by_cases c14 : y124.length + (l0.drop (x5_1 : Int).toNat).length < 8796093022208
  rotate_left
  ·
   rw [if_neg c14] at H
   exact absurd H (by simp)
  rw [if_pos c14] at H
  have LMc14 := aM_ c14
  clear c14
  obtain ⟨y128, hy128⟩ : ∃ y_ : List ByteArray, y_ = (y124 ++ (l0.drop (x5_1 : Int).toNat)) := ⟨_, rfl⟩
  replace H : (some y128) = some r := by (try rw [hy128]); first | with_reducible exact H | with_reducible exact oS_ H | exact H
  have Ny128 := aM_ hy128
  clear hy128
  obtain rfl := Option.some.inj H
  have p114 : 0 ≤ (x5_1 : Int) := oD_ ‹_›
  have q114 : x5_1 < (l0.length : Int) := oD_ ‹_›
  obtain ⟨ad114, e114, hx114_0⟩ := Kd.at_string HR0.out x5_1 p114 q114
  cases e114
  replace hx114_0 := cb_ HB hx114_0
  replace p114 := eq_true p114
  replace q114 := eq_true q114
  try go_wp2_with (first | (go_at_call 103; (with_reducible refine (sF56.calls k1 (rdOf eB_ l0 x5_1) a1 false _ A5.out).mono ?_); rintro e w' ⟨rfl, ⟨nd, rfl⟩⟩; have p116 : 0 ≤ (x5_1 : Int) := oD_ ‹_›; have q116 : x5_1 < (l0.length : Int) := oD_ ‹_›; obtain ⟨ad116, e116, hx116_0⟩ := Kd.at_string HR0.out x5_1 p116 q116; obtain rfl : ad114 = ad116 := (by injection e116); replace hx116_0 := cb_ HB hx116_0; replace p116 := eq_true p116; replace q116 := eq_true q116))
  (try (rw [drewN_self wr]; generalize hq_ : World.drewN wr _ = wr; have n0_ : Aside0 (Below w.heap.size w wr) := ⟨by rw [← hq_]; exact (by repeat with_reducible first | exact HB.out | apply bA_ | apply bN_ | apply bD_)⟩; clear HB hq_; have HB := n0_; clear n0_))
  replace HB := aM_ (bD_ HB.out)
  obtain ⟨i016, hi016, _, hsz16, _⟩ := info_parts info9
  obtain ⟨hcut16, hA16, hC16⟩ := print_take_of (P := Tryz.prog) Value.string (⟨#[]⟩ : ByteArray) 51 9 .i64 Tryz.underlying51 hi016 hsz16 (some ad114) c0 l0 x5_1 (oD_ ‹_›) (oD_ ‹_›) HC0.out
  have HR117 := aM_ (Kd.C_of_reads (h1 := fun _ => rfl) (hA16 _ (Kd.reads_of_C HR0.out)))
  have HC117 := aM_ hC16
  clear hA16 hC16 hi016 hsz16
  obtain ⟨i017, hi017, _, hsz17, _⟩ := info_parts info9
  obtain ⟨A17, hcut17, hA17, hC17⟩ := print_drop_of (P := Tryz.prog) Value.string (⟨#[]⟩ : ByteArray) 51 9 .i64 Tryz.underlying51 hi017 hsz17 (some ad114) c0 l0 x5_1 (oD_ ‹_›) (oD_ ‹_›) HC0.out
  have HR127 := aM_ (Kd.C_of_reads (h1 := fun _ => rfl) (hA17 _ (Kd.reads_of_C HR0.out)))
  have HC127 := aM_ hC17
  clear hA17 hC17 hi017 hsz17
  refine start_ (n := 12) (S := fun w' => True) (ds := []) #[fy, fy, fy, fy, fy, fy, fy, fy, fy, fy, fy, fy] (by kernel_rfl) rfl rfl trivial (fun hHeld => ?_); refine with_tabW sF62.tab6 sF62.bits6 (fun HT_ HW_ => ?_)
  generalize wr.drew = w15 at HB HR117 HR127 hHeld ⊢
  refine pu_ HT_ 0 33 #[ty, fy, fy, fy, fy, fy, fy, fy, fy, fy, fy, fy] ?_
  refine pu_ HT_ 1 34 #[ty, ty, fy, fy, fy, fy, fy, fy, fy, fy, fy, fy] ?_
  refine pu_ HT_ 2 35 #[ty, ty, ty, fy, fy, fy, fy, fy, fy, fy, fy, fy] ?_
  refine pu_ HT_ 4 37 #[ty, ty, ty, fy, ty, fy, fy, fy, fy, fy, fy, fy] ?_
  refine pu_ HT_ 7 40 #[ty, ty, ty, fy, ty, fy, fy, ty, fy, fy, fy, fy] ?_
  refine pu_ HT_ 8 41 #[ty, ty, ty, fy, ty, fy, fy, ty, ty, fy, fy, fy] ?_
  refine pu_ HT_ 9 42 #[ty, ty, ty, fy, ty, fy, fy, ty, ty, ty, fy, fy] ?_
  refine join_ (σ := Value × Value) 3 #[ty, ty, ty, ty, ty, ty, fy, ty, ty, ty, fy, fy] (fun s_ => [(36, s_.1), (38, s_.2)]) (fun s_ w' => (Kd.R Kd.string 9 w' w.heap.size (fun k_ => some k_ ≠ (s_.2 : Value).ownBlock) s_.1 t118) ∧ (Kd.R Kd.string 9 w' w.heap.size (fun k_ => some k_ ≠ (s_.1 : Value).ownBlock) s_.2 y121) ∧ (Below w.heap.size w w')) ?_ ?_
  rotate_left
  ·
   intro hCont
   refine two_ (i := 3) (j := 5) (Ni := some 36) (Nj := some 38) #[ty, ty, ty, ty, ty, fy, fy, ty, ty, ty, fy, fy] #[ty, ty, ty, fy, ty, ty, fy, ty, ty, ty, fy, fy] rfl rfl rfl rfl (two_of HT_.out (by kernel_rfl)) (by decide) (by decide) (fun K hK => ?_) (fun K hK => ?_)
   ·
    skip
    refine goes_ Tryz.func104 (by kernel_rfl) rfl #[.slice (some ad114) (l0.take (x5_1 : Int).toNat).length c0] (by rfl) rfl rfl (by (try simp only [sD_, sE_, sF_]); (rw [show (l0.take (x5_1 : Int).toNat).length = x5_1.toNat from (by rw [List.length_take]; have h_ : (x5_1 : Int) ≤ (l0.length : Int) := oD_ ‹_›; omega)] <;> rfl)) ?_
    with_reducible refine (sF59.calls _ _ (l0.take (x5_1 : Int).toNat) t118 _ ?side1 ?side2 A10.out).mono ?_
    (case side1 => repeat (first | exact (k4_ HR117.out HB.out) | with_reducible first | apply cA_ | apply cN_ | apply cD_))
    (case side2 => exact HC117.out)
    rintro e w18 ⟨v119, rfl, ho0, hb⟩
    refine ⟨_, rfl, ?_⟩
    have n0_ := aM_ (k5_ ho0 (bZ_ HB.out))
    have n1_ := b4_ HB hb
    clear HB
    have HO120 := n0_
    have HB := n1_
    clear n0_ n1_
    (try clear hb)
    (try clear ho0)
    refine hK.out _ _ trivial (fun hHeld => ?_)
    clear hK K
    refine norm_ (by show Act.put _ (some 36) _ = _; simp only [Act.put, sA_, sB_, sC_, i6_, i3_]; rfl) ?_
    refine one_ (i := 5) (N := some 38) #[ty, ty, ty, ty, ty, ty, fy, ty, ty, ty, fy, fy] rfl rfl (one_of HT_.out (by kernel_rfl)) (by decide) (fun K hK => ?_)
    refine Kd.R_lit_step Kd.string _ 9 ?hg (N := 38) ?hd (xs := ([a1] : List ByteArray)) (inner := [.string a1]) (ok := fun _ => True) (okp := fun _ => True) ?hr ?hp (fun _ hk => hk) trivial (Below.refl _ _) (Nat.le_refl _) (by simp) ?_; (case hd => rfl); (case hg => rfl); (case hr => (go_simp; done)); (case hp => exact (Reps.one (show Kd.M Kd.string _ _ _ a1 [.string a1] from rfl) (Reps.none _ _)))
    intro v122 w19 ho20 hb hg_ hnew_
    clear hg_ hnew_
    (rw [← Ny121.out] at ho20)
    have n0_ := aM_ (Kd.R_elder' HO120.out (Kd.R_base ho20) hb)
    have n1_ := aM_ (k5_ (Kd.R_new' ho20 (Kd.R_lt HO120.out)) (bZ_ HB.out))
    have n2_ := b4_ HB hb
    clear HO120
    clear HB
    have HO120 := n0_
    have HO123 := n1_
    have HB := n2_
    clear n0_ n1_ n2_
    clear hb ho20
    refine hK.out _ _ trivial (fun hHeld => ?_)
    clear hK K
    refine norm_ (by show Act.put _ (some 38) _ = _; simp only [Act.put, sA_, sB_, sC_, i6_, i3_]; rfl) ?_
    exact norm_ (by simp only [putAll, Act.put, sA_, sB_, sC_]) (hCont (v119, v122) _ ⟨(by exact kM_ HO120.out (fun _ hk => hk.2)), (by exact kM_ HO123.out (fun _ hk => hk.2)), HB.out⟩)
   skip
   refine Kd.R_lit_step Kd.string _ 9 ?hg (N := 38) ?hd (xs := ([a1] : List ByteArray)) (inner := [.string a1]) (ok := fun _ => True) (okp := fun _ => True) ?hr ?hp (fun _ hk => hk) trivial (Below.refl _ _) (Nat.le_refl _) (by simp) ?_; (case hd => rfl); (case hg => rfl); (case hr => (go_simp; done)); (case hp => exact (Reps.one (show Kd.M Kd.string _ _ _ a1 [.string a1] from rfl) (Reps.none _ _)))
   intro v122 w18 ho19 hb hg_ hnew_
   clear hg_ hnew_
   (rw [← Ny121.out] at ho19)
   have n0_ := aM_ (k5_ ho19 (bZ_ HB.out))
   have n1_ := b4_ HB hb
   clear HB
   have HO123 := n0_
   have HB := n1_
   clear n0_ n1_
   clear hb ho19
   refine hK.out _ _ trivial (fun hHeld => ?_)
   clear hK K
   refine norm_ (by show Act.put _ (some 38) _ = _; simp only [Act.put, sA_, sB_, sC_, i6_, i3_]; rfl) ?_
   refine one_ (i := 3) (N := some 36) #[ty, ty, ty, ty, ty, ty, fy, ty, ty, ty, fy, fy] rfl rfl (one_of HT_.out (by kernel_rfl)) (by decide) (fun K hK => ?_)
   refine goes_ Tryz.func104 (by kernel_rfl) rfl #[.slice (some ad114) (l0.take (x5_1 : Int).toNat).length c0] (by rfl) rfl rfl (by (try simp only [sD_, sE_, sF_]); (rw [show (l0.take (x5_1 : Int).toNat).length = x5_1.toNat from (by rw [List.length_take]; have h_ : (x5_1 : Int) ≤ (l0.length : Int) := oD_ ‹_›; omega)] <;> rfl)) ?_
   with_reducible refine (sF59.calls _ _ (l0.take (x5_1 : Int).toNat) t118 _ ?side1 ?side2 A10.out).mono ?_
   (case side1 => repeat (first | exact (k4_ HR117.out HB.out) | with_reducible first | apply cA_ | apply cN_ | apply cD_))
   (case side2 => exact HC117.out)
   rintro e w20 ⟨v119, rfl, ho0, hb⟩
   refine ⟨_, rfl, ?_⟩
   have n0_ := aM_ (Kd.R_elder' HO123.out (Kd.R_base ho0) hb)
   have n1_ := aM_ (k5_ (Kd.R_new' ho0 (Kd.R_lt HO123.out)) (bZ_ HB.out))
   have n2_ := b4_ HB hb
   clear HO123
   clear HB
   have HO123 := n0_
   have HO120 := n1_
   have HB := n2_
   clear n0_ n1_ n2_
   (try clear hb)
   (try clear ho0)
   refine hK.out _ _ trivial (fun hHeld => ?_)
   clear hK K
   refine norm_ (by show Act.put _ (some 36) _ = _; simp only [Act.put, sA_, sB_, sC_, i6_, i3_]; rfl) ?_
   exact norm_ (by simp only [putAll, Act.put, sA_, sB_, sC_]) (hCont (v119, v122) _ ⟨(by exact kM_ HO120.out (fun _ hk => hk.2)), (by exact kM_ HO123.out (fun _ hk => hk.2)), HB.out⟩)
  rintro ⟨v119, v122⟩ w21 ⟨h0_, h1_, h2_⟩
  have n0_ : Aside0 (Kd.R Kd.string 9 w21 w.heap.size (fun k_ => some k_ ≠ (v122 : Value).ownBlock) v119 t118) := ⟨h0_⟩
  have n1_ : Aside0 (Kd.R Kd.string 9 w21 w.heap.size (fun k_ => some k_ ≠ (v119 : Value).ownBlock) v122 y121) := ⟨h1_⟩
  have n2_ : Aside0 (Below w.heap.size w w21) := ⟨h2_⟩
  clear HB
  clear h0_ h1_ h2_
  have HO120 := n0_
  have HO123 := n1_
  have HB := n2_
  clear n0_ n1_ n2_
  have hHeld := trivial
  obtain ⟨Ao23, co23, eo23⟩ := kS_ HO123.out
  (subst eo23)
  refine norm_ (a' := ?_) ?_ ?_
  rotate_left
  ·
   simp only [putAll, Act.put, sA_, sB_, sC_]
   rfl
  refine one_ (i := 6) (N := some 39) #[ty, ty, ty, ty, ty, ty, ty, ty, ty, ty, fy, fy] rfl rfl (one_of HT_.out (by kernel_rfl)) (by decide) (fun K hK => ?_)
  refine Kd.R_append_rows_step Kd.string (w0 := w) w.heap.size (by rfl) (.tmp 36) (.tmp 38) 51 9 (.string ⟨#[]⟩) 16 rfl Tryz.underlying51 info9 rfl (by decide) (by omega) v119 t118 y121 _ _ _ (fun k_ => some k_ ≠ (.slice Ao23 y121.length co23 : Value).ownBlock) (fun _ => False) rfl rfl ?aO ?aR (fun _ _ h => h) (fun _ h => h.elim) ?aF ?aB ?aS ?aL ?_
  (case aR => repeat (first | exact (kR_ HO123.out).2.2 | with_reducible first | apply cA_ | apply cN_ | apply cD_))
  (case aB => exact HB.out)
  (case aF => exact (fun k_ hk => Kd.fresh' (Kd.R_lt HO123.out) k_ hk))
  (case aO => exact HO120.out)
  (case aS => exact (bZ_ HB.out))
  (case aL => have := LMc11.out; omega)
  intro v125 w22 ho hb hg hat
  rw [← Ny124.out] at ho
  have n0_ := aM_ (Kd.R_after (ok := (fun _ => True)) (by exact kM_ HO123.out (fun _ hk => ⟨trivial, hk⟩)) hg hat)
  have n1_ := aM_ (hb)
  have n2_ := aM_ (ho)
  clear HO123
  clear HB
  clear HO120
  have HO123 := n0_
  have HB := n1_
  have HO126 := n2_
  clear n0_ n1_ n2_
  clear ho hb hg hat
  refine hK.out _ _ trivial (fun hHeld => ?_)
  clear hK K
  refine norm_ (by show Act.put _ (some 39) _ = _; simp only [Act.put, sA_, sB_, sC_, i6_, i3_]; rfl) ?_
  refine one_ (i := 10) (N := some 43) #[ty, ty, ty, ty, ty, ty, ty, ty, ty, ty, ty, fy] rfl rfl (one_of HT_.out (by kernel_rfl)) (by decide) (fun K hK => ?_)
  refine Kd.R_append_rows_step Kd.string (w0 := w) w.heap.size (by rfl) (.tmp 39) (.tmp 42) 51 9 (.string ⟨#[]⟩) 16 rfl Tryz.underlying51 info9 rfl (by decide) (by omega) v125 y124 (l0.drop (x5_1 : Int).toNat) _ _ _ (fun k_ => some k_ ≠ (.slice Ao23 y121.length co23 : Value).ownBlock) (fun _ => False) rfl rfl ?aO ?aR (fun _ _ h => h) (fun _ h => h.elim) ?aF ?aB ?aS ?aL ?_
  (case aR => (rw [← show (l0.drop (x5_1 : Int).toNat).length = (l0.length - x5_1.toNat) from List.length_drop]; repeat (first | exact (k4_ HR127.out HB.out) | with_reducible first | apply cA_ | apply cN_ | apply cD_)))
  (case aB => exact HB.out)
  (case aF => exact (fun k_ hk => Kd.fresh' (Kd.R_lt HO123.out) k_ hk))
  (case aO => exact HO126.out)
  (case aS => exact (bZ_ HB.out))
  (case aL => have := LMc14.out; have hlx_ := (show (l0.drop (x5_1 : Int).toNat).length = (l0.length - x5_1.toNat) from List.length_drop); omega)
  intro v129 w24 ho hb hg hat
  rw [← Ny128.out] at ho
  have n0_ := aM_ (Kd.R_after (ok := (fun _ => True)) HO123.out hg hat)
  have n1_ := aM_ (hb)
  have n2_ := aM_ (ho)
  clear HO123
  clear HB
  clear HO126
  have HO123 := n0_
  have HB := n1_
  have HO130 := n2_
  clear n0_ n1_ n2_
  clear ho hb hg hat
  refine hK.out _ _ trivial (fun hHeld => ?_)
  clear hK K
  refine norm_ (by show Act.put _ (some 43) _ = _; simp only [Act.put, sA_, sB_, sC_, i6_, i3_]; rfl) ?_
  refine pu_ HT_ 11 4 #[ty, ty, ty, ty, ty, ty, ty, ty, ty, ty, ty, ty] ?_
  refine done_ (done_of HT_.out (by kernel_rfl)) ?_
  try go_wp2
  go_ret
  exact ⟨_, by rfl, by exact kM_ HO130.out (fun _ hk => trivial), by exact HB.out⟩
def sF63.l0 : Nat → List ByteArray → ByteArray → Int → Option (List ByteArray)
 | 0, _, _, _ => none
 | k + 1, x0, x1, x5 => if x5 < (x0.length : Int) then (if 0 ≤ x5 then ((sF56.f k (rdOf eB_ x0 x5) x1).bind fun t146 => (if t146 = true then (sF63.l0 k x0 x1 (wrap64 (x5 + 1))) else (if (rdOf eB_ x0 x5).toList = x1.toList then (some x0) else (none)))) else (none)) else (none)
def sF63.f (k : Nat) (l0 : List ByteArray) (a1 : ByteArray) : Option (List ByteArray) := sF63.l0 k l0 a1 0
theorem sF63.mono_l : ∀ k, (∀ y0 y1 y2, LeO (sF63.l0 k y0 y1 y2) (sF63.l0 (k + 1) y0 y1 y2))
 | 0 => fun _ _ _ r h => by simp [sF63.l0] at h
 | k + 1 => by
  have ih0 := sF63.mono_l k
  intro y0 y1 y2
  unfold sF63.l0
  repeat' with_reducible first | exact ih0 _ _ _ | exact sF56.mono _ _ _ | exact l3_ _ | exact l0_ _ | refine l2_ ?_ ?_ | refine l1_ ?_ (fun _ => ?_)
theorem sF63.mono : ∀ a0 a1 k, LeO (sF63.f k a0 a1) (sF63.f (k + 1) a0 a1) := by
 intro a0 a1 k
 have ih0 := sF63.mono_l k
 unfold sF63.f
 repeat' with_reducible first | exact ih0 _ _ _ | exact sF56.mono _ _ _ | exact l3_ _ | exact l0_ _ | refine l2_ ?_ ?_ | refine l1_ ?_ (fun _ => ?_)
theorem sF63.calls (k : Nat) (P0_ : Nat → Prop) (u9000_ : Value) (l0 : List ByteArray) (a1 : ByteArray) (r : List ByteArray) (w0 w : World) (hB : Below w0.heap.size w0 w) (ho0 : Kd.R Kd.string 9 w w0.heap.size P0_ u9000_ l0) (h : sF63.f k l0 a1 = some r) :
  Calls Tryz.prog 78 #[u9000_, .string a1] w fun e w' => ∃ v0_ : Value, e = .returned (v0_) ∧ Kd.R Kd.string 9 w' w0.heap.size (fun k_ => (P0_ k_ ∨ w.heap.size ≤ k_)) v0_ r ∧ Below w0.heap.size w0 w' ∧ Kept w w' (fun k_ => P0_ k_) := by
 have HO0 := aM_ (show Kd.R Kd.string 9 w w0.heap.size (fun k_ => (P0_ k_ ∨ w.heap.size ≤ k_)) u9000_ l0 from kM_ ho0 (fun k_ hk => (.inl hk)))
 have HK := aM_ (Kept.refl w (fun k_ => P0_ k_))
 have HW0 := aM_ hB.size
 have HB := aM_ hB
 clear hB
 have H : (sF63.l0 k l0 a1 0) = some r := h
 clear h
 have H' := aM_ H
 clear H
 go_enter Tryz.func78, Tryz.ntmps78
 go_wp2
 go_loopg [5] k (fun kq v5 w' => ∃ (x5_1 : Int), v5 = .int .i64 x5_1 ∧ Aside0 (sF63.l0 kq l0 a1 x5_1 = some r) ∧ Aside0 (kq ≤ k) ∧ Aside0 (Kd.R Kd.string 9 w' w0.heap.size (fun k_ => (P0_ k_ ∨ w.heap.size ≤ k_)) u9000_ l0) ∧ Aside0 (Kept w w' (fun k_ => P0_ k_)) ∧ Aside0 (Below w0.heap.size w0 w'))
 case atStart => exact ⟨(0), (by rfl), H', ⟨Nat.le_refl _⟩, ⟨HO0.out⟩, ⟨by repeat (first | (with_reducible first | exact HK.out | apply Kept.alloc | apply Kept.drewN | apply Kept.drew) | exact HK.out)⟩, ⟨HB.out⟩⟩
 clear H'
 try clear p2
 obtain ⟨x5_1, rfl, HA, HK1, HO_0, HK, HB⟩ := hrel
 cases gk with
 | zero => exact absurd HA.out (by simp [sF63.l0])
 | succ k1 =>
  have H := HA.out
  clear HA
  simp only [sF63.l0] at H
  by_cases c3 : x5_1 < (l0.length : Int)
  rotate_left
  ·
   rw [if_neg c3] at H
   have c3b0 := dF_ c3
   clear c3
   exact absurd H (by simp)
  rw [if_pos c3] at H
  have c3b0 := dT_ c3
  clear c3
  by_cases c4 : 0 ≤ x5_1
  rotate_left
  ·
   rw [if_neg c4] at H
   exact absurd H (by simp)
  rw [if_pos c4] at H
  have c4b0 := dT_ c4
  clear c4
  replace H := oB_.mp H
  obtain ⟨t146, A50, H⟩ := H
  try dsimp only at H
  have A5 := aM_ A50
  clear A50
  by_cases c6 : t146 = true
  ·
   subst c6
   rw [if_pos rfl] at H
   have H' := aM_ H
   clear H
   obtain ⟨Ao7, co7, eo7⟩ := kS_ HO_0.out
   subst eo7
   have p145 : 0 ≤ (x5_1 : Int) := oD_ ‹_›
   have q145 : x5_1 < (l0.length : Int) := oD_ ‹_›
   obtain ⟨ad145, e145, hx145_0⟩ := Kd.at_string (kR_ HO_0.out).2.2 x5_1 p145 q145
   cases e145
   replace p145 := eq_true p145
   replace q145 := eq_true q145
   go_wp2_with (first | (go_at_call 103; (with_reducible refine (sF56.calls k1 (rdOf eB_ l0 x5_1) a1 true _ A5.out).mono ?_); rintro e w' ⟨rfl, ⟨nd, rfl⟩⟩))
   go_roundg k1
   case measure => have := HK1.out; omega
   case rel => exact ⟨(wrap64 (x5_1 + 1)), (by rfl), H', ⟨by have := HK1.out; omega⟩, ⟨by (with_reducible repeat (first | apply k1_ | apply k2_ | apply k3_)); exact HO_0.out⟩, ⟨by repeat (first | (with_reducible first | exact HK.out | apply Kept.alloc | apply Kept.drewN | apply Kept.drew) | exact HK.out)⟩, ⟨by repeat with_reducible first | exact HB.out | apply bA_ | apply bN_ | apply bD_⟩⟩
  replace c6 := Bool.eq_false_iff.mpr c6
  subst c6
  replace H : (if (rdOf eB_ l0 x5_1).toList = a1.toList then (some l0) else (none)) = some r := by rw [if_neg (show ¬ (false = true) by decide)] at H; exact H
  by_cases c8 : (rdOf eB_ l0 x5_1).toList = a1.toList
  ·
   rw [if_pos c8] at H
   have c8b0 : ((rdOf eB_ l0 x5_1).toList == a1.toList) = true := beq_iff_eq.mpr c8
   have c8b1 : ((rdOf eB_ l0 x5_1).toList != a1.toList) = false := bne_eq_false_iff_eq.mpr c8
   clear c8
   obtain rfl := Option.some.inj H
   obtain ⟨Ao9, co9, eo9⟩ := kS_ HO_0.out
   subst eo9
   have p145 : 0 ≤ (x5_1 : Int) := oD_ ‹_›
   have q145 : x5_1 < (l0.length : Int) := oD_ ‹_›
   obtain ⟨ad145, e145, hx145_0⟩ := Kd.at_string (kR_ HO_0.out).2.2 x5_1 p145 q145
   cases e145
   replace p145 := eq_true p145
   replace q145 := eq_true q145
   go_wp2_with (first | (go_at_call 103; (with_reducible refine (sF56.calls k1 (rdOf eB_ l0 x5_1) a1 false _ A5.out).mono ?_); rintro e w' ⟨rfl, ⟨nd, rfl⟩⟩; have p147 : 0 ≤ (x5_1 : Int) := oD_ ‹_›; have q147 : x5_1 < (l0.length : Int) := oD_ ‹_›; obtain ⟨ad147, e147, hx147_0⟩ := Kd.at_string (kR_ HO_0.out).2.2 x5_1 p147 q147; obtain rfl : ad145 = ad147 := (by injection e147); replace p147 := eq_true p147; replace q147 := eq_true q147))
   go_ret
   exact ⟨_, by rfl, by (with_reducible repeat (first | apply k1_ | apply k2_ | apply k3_)); exact HO_0.out, by repeat with_reducible first | exact HB.out | apply bA_ | apply bN_ | apply bD_, by repeat (first | (with_reducible first | exact HK.out | apply Kept.alloc | apply Kept.drewN | apply Kept.drew) | exact HK.out)⟩
  rw [if_neg c8] at H
  exact absurd H (by simp)
open Go.Proofs.YtnnkedeohfbkeaaGreatDoor.M
theorem sF61.before_loop (a b : Txt) (ha : a.length ≤ 4611686018427387900) : ∀ (d n : Nat), n + d = a.length → n ≤ b.length → Ev (fun k => sF56.l0 k (B a) (B b) (n : Int)) (decide (a.drop n < b.drop n)) := by
 have last : ∀ n : Nat, (n = a.length ∨ n = b.length) → n ≤ a.length → n ≤ b.length → Ev (fun k => sF56.j1 k (B a) (B b) (n : Int) false) (decide (a.drop n < b.drop n)) := by
  intro n h ha hb
  refine Ev.step (fun k => sF56.j1.eq_2 ..) (Ev.ifF (by simp) ?_)
  have : decide (((B a).size : Int) < ((B b).size : Int)) = decide (a.drop n < b.drop n) := by
   simp only [size_B]
   congr 1
   rcases h with rfl | rfl
   ·
    rw [List.drop_length]
    cases hd : b.drop a.length with
    | nil =>
     have : b.length ≤ a.length := by simpa using hd
     simp; omega
    | cons c t =>
     have : a.length < b.length := by
      have := congrArg List.length hd
      simp at this; omega
     simp; omega
   rw [List.drop_length]
   simp; omega
  rw [this]; exact Ev.now _
 intro d
 induction d with
 | zero =>
  intro n hn hb
  refine Ev.step (fun k => sF56.l0.eq_2 ..) (Ev.ifF (by simp; omega) ?_)
  exact last n (.inl (by omega)) (by omega) hb
 | succ d ih =>
  intro n hn hb
  have h1 : n < a.length := by omega
  refine Ev.step (fun k => sF56.l0.eq_2 ..) (Ev.ifT (by simp; omega) ?_)
  by_cases h2 : n < b.length
  rotate_left
  ·
   rw [show decide ((n : Int) < ((B b).size : Int)) = false from by simp; omega]
   exact last n (.inr (by omega)) (by omega) hb
  rw [show decide ((n : Int) < ((B b).size : Int)) = true from by simp; omega]
  refine Ev.step (fun k => sF56.j1.eq_2 ..) (Ev.ifT rfl (Ev.ifT (by omega) (Ev.ifT (by simp; omega) (Ev.ifT (by simp; omega) ?_))))
  simp only [bt_B a n h1, bt_B b n h2]
  rw [drop_cons_getD 0 h1, drop_cons_getD 0 h2]
  by_cases e : ((a.getD n 0).toNat : Int) = ((b.getD n 0).toNat : Int)
  ·
   have e2 : a.getD n 0 = b.getD n 0 := UInt8.toNat_inj.1 (by omega)
   refine Ev.ifT e ?_
   have := ih (n + 1) (by omega) (by omega)
   simp only [e2, List.cons_lt_cons_iff, UInt8.lt_irrefl, true_and, false_or]
   simpa only [wrap64_succ n (by omega)] using this
  refine Ev.ifF e ?_
  have e2 : a.getD n 0 ≠ b.getD n 0 := fun h => e (by rw [h])
  have : decide (((a.getD n 0).toNat : Int) < ((b.getD n 0).toNat : Int)) = decide (a.getD n 0 :: a.drop (n + 1) < b.getD n 0 :: b.drop (n + 1)) := by
   congr 1
   simp only [List.cons_lt_cons_iff, e2, false_and, or_false, UInt8.lt_iff_toNat_lt, eq_iff_iff]
   omega
  rw [this]; exact Ev.now _
theorem sF61.before_ev (a b : Txt) (ha : a.length ≤ 4611686018427387900) : Ev (fun k => sF56.f k (B a) (B b)) (decide (a < b)) := by
 simpa [sF56.f] using sF61.before_loop a b ha a.length 0 (by omega) (by omega)
theorem sF61.own_eq (l : List ByteArray) (h : l.length < 8796093022208) : sF59.f l = some l := by
 unfold sF59.f
 simp only [Option.bind_some, List.length_nil, Nat.zero_add, if_pos h, List.nil_append]
def sF61.okL (l : List Txt) : Prop := l.length ≤ 4294967296 ∧ ∀ x ∈ l, x.length ≤ 4611686018427387900
theorem sF61.getD_ok {l : List Txt} (h : sF61.okL l) (n : Nat) (hn : n < l.length) : (l.getD n []).length ≤ 4611686018427387900 := by
 rw [getD_lt [] hn]; exact h.2 _ (List.getElem_mem hn)
theorem sF61.rd_map (l : List Txt) (n : Nat) (h : n < l.length) : rdOf eB_ (l.map B) (n : Int) = B (l.getD n []) := by
 simp [rdOf, List.getD_eq_getElem?_getD, h]
theorem sF61.A_loop (l : List Txt) (w : Txt) (ok : sF61.okL l) : ∀ (d n : Nat), n + d = l.length → foundL (l.drop n) w = false → Ev (fun k => sF62.l0 k (l.map B) (B w) (n : Int)) ((l.take n ++ putL (l.drop n) w).map B) := by
 have hl := ok.1
 have fin : ∀ n, n ≤ l.length → ∀ (g : Nat → Option (List ByteArray)), (∀ k, g k = ((sF59.f ((l.map B).take (n : Int).toNat)).bind fun t1 => ((some (([B w] : List ByteArray) : List ByteArray)).bind fun y1 => (if t1.length + y1.length < 8796093022208 then ((some (t1 ++ y1 : List ByteArray)).bind fun y2 => (if y2.length + ((l.map B).drop (n : Int).toNat).length < 8796093022208 then (some (y2 ++ ((l.map B).drop (n : Int).toNat))) else (none))) else (none))))) → Ev g ((l.take n ++ w :: l.drop n).map B) := by
  intro n hn g hg
  refine Ev.congr hg ?_
  rw [sF61.own_eq _ (by simp; omega)]
  simp only [Option.bind_some]
  refine Ev.ifT (by simp; omega) (Ev.ifT (by simp; omega) ?_)
  simpa [List.map_take, List.map_drop] using Ev.now ((l.take n ++ w :: l.drop n).map B)
 intro d
 induction d with
 | zero =>
  intro n hn hf
  refine Ev.step (fun k => sF62.l0.eq_2 ..) (Ev.ifF (by simp; omega) (Ev.ifT (by omega) (Ev.ifT (by simp; omega) ?_)))
  rw [show putL (l.drop n) w = w :: l.drop n from by rw [List.drop_of_length_le (by omega)]; rfl]
  exact fin n (by omega) _ (fun _ => rfl)
 | succ d ih =>
  intro n hn hf
  have h1 : n < l.length := by omega
  refine Ev.step (fun k => sF62.l0.eq_2 ..) (Ev.ifT (by simp; omega) (Ev.ifT (by omega) ?_))
  simp only [sF61.rd_map l n h1]
  refine Ev.bind (sF61.before_ev (l.getD n []) w (sF61.getD_ok ok n h1)) ?_
  rw [drop_cons_getD [] h1] at hf ⊢
  by_cases hlt : l.getD n [] < w
  ·
   simp only [foundL, if_pos hlt] at hf
   refine Ev.ifT (by simpa using hlt) ?_
   have := ih (n + 1) (by omega) hf
   rw [take_succ_getD [] h1] at this
   simpa only [wrap64_succ n (by omega), putL, if_pos hlt, List.append_assoc, List.singleton_append] using this
  simp only [foundL, if_neg hlt, decide_eq_false_iff_not] at hf
  refine Ev.ifF (by simpa using hlt) (Ev.ifF (by simpa using hf) (Ev.ifT (by simp; omega) ?_))
  rw [show putL (l.getD n [] :: l.drop (n + 1)) w = w :: l.drop n from by rw [drop_cons_getD [] h1]; simp only [putL, if_neg hlt, if_neg hf]]
  exact fin n (by omega) _ (fun _ => rfl)
theorem sF61.B_loop (l : List Txt) (w : Txt) (ok : sF61.okL l) : ∀ (d n : Nat), n + d = l.length → foundL (l.drop n) w = true → Ev (fun k => sF63.l0 k (l.map B) (B w) (n : Int)) (l.map B) := by
 have hl := ok.1
 intro d
 induction d with
 | zero => intro n hn hf; rw [List.drop_of_length_le (by omega)] at hf; simp [foundL] at hf
 | succ d ih =>
  intro n hn hf
  have h1 : n < l.length := by omega
  refine Ev.step (fun k => sF63.l0.eq_2 ..) (Ev.ifT (by simp; omega) (Ev.ifT (by omega) ?_))
  simp only [sF61.rd_map l n h1]
  refine Ev.bind (sF61.before_ev (l.getD n []) w (sF61.getD_ok ok n h1)) ?_
  rw [drop_cons_getD [] h1] at hf
  by_cases hlt : l.getD n [] < w
  ·
   simp only [foundL, if_pos hlt] at hf
   refine Ev.ifT (by simpa using hlt) ?_
   simpa only [wrap64_succ n (by omega)] using ih (n + 1) (by omega) hf
  simp only [foundL, if_neg hlt, decide_eq_true_eq] at hf
  exact Ev.ifF (by simpa using hlt) (Ev.ifT (by simpa using hf) (Ev.now _))
def sF61.f (l0 : List ByteArray) (a1 : ByteArray) : Option (List ByteArray) := if l0.length ≤ 4294967296 ∧ (l0.all fun x => decide (x.size ≤ 4611686018427387900)) = true then some ((putL (l0.map fun x => x.data.toList) a1.data.toList).map B) else none
theorem sF61.calls (P0_ : Nat → Prop) (u9000_ : Value) (l0 : List ByteArray) (a1 : ByteArray) (r : List ByteArray) (w0 w : World) (hB : Below w0.heap.size w0 w) (ho0 : Kd.R Kd.string 9 w w0.heap.size P0_ u9000_ l0) (h : sF61.f l0 a1 = some r) :
  Calls Tryz.prog 78 #[u9000_, .string a1] w fun e w' => ∃ v0_ : Value, e = .returned (v0_) ∧ Kd.R Kd.string 9 w' w0.heap.size (fun k_ => (P0_ k_ ∨ w.heap.size ≤ k_)) v0_ r ∧ Below w0.heap.size w0 w' ∧ Kept w w' (fun k_ => P0_ k_) := by
 unfold sF61.f at h
 by_cases hc : l0.length ≤ 4294967296 ∧ (l0.all fun x => decide (x.size ≤ 4611686018427387900)) = true
 rotate_left
 ·
  rw [if_neg hc] at h; cases h
 rw [if_pos hc] at h
 obtain ⟨l, hl⟩ : ∃ l, l = l0.map fun x => x.data.toList := ⟨_, rfl⟩
 have e0 : l0 = l.map B := by
  rw [hl, List.map_map]
  conv => lhs; rw [← List.map_id l0]
  exact List.map_congr_left fun x _ => (B_data x).symm
 have e1 : a1 = B a1.data.toList := (B_data a1).symm
 have ok : sF61.okL l := by
  refine ⟨by rw [hl]; simpa using hc.1, fun x hx => ?_⟩
  rw [hl] at hx
  obtain ⟨y, hy, rfl⟩ := List.mem_map.1 hx
  have := List.all_eq_true.1 hc.2 y hy
  simpa using this
 rw [← hl] at h
 have hr := Option.some.inj h
 cases hf : foundL l a1.data.toList with
 | true =>
  obtain ⟨k, hk⟩ := Ev.rounds (sF61.B_loop l a1.data.toList ok l.length 0 (by omega) (by simpa using hf))
  refine sF63.calls k P0_ u9000_ l0 a1 r w0 w hB ho0 ?_
  rw [← hr, putL_found l _ hf, e0, e1]
  unfold sF63.f
  simpa using hk
 | false =>
  obtain ⟨k, hk⟩ := Ev.rounds (sF61.A_loop l a1.data.toList ok l.length 0 (by omega) (by simpa using hf))
  obtain ⟨A, c, rfl, hlc, hC⟩ := Kd.R_reads ho0
  refine (sF62.calls k A c l0 a1 r w hC hlc ?_).mono ?_
  ·
   rw [← hr, e0, e1]
   unfold sF62.f
   simpa using hk
  rintro e w' ⟨v, rfl, hR, hb⟩
  exact ⟨v, rfl, k5_ (kM_ (Kd.R_bound hR) (fun k hk => .inr hk.2.1)) hB.size, hB.trans (hb.mono hB.size), Kept.of_below hb _⟩
mutual
def sF58.l0 : Nat → List ByteArray → List ByteArray → Int → Option ((List (S96)))
 | 0, _, _, _ => none
 | k + 1, x0, x3, x4 => if x4 < (x0.length : Int) then (sF58.l1 k x0 x3 x4 1) else (sF58.l2 k x0 x3 0 (([] : List (S96))))
def sF58.l1 : Nat → List ByteArray → List ByteArray → Int → Int → Option ((List (S96)))
 | 0, _, _, _, _ => none
 | k + 1, x0, x3, x4, x5 => if 0 ≤ x4 then (if x4 < (x0.length : Int) then (if x5 ≤ ((rdOf eB_ x0 x4).size : Int) then (if 0 ≤ x5 then ((sF61.f x3 ((rdOf eB_ x0 x4).extract 0 (x5 : Int).toNat)).bind fun t155 => (sF58.l1 k x0 t155 x4 (wrap64 (x5 + 1)))) else (none)) else (sF58.l0 k x0 x3 (wrap64 (x4 + 1)))) else (none)) else (none)
def sF58.l2 : Nat → List ByteArray → List ByteArray → Int → List (S96) → Option ((List (S96)))
 | 0, _, _, _, _ => none
 | k + 1, x0, x3, x7, x162000 => if x7 < (x3.length : Int) then (if 0 ≤ x7 then ((sF57.f k x0 (rdOf eB_ x3 x7)).bind fun t163 => (if x7 > 0 then (if 0 ≤ (wrap64 (((rdOf eB_ x3 x7).size : Int) - 1)) then (if (wrap64 (((rdOf eB_ x3 x7).size : Int) - 1)) < ((rdOf eB_ x3 x7).size : Int) then (if (wrap64 (((rdOf eB_ x3 x7).size : Int) - 1)) ≤ ((rdOf eB_ x3 x7).size : Int) then ((sF60.f k x3 ((rdOf eB_ x3 x7).extract 0 ((wrap64 (((rdOf eB_ x3 x7).size : Int) - 1)) : Int).toNat)).bind fun t165 => (if x162000.length < 5864062014805 then (sF58.l2 k x0 x3 (wrap64 (x7 + 1)) (x162000 ++ [(⟨((bt (rdOf eB_ x3 x7) (wrap64 (((rdOf eB_ x3 x7).size : Int) - 1))) - 97) % 256, t165, t163⟩ : S96)])) else (none))) else (none)) else (none)) else (none)) else (if x162000.length < 5864062014805 then (sF58.l2 k x0 x3 (wrap64 (x7 + 1)) (x162000 ++ [(⟨(-1), (-1), t163⟩ : S96)])) else (none)))) else (none)) else (some x162000)
end
def sF58.f (k : Nat) (l0 : List ByteArray) : Option ((List (S96))) := sF58.l0 k l0 (([(⟨#[]⟩ : ByteArray)] : List ByteArray)) 0
theorem sF58.mono_l : ∀ k, (∀ y0 y1 y2, LeO (sF58.l0 k y0 y1 y2) (sF58.l0 (k + 1) y0 y1 y2)) ∧ (∀ y0 y1 y2 y3, LeO (sF58.l1 k y0 y1 y2 y3) (sF58.l1 (k + 1) y0 y1 y2 y3)) ∧ (∀ y0 y1 y2 y3, LeO (sF58.l2 k y0 y1 y2 y3) (sF58.l2 (k + 1) y0 y1 y2 y3))
 | 0 => ⟨fun _ _ _ r h => by simp [sF58.l0] at h, fun _ _ _ _ r h => by simp [sF58.l1] at h, fun _ _ _ _ r h => by simp [sF58.l2] at h⟩
 | k + 1 => by
  obtain ⟨ih0, ih1, ih2⟩ := sF58.mono_l k
  refine ⟨?_, ?_, ?_⟩
  ·
   intro y0 y1 y2
   unfold sF58.l0
   repeat' with_reducible first | exact ih0 _ _ _ | exact ih1 _ _ _ _ | exact ih2 _ _ _ _ | exact sF57.mono _ _ _ | exact sF60.mono _ _ _ | exact l3_ _ | exact l0_ _ | refine l2_ ?_ ?_ | refine l1_ ?_ (fun _ => ?_)
  ·
   intro y0 y1 y2 y3
   unfold sF58.l1
   repeat' with_reducible first | exact ih0 _ _ _ | exact ih1 _ _ _ _ | exact ih2 _ _ _ _ | exact sF57.mono _ _ _ | exact sF60.mono _ _ _ | exact l3_ _ | exact l0_ _ | refine l2_ ?_ ?_ | refine l1_ ?_ (fun _ => ?_)
  intro y0 y1 y2 y3
  unfold sF58.l2
  repeat' with_reducible first | exact ih0 _ _ _ | exact ih1 _ _ _ _ | exact ih2 _ _ _ _ | exact sF57.mono _ _ _ | exact sF60.mono _ _ _ | exact l3_ _ | exact l0_ _ | refine l2_ ?_ ?_ | refine l1_ ?_ (fun _ => ?_)
theorem sF58.mono : ∀ a0 k, LeO (sF58.f k a0) (sF58.f (k + 1) a0) := by
 intro a0 k
 obtain ⟨ih0, ih1, ih2⟩ := sF58.mono_l k
 unfold sF58.f
 repeat' with_reducible first | exact ih0 _ _ _ | exact ih1 _ _ _ _ | exact ih2 _ _ _ _ | exact sF57.mono _ _ _ | exact sF60.mono _ _ _ | exact l3_ _ | exact l0_ _ | refine l2_ ?_ ?_ | refine l1_ ?_ (fun _ => ?_)
theorem sF58.calls (k : Nat) (A0 : Option Addr) (c0 : Nat) (l0 : List ByteArray) (r : List (S96)) (w : World) (hr0 : Kd.C Kd.string w A0 l0.length l0) (hc0 : l0.length ≤ c0) (h : sF58.f k l0 = some r) :
  Calls Tryz.prog 48 #[.slice A0 l0.length c0] w fun e w' => ∃ v0_ : Value, e = .returned (.agg #[v0_]) ∧ Kd.R k96 96 w' w.heap.size (fun _ => True) v0_ r ∧ Below w.heap.size w w' := by
 have hu28 := Tryz.underlying28
 have hu96 := Tryz.underlying96
 have HR0 := aM_ hr0
 have HC0 := aM_ hc0
 clear hr0 hc0
 have HB := aM_ (Below.refl w.heap.size w)
 have H : (sF58.l0 k l0 (([(⟨#[]⟩ : ByteArray)] : List ByteArray)) 0) = some r := h
 clear h
 obtain ⟨y150, hy150⟩ : ∃ y_ : List ByteArray, y_ = (([(⟨#[]⟩ : ByteArray)] : List ByteArray)) := ⟨_, rfl⟩
 replace H : (sF58.l0 k l0 y150 0) = some r := by (try rw [hy150]); first | with_reducible exact H | with_reducible exact oS_ H | exact H
 have Ny150 := aM_ hy150
 clear hy150
 have H' := aM_ H
 clear H
 go_enter Tryz.func48, Tryz.ntmps48
 go_wp2_with (first | (refine bx_ 2 #[.slice none 0 0] 28 ?_; intro gb149 hg w2 hbox hb; have BK149 := aM_ (hbox); have GW149 := gw_ hg HB; replace HB := b4_ HB hb; clear hb hbox hg) | ((with_reducible refine gD_ (N := 10) rfl ?_); refine Kd.R_lit Kd.string _ 9 ?hg (N := 10) ?hd (xs := ([(⟨#[]⟩ : ByteArray)] : List ByteArray)) (inner := [.string (⟨#[]⟩ : ByteArray)]) (ok := fun _ => True) (okp := fun _ => True) ?hr ?hp (fun _ hk => hk) trivial (Below.refl _ _) (Nat.le_refl _) (by simp) ?_; (case hd => rfl); (case hg => rfl); (case hr => (go_simp; done)); (case hp => exact (Reps.one (show Kd.M Kd.string _ _ _ (⟨#[]⟩ : ByteArray) [.string (⟨#[]⟩ : ByteArray)] from rfl) (Reps.none _ _))); intro v151 w3 ho4 hb hg_ hnew_; clear hg_ hnew_; (rw [← Ny150.out] at ho4); have HO152 := aM_ (k5_ ho4 (bZ_ HB.out)); replace BK149 := b5_ BK149 hb; replace HB := b4_ HB hb; clear hb ho4))
 go_loopg [3, 4] k (fun kq v3 v4 w' => ∃ (x3_1 : List ByteArray) (x4_1 : Int), v4 = .int .i64 x4_1 ∧ Aside0 (sF58.l0 kq l0 x3_1 x4_1 = some r) ∧ Aside0 (kq ≤ k) ∧ Aside0 (Kd.R Kd.string 9 w' w.heap.size (fun _ => True) v3 x3_1) ∧ Aside0 (w'.heap[gb149]? = some (.cells #[(.slice none 0 0)] 28 (0, 0))) ∧ Aside0 (Below w.heap.size w w'))
 case atStart => exact ⟨(y150), (0), (by rfl), H', ⟨Nat.le_refl _⟩, ⟨HO152.out⟩, ⟨BK149.out⟩, ⟨HB.out⟩⟩
 clear H'
 try clear p2
 obtain ⟨x3_1, x4_1, rfl, HA, HK1, HO_3, BK149, HB⟩ := hrel
 cases gk with
 | zero => exact absurd HA.out (by simp [sF58.l0])
 | succ k1 =>
  have H := HA.out
  clear HA
  simp only [sF58.l0] at H
  by_cases c5 : x4_1 < (l0.length : Int)
  ·
   rw [if_pos c5] at H
   have c5b0 := dT_ c5
   clear c5
   have H' := aM_ H
   clear H
   go_wp2
   go_loopg [3, 5] k1 (fun kq v3 v5 w' => ∃ (x3_2 : List ByteArray) (x5_2 : Int), v5 = .int .i64 x5_2 ∧ Aside0 (sF58.l1 kq l0 x3_2 x4_1 x5_2 = some r) ∧ Aside0 (kq ≤ k1) ∧ Aside0 (Kd.R Kd.string 9 w' w.heap.size (fun _ => True) v3 x3_2) ∧ Aside0 (w'.heap[gb149]? = some (.cells #[(.slice none 0 0)] 28 (0, 0))) ∧ Aside0 (Below w.heap.size w w'))
   case atStart => exact ⟨(x3_1), (1), (by rfl), H', ⟨Nat.le_refl _⟩, ⟨HO_3.out⟩, ⟨BK149.out⟩, ⟨HB.out⟩⟩
   clear H'
   try clear p2
   try clear c5b0
   try clear p2
   obtain ⟨x3_2, x5_2, rfl, HA, HK2, HO_3, BK149, HB⟩ := hrel
   cases gk with
   | zero => exact absurd HA.out (by simp [sF58.l1])
   | succ k2 =>
    have H := HA.out
    clear HA
    simp only [sF58.l1] at H
    by_cases c6 : 0 ≤ x4_1
    rotate_left
    ·
     rw [if_neg c6] at H
     exact absurd H (by simp)
    rw [if_pos c6] at H
    have c6b0 := dT_ c6
    clear c6
    by_cases c7 : x4_1 < (l0.length : Int)
    rotate_left
    ·
     rw [if_neg c7] at H
     exact absurd H (by simp)
    rw [if_pos c7] at H
    have c7b0 := dT_ c7
    clear c7
    by_cases c8 : x5_2 ≤ ((rdOf eB_ l0 x4_1).size : Int)
    rotate_left
    ·
     rw [if_neg c8] at H
     have c8b0 := dF_ c8
     clear c8
     have H' := aM_ H
     clear H
     have p153 : 0 ≤ (x4_1 : Int) := oD_ ‹_›
     have q153 : x4_1 < (l0.length : Int) := oD_ ‹_›
     obtain ⟨ad153, e153, hx153_0⟩ := Kd.at_string HR0.out x4_1 p153 q153
     cases e153
     replace hx153_0 := cb_ HB hx153_0
     replace p153 := eq_true p153
     replace q153 := eq_true q153
     go_wp2
     go_roundg k2
     case measure => have := HK1.out; have := HK2.out; omega
     case rel => exact ⟨(x3_2), (wrap64 (x4_1 + 1)), (by rfl), H', ⟨by have := HK1.out; have := HK2.out; omega⟩, ⟨HO_3.out⟩, ⟨BK149.out⟩, ⟨HB.out⟩⟩
    rw [if_pos c8] at H
    have c8b0 := dT_ c8
    clear c8
    by_cases c9 : 0 ≤ x5_2
    rotate_left
    ·
     rw [if_neg c9] at H
     exact absurd H (by simp)
    rw [if_pos c9] at H
    have c9b0 := eq_true c9
    have c9b1 := dT_ c9
    clear c9
    have c10b0 := eq_true (oD_ ‹_› : x5_2 ≤ ((rdOf eB_ l0 x4_1).size : Int))
    replace H := oB_.mp H
    obtain ⟨t155, A110, H⟩ := H
    try dsimp only at H
    have A11 := aM_ A110
    clear A110
    have H' := aM_ H
    clear H
    have p153 : 0 ≤ (x4_1 : Int) := oD_ ‹_›
    have q153 : x4_1 < (l0.length : Int) := oD_ ‹_›
    obtain ⟨ad153, e153, hx153_0⟩ := Kd.at_string HR0.out x4_1 p153 q153
    cases e153
    replace hx153_0 := cb_ HB hx153_0
    replace p153 := eq_true p153
    replace q153 := eq_true q153
    have p154 : 0 ≤ (x4_1 : Int) := oD_ ‹_›
    have q154 : x4_1 < (l0.length : Int) := oD_ ‹_›
    obtain ⟨ad154, e154, hx154_0⟩ := Kd.at_string HR0.out x4_1 p154 q154
    obtain rfl : ad153 = ad154 := (by injection e154)
    replace hx154_0 := cb_ HB hx154_0
    replace p154 := eq_true p154
    replace q154 := eq_true q154
    obtain ⟨Ao12, co12, eo12⟩ := kS_ HO_3.out
    subst eo12
    go_wp2_with (first | (refine gs_ 33 Tryz.func78 #[.slice Ao12 x3_2.length co12, .string ((rdOf eB_ l0 x4_1).extract 0 (x5_2 : Int).toNat)] ?_; (with_reducible refine (sF61.calls (fun k_ => some k_ = (.slice Ao12 x3_2.length co12 : Value).ownBlock) (.slice Ao12 x3_2.length co12) x3_2 ((rdOf eB_ l0 x4_1).extract 0 (x5_2 : Int).toNat) t155 w _ HB.out ?side2 A11.out).mono ?_); (case side2 => exact Kd.R_tight rfl HO_3.out); rintro e w13 ⟨v156, rfl, ho0, hb, hkp⟩; refine ⟨_, rfl, ?_⟩; have n0_ := aM_ (blk_kept BK149.out hkp (fun hs_ => (fun e_ => (k6_ HO_3.out BK149.out (by decide)) e_) hs_)); have n1_ := aM_ (kM_ (ok' := fun k_ => True) ho0 (fun k_ hk_ => trivial)); have n2_ := aM_ (hb); clear BK149; clear HB; clear HO_3; have BK149 := n0_; have HO157 := n1_; have HB := n2_; clear n0_ n1_ n2_; (try clear hb); (try clear hkp); (try clear ho0)))
    go_roundg k2
    case measure => have := HK1.out; have := HK2.out; omega
    case rel => exact ⟨(t155), (wrap64 (x5_2 + 1)), (by rfl), H', ⟨by have := HK1.out; have := HK2.out; omega⟩, ⟨HO157.out⟩, ⟨BK149.out⟩, ⟨HB.out⟩⟩
  rw [if_neg c5] at H
  have c5b0 := dF_ c5
  clear c5
  obtain ⟨y158, hy158⟩ : ∃ y_ : List (S96), y_ = (([] : List (S96))) := ⟨_, rfl⟩
  replace H : (sF58.l2 k1 l0 x3_1 0 y158) = some r := by (try rw [hy158]); first | with_reducible exact H | with_reducible exact oS_ H | exact H
  have Ny158 := aM_ hy158
  clear hy158
  have H' := aM_ H
  clear H
  go_wp2_with (first | ((with_reducible refine gD_ (N := 34) rfl ?_); refine Kd.R_lit k96 _ 96 ?hg (N := 34) ?hd (xs := ([] : List (S96))) (inner := []) (ok := fun _ => True) (okp := fun _ => True) ?hr ?hp (fun _ hk => hk) trivial (Below.refl _ _) (Nat.le_refl _) (by simp) ?_; (case hd => rfl); (case hg => rfl); (case hr => (go_simp; done)); (case hp => exact (Reps.none _ _)); intro v159 w14 ho15 hb hg_ hnew_; clear hg_ hnew_; (rw [← Ny158.out] at ho15); replace HO_3 := k9_ HO_3 hb; have HO160 := aM_ (k5_ ho15 (bZ_ HB.out)); replace BK149 := b5_ BK149 hb; replace HB := b4_ HB hb; clear hb ho15; obtain ⟨Ao16, co16, eo16⟩ := kS_ HO160.out; subst eo16) | (refine bx_ 6 #[.slice none 0 0] 28 ?_; intro gb161 hg w17 hbox hb; replace HO_3 := k9_ HO_3 hb; replace HO160 := k9_ HO160 hb; have BK161 := aM_ (hbox); have GW161 := gw_ hg HB; replace HB := b4_ HB hb; have NB149_161 := nb_ hg BK149; have NB161_149 := ns_ NB149_161; replace BK149 := b5_ BK149 hb; clear hb hbox hg; have hnb18 := NB161_149.out; have hnc18 := NB149_161.out; have hcz19_0 := c0_ BK161; have hfz19_0 := bF_ BK161.out 0))
  go_loopg [7] k1 (fun kq v7 w' => ∃ (x7_2 : Int) (x162000_2 : List (S96)) (u162000 : Value), v7 = .int .i64 x7_2 ∧ Aside0 (sF58.l2 kq l0 x3_1 x7_2 x162000_2 = some r) ∧ Aside0 (kq ≤ k1) ∧ Aside0 (Kd.R Kd.string 9 w' w.heap.size (fun _ => True) u3 x3_1) ∧ Aside0 (Kd.R k96 96 w' w.heap.size (fun _ => True) u162000 x162000_2) ∧ Aside0 (w'.heap[gb149]? = some (.cells #[(.slice none 0 0)] 28 (0, 0))) ∧ Aside0 (w'.heap[gb161]? = some (.cells #[u162000] 28 (0, 0))) ∧ Aside0 (Below w.heap.size w w'))
  case atStart => exact ⟨(0), (y158), (.slice Ao16 y158.length co16), (by rfl), H', ⟨Nat.le_refl _⟩, ⟨by exact kM_ (kG_ (kT_ HO_3.out BK161.out (by decide))) (fun _ hk => trivial)⟩, ⟨by exact kM_ (kG_ (kT_ HO160.out BK161.out (by decide))) (fun _ hk => trivial)⟩, ⟨by exact br_ NB149_161.out (BK149.out)⟩, ⟨by refine bP_ (cs := #[.slice none 0 0]) ?_ 0 _ rfl; exact BK161.out⟩, ⟨by repeat with_reducible first | exact HB.out | apply bA_ | apply bN_ | apply bD_ | refine bS_ ?_ (Aside0.out ‹_›)⟩⟩
  clear H'
  try clear p1
  try clear q1
  try clear hx1
  try clear p2
  try clear c5b0
  try clear c6b0
  try clear p6
  try clear c7b0
  try clear c8b0
  try clear c9b0
  try clear c9b1
  try clear c10b0
  try clear p15
  try clear q15
  try clear hx15
  try clear hcz19_0
  try clear hfz19_0
  try clear hx153_0
  try clear hx154_0
  try clear p153
  try clear p154
  try clear p2
  try clear q153
  try clear q154
  obtain ⟨x7_2, x162000_2, u162000, rfl, HA, HK2, HO_3, HO_162000, BK149, BK161, HB⟩ := hrel
  cases gk with
  | zero => exact absurd HA.out (by simp [sF58.l2])
  | succ k2 =>
   have H := HA.out
   clear HA
   simp only [sF58.l2] at H
   by_cases c20 : x7_2 < (x3_1.length : Int)
   rotate_left
   ·
    rw [if_neg c20] at H
    have c20b0 := dF_ c20
    clear c20
    obtain rfl := Option.some.inj H
    obtain ⟨Ao53, co53, eo53⟩ := kS_ HO_3.out
    subst eo53
    have hnb54 := NB161_149.out
    have hnc54 := NB149_161.out
    have hcz55_0 := c0_ BK161
    have hfz55_0 := bF_ BK161.out 0
    obtain ⟨Ao56, co56, eo56⟩ := kS_ HO_162000.out
    subst eo56
    have hcz57_0 := c0_ BK149
    have hfz57_0 := bF_ BK149.out 0
    go_wp2
    refine bodyPost_ret (results_cell_row rfl _ _ gb149 28 #[.slice Ao56 x162000_2.length co56] (0, 0) _ rfl (by refine bP_ (cs := #[.slice none 0 0]) ?_ 0 _ rfl; exact BK149.out) Tryz.underlying28 rfl (by kernel_rfl)) rfl ?_
    exact ⟨_, by rfl, by exact kM_ (kG_ (kT_ HO_162000.out BK149.out (by decide))) (fun _ hk => trivial), by repeat with_reducible first | exact HB.out | apply bA_ | apply bN_ | apply bD_ | refine bS_ ?_ (Aside0.out ‹_›)⟩
   rw [if_pos c20] at H
   have c20b0 := dT_ c20
   clear c20
   by_cases c21 : 0 ≤ x7_2
   rotate_left
   ·
    rw [if_neg c21] at H
    exact absurd H (by simp)
   rw [if_pos c21] at H
   have c21b0 := dT_ c21
   clear c21
   replace H := oB_.mp H
   obtain ⟨t163, A220, H⟩ := H
   try dsimp only at H
   have A22 := aM_ A220
   clear A220
   by_cases c23 : x7_2 > 0
   rotate_left
   ·
    rw [if_neg c23] at H
    have c23b0 := dF_ c23
    clear c23
    by_cases c42 : x162000_2.length < 5864062014805
    rotate_left
    ·
     rw [if_neg c42] at H
     exact absurd H (by simp)
    rw [if_pos c42] at H
    have LMc42 := aM_ c42
    clear c42
    obtain ⟨y169, hy169⟩ : ∃ y_ : List (S96), y_ = (x162000_2 ++ [(⟨(-1), (-1), t163⟩ : S96)]) := ⟨_, rfl⟩
    replace H : (sF58.l2 k2 l0 x3_1 (wrap64 (x7_2 + 1)) y169) = some r := by (try rw [hy169]); first | with_reducible exact H | with_reducible exact oS_ H | exact H
    have Ny169 := aM_ hy169
    clear hy169
    have H' := aM_ H
    clear H
    obtain ⟨Ao43, co43, eo43⟩ := kS_ HO_3.out
    subst eo43
    have p162 : 0 ≤ (x7_2 : Int) := oD_ ‹_›
    have q162 : x7_2 < (x3_1.length : Int) := oD_ ‹_›
    obtain ⟨ad162, e162, hx162_0⟩ := Kd.at_string (kR_ HO_3.out).2.2 x7_2 p162 q162
    cases e162
    replace p162 := eq_true p162
    replace q162 := eq_true q162
    go_wp2_with (first | (refine gs_ 48 Tryz.func79 #[.slice A0 l0.length c0, .string (rdOf eB_ x3_1 x7_2)] ?_; (with_reducible refine (sF57.calls k2 _ _ l0 (rdOf eB_ x3_1 x7_2) t163 _ ?side1 HC0.out A22.out).mono ?_); (case side1 => repeat (first | exact (k4_ HR0.out HB.out) | with_reducible first | apply cA_ | apply cN_ | apply cD_)); rintro e w' ⟨rfl, ⟨nd, rfl⟩⟩; refine ⟨_, rfl, ?_⟩; (try (rw [drewN_self wr]; generalize hq_ : World.drewN wr _ = wr; have n0_ : Aside0 (Kd.R k96 96 wr w.heap.size (fun _ => True) u162000 x162000_2) := ⟨by rw [← hq_]; exact (by (with_reducible repeat (first | apply k1_ | apply k2_ | apply k3_)); exact HO_162000.out)⟩; have n1_ : Aside0 (Kd.R Kd.string 9 wr w.heap.size (fun _ => True) (.slice (some ad162) x3_1.length co43) x3_1) := ⟨by rw [← hq_]; exact (by (with_reducible repeat (first | apply k1_ | apply k2_ | apply k3_)); exact HO_3.out)⟩; have n2_ : Aside0 (wr.heap[gb149]? = some (.cells #[.slice none 0 0] 28 (0, 0))) := ⟨by rw [← hq_]; exact (by (with_reducible repeat (first | refine b2_ ?_ _ | refine b1_ ?_ | refine b3_ ?_ _)); exact BK149.out)⟩; have n3_ : Aside0 (wr.heap[gb161]? = some (.cells #[u162000] 28 (0, 0))) := ⟨by rw [← hq_]; exact (by (with_reducible repeat (first | refine b2_ ?_ _ | refine b1_ ?_ | refine b3_ ?_ _)); exact BK161.out)⟩; have n4_ : Aside0 (Below w.heap.size w wr) := ⟨by rw [← hq_]; exact (by repeat with_reducible first | exact HB.out | apply bA_ | apply bN_ | apply bD_ | refine bS_ ?_ (Aside0.out ‹_›))⟩; clear HO_162000 HO_3 BK149 BK161 HB hq_; have HO_162000 := n0_; have HO_3 := n1_; have BK149 := n2_; have BK161 := n3_; have HB := n4_; clear n0_ n1_ n2_ n3_ n4_))) | (refine bx_ 9 #[.int .i64 0, .int .i64 0, .bool false] 96 ?_; intro gb164 hg w44 hbox hb; replace HO_3 := k9_ HO_3 hb; replace HO_162000 := aM_ (kB_ (Kd.R_elderB HO_162000.out gb164 (Nat.le_of_eq hg.symm)) hb); have BK164 := aM_ (hbox); have GW164 := gw_ hg HB; replace HB := b4_ HB hb; have NB149_164 := nb_ hg BK149; have NB164_149 := ns_ NB149_164; replace BK149 := b5_ BK149 hb; have NB161_164 := nb_ hg BK161; have NB164_161 := ns_ NB161_164; replace BK161 := b5_ BK161 hb; clear hb hbox hg; have hnb45 := NB164_149.out; have hnc45 := NB149_164.out; have hnb46 := NB164_161.out; have hnc46 := NB161_164.out; have hcz47_0 := c0_ BK164; have hcz47_1 := c1_ BK164; have hcz47_2 := c2_ BK164; have hfz47_0 := bF_ BK164.out 0; have hfz47_1 := bF_ BK164.out 1; have hfz47_2 := bF_ BK164.out 2; have hnb48 := NB161_149.out; have hnc48 := NB149_161.out; have hcz49_0 := c0_ BK161; have hfz49_0 := bF_ BK161.out 0) | ((with_reducible refine gate_builtin (b := .append) (xs := #[.tmp 69, .tmp 71]) rfl ?_); at_builtin; refine Kd.R_append k96 (w0 := w) w.heap.size rfl (.tmp 69) (.tmp 71) 26 96 (.agg #[(.int .i64 0), (.int .i64 0), (.bool false)]) 24 rfl Tryz.underlying26 info96 rfl (by decide) (by omega) u162000 x162000_2 (⟨(-1), (-1), t163⟩ : S96) [.int .i64 (-1), .int .i64 (-1), .bool t163] (fun k_ => k_ ≠ gb164) (fun _ => False) rfl (by (go_simp; done)) ?aP (fun _ hk => hk.elim) ?aF ?aO ?aB ?aS ?aL ?_; (case aP => exact k96_mkM _ _ _ (⟨(-1), (-1), t163⟩ : S96)); (case aB => exact (by repeat with_reducible first | exact HB.out | apply bA_ | apply bN_ | apply bD_ | refine bS_ ?_ (Aside0.out ‹_›))); (case aF => exact (fun k_ hk => Kd.freshB (g := gb164) (o := .cells #[.int .i64 (-1), .int .i64 (-1), .bool t163] 96 (0, 0)) (by refine bP_ (cs := #[.int .i64 (-1), .int .i64 (-1), .bool false]) ?_ 2 _ rfl; refine bP_ (cs := #[.int .i64 (-1), .int .i64 0, .bool false]) ?_ 1 _ rfl; refine bP_ (cs := #[.int .i64 0, .int .i64 0, .bool false]) ?_ 0 _ rfl; exact BK164.out) k_ hk)); (case aO => exact (by exact kM_ (kF_ (p := ⟨gb164, 2, none⟩) (kF_ (p := ⟨gb164, 1, none⟩) (kF_ (p := ⟨gb164, 0, none⟩) (kM_ HO_162000.out (fun k_ hk => (⟨hk, hk.2⟩ : _ ∧ k_ ≠ gb164))) (fun _ hk => hk.2) (.int .i64 (-1))) (fun _ hk => hk.2) (.int .i64 (-1))) (fun _ hk => hk.2) (.bool t163)) (fun _ hk => hk.1.2))); (case aS => exact (bZ_ (by repeat with_reducible first | exact HB.out | apply bA_ | apply bN_ | apply bD_ | refine bS_ ?_ (Aside0.out ‹_›)))); (case aL => have := LMc42.out; omega); intro v170 w50 ho hb hg hat; rw [← Ny169.out] at ho; have n0_ := aM_ (Kd.R_over' (by exact (kM_ (kG_ (kG_ (kG_ (kT_ HO_3.out BK164.out (by decide))))) (fun _ h_ => h_.1))) (Kd.R_typed (by exact (kM_ (kF_ (p := ⟨gb164, 2, none⟩) (kF_ (p := ⟨gb164, 1, none⟩) (kF_ (p := ⟨gb164, 0, none⟩) (kM_ HO_162000.out (fun k_ hk => (⟨hk, hk.2⟩ : _ ∧ k_ ≠ gb164))) (fun _ hk => hk.2) (.int .i64 (-1))) (fun _ hk => hk.2) (.int .i64 (-1))) (fun _ hk => hk.2) (.bool t163)) (fun _ h_ => h_.1)))) (by decide) hg); have n1_ := aM_ (blk_grown (g := gb149) (o := .cells #[.slice none 0 0] 28 (0, 0)) (by exact br_ NB149_164.out (br_ NB149_164.out (br_ NB149_164.out (BK149.out)))) hg (k6_ HO_162000.out BK149.out (by decide))); have n2_ := aM_ (blk_grown (g := gb161) (o := .cells #[u162000] 28 (0, 0)) (by exact br_ NB161_164.out (br_ NB161_164.out (br_ NB161_164.out (BK161.out)))) hg (k6_ HO_162000.out BK161.out (by decide))); have n3_ := aM_ (blk_grown (g := gb164) (o := .cells #[.int .i64 (-1), .int .i64 (-1), .bool t163] 96 (0, 0)) (by refine bP_ (cs := #[.int .i64 (-1), .int .i64 (-1), .bool false]) ?_ 2 _ rfl; refine bP_ (cs := #[.int .i64 (-1), .int .i64 0, .bool false]) ?_ 1 _ rfl; refine bP_ (cs := #[.int .i64 0, .int .i64 0, .bool false]) ?_ 0 _ rfl; exact BK164.out) hg (Kd.R_away HO_162000.out (fun _ hk => hk.2))); have n4_ := aM_ (hb); have n5_ := aM_ (ho); clear HO_3; clear BK149; clear BK161; clear BK164; clear HB; clear HO_162000; have HO_3 := n0_; have BK149 := n1_; have BK161 := n2_; have BK164 := n3_; have HB := n4_; have HO171 := n5_; clear n0_ n1_ n2_ n3_ n4_ n5_; clear ho hb hg hat; obtain ⟨Ao51, co51, eo51⟩ := kS_ HO171.out; subst eo51; have hcz52_0 := c0_ BK161; have hfz52_0 := bF_ BK161.out 0))
    go_roundg k2
    case measure => have := HK1.out; have := HK2.out; omega
    case rel => exact ⟨(wrap64 (x7_2 + 1)), (y169), (.slice Ao51 y169.length co51), (by rfl), H', ⟨by have := HK1.out; have := HK2.out; omega⟩, ⟨by exact kM_ (kG_ (kT_ HO_3.out BK161.out (by decide))) (fun _ hk => trivial)⟩, ⟨by exact kM_ (kG_ (kT_ HO171.out BK161.out (by decide))) (fun _ hk => trivial)⟩, ⟨by exact br_ NB149_161.out (BK149.out)⟩, ⟨by refine bP_ (cs := #[u162000]) ?_ 0 _ rfl; exact BK161.out⟩, ⟨by repeat with_reducible first | exact HB.out | apply bA_ | apply bN_ | apply bD_ | refine bS_ ?_ (Aside0.out ‹_›)⟩⟩
   rw [if_pos c23] at H
   have c23b0 := dT_ c23
   clear c23
   obtain ⟨ji24, hji24⟩ : ∃ j_ : Int, (wrap64 (((rdOf eB_ x3_1 x7_2).size : Int) - 1)) = j_ := ⟨_, rfl⟩
   replace H : (if 0 ≤ (ji24) then (if (ji24) < ((rdOf eB_ x3_1 x7_2).size : Int) then (if (ji24) ≤ ((rdOf eB_ x3_1 x7_2).size : Int) then ((sF60.f k2 x3_1 ((rdOf eB_ x3_1 x7_2).extract 0 ((ji24) : Int).toNat)).bind fun t165 => (if x162000_2.length < 5864062014805 then (sF58.l2 k2 l0 x3_1 (wrap64 (x7_2 + 1)) (x162000_2 ++ [(⟨((bt (rdOf eB_ x3_1 x7_2) (ji24)) - 97) % 256, t165, t163⟩ : S96)])) else (none))) else (none)) else (none)) else (none)) = some r := by first | (rw [hji24] at H; exact H) | (simp only [hji24] at H ⊢; exact H)
   (try rw [hji24] at A22)
   have hji24w : (IntKind.i64.wrap (((rdOf eB_ x3_1 x7_2).size : Int) - 1)) = ji24 := (i6_ _).trans hji24
   by_cases c25 : 0 ≤ (ji24)
   rotate_left
   ·
    rw [if_neg c25] at H
    exact absurd H (by simp)
   rw [if_pos c25] at H
   have c25b0 := dT_ c25
   clear c25
   by_cases c26 : (ji24) < ((rdOf eB_ x3_1 x7_2).size : Int)
   rotate_left
   ·
    rw [if_neg c26] at H
    exact absurd H (by simp)
   rw [if_pos c26] at H
   have c26b0 := dT_ c26
   clear c26
   have c28b0 := eq_true (oD_ ‹_› : 0 ≤ (ji24))
   by_cases c29 : (ji24) ≤ ((rdOf eB_ x3_1 x7_2).size : Int)
   rotate_left
   ·
    rw [if_neg c29] at H
    exact absurd H (by simp)
   rw [if_pos c29] at H
   have c29b0 := eq_true c29
   have c29b1 := dT_ c29
   clear c29
   replace H := oB_.mp H
   obtain ⟨t165, A300, H⟩ := H
   try dsimp only at H
   have A30 := aM_ A300
   clear A300
   by_cases c31 : x162000_2.length < 5864062014805
   rotate_left
   ·
    rw [if_neg c31] at H
    exact absurd H (by simp)
   rw [if_pos c31] at H
   have LMc31 := aM_ c31
   clear c31
   obtain ⟨y166, hy166⟩ : ∃ y_ : List (S96), y_ = (x162000_2 ++ [(⟨((bt (rdOf eB_ x3_1 x7_2) (ji24)) - 97) % 256, t165, t163⟩ : S96)]) := ⟨_, rfl⟩
   replace H : (sF58.l2 k2 l0 x3_1 (wrap64 (x7_2 + 1)) y166) = some r := by (try rw [hy166]); first | with_reducible exact H | with_reducible exact oS_ H | exact H
   have Ny166 := aM_ hy166
   clear hy166
   have H' := aM_ H
   clear H
   obtain ⟨Ao32, co32, eo32⟩ := kS_ HO_3.out
   subst eo32
   have p162 : 0 ≤ (x7_2 : Int) := oD_ ‹_›
   have q162 : x7_2 < (x3_1.length : Int) := oD_ ‹_›
   obtain ⟨ad162, e162, hx162_0⟩ := Kd.at_string (kR_ HO_3.out).2.2 x7_2 p162 q162
   cases e162
   replace p162 := eq_true p162
   replace q162 := eq_true q162
   go_wp2_with (first | (refine gs_ 48 Tryz.func79 #[.slice A0 l0.length c0, .string (rdOf eB_ x3_1 x7_2)] ?_; (with_reducible refine (sF57.calls k2 _ _ l0 (rdOf eB_ x3_1 x7_2) t163 _ ?side1 HC0.out A22.out).mono ?_); (case side1 => repeat (first | exact (k4_ HR0.out HB.out) | with_reducible first | apply cA_ | apply cN_ | apply cD_)); rintro e w' ⟨rfl, ⟨nd, rfl⟩⟩; refine ⟨_, rfl, ?_⟩; (try (rw [drewN_self wr]; generalize hq_ : World.drewN wr _ = wr; have n0_ : Aside0 (Kd.R k96 96 wr w.heap.size (fun _ => True) u162000 x162000_2) := ⟨by rw [← hq_]; exact (by (with_reducible repeat (first | apply k1_ | apply k2_ | apply k3_)); exact HO_162000.out)⟩; have n1_ : Aside0 (Kd.R Kd.string 9 wr w.heap.size (fun _ => True) (.slice (some ad162) x3_1.length co32) x3_1) := ⟨by rw [← hq_]; exact (by (with_reducible repeat (first | apply k1_ | apply k2_ | apply k3_)); exact HO_3.out)⟩; have n2_ : Aside0 (wr.heap[gb149]? = some (.cells #[.slice none 0 0] 28 (0, 0))) := ⟨by rw [← hq_]; exact (by (with_reducible repeat (first | refine b2_ ?_ _ | refine b1_ ?_ | refine b3_ ?_ _)); exact BK149.out)⟩; have n3_ : Aside0 (wr.heap[gb161]? = some (.cells #[u162000] 28 (0, 0))) := ⟨by rw [← hq_]; exact (by (with_reducible repeat (first | refine b2_ ?_ _ | refine b1_ ?_ | refine b3_ ?_ _)); exact BK161.out)⟩; have n4_ : Aside0 (Below w.heap.size w wr) := ⟨by rw [← hq_]; exact (by repeat with_reducible first | exact HB.out | apply bA_ | apply bN_ | apply bD_ | refine bS_ ?_ (Aside0.out ‹_›))⟩; clear HO_162000 HO_3 BK149 BK161 HB hq_; have HO_162000 := n0_; have HO_3 := n1_; have BK149 := n2_; have BK161 := n3_; have HB := n4_; clear n0_ n1_ n2_ n3_ n4_))) | (refine bx_ 9 #[.int .i64 0, .int .i64 0, .bool false] 96 ?_; intro gb164 hg w33 hbox hb; replace HO_3 := k9_ HO_3 hb; replace HO_162000 := aM_ (kB_ (Kd.R_elderB HO_162000.out gb164 (Nat.le_of_eq hg.symm)) hb); have BK164 := aM_ (hbox); have GW164 := gw_ hg HB; replace HB := b4_ HB hb; have NB149_164 := nb_ hg BK149; have NB164_149 := ns_ NB149_164; replace BK149 := b5_ BK149 hb; have NB161_164 := nb_ hg BK161; have NB164_161 := ns_ NB161_164; replace BK161 := b5_ BK161 hb; clear hb hbox hg; have hnb34 := NB164_149.out; have hnc34 := NB149_164.out; have hnb35 := NB164_161.out; have hnc35 := NB161_164.out; have hcz36_0 := c0_ BK164; have hcz36_1 := c1_ BK164; have hcz36_2 := c2_ BK164; have hfz36_0 := bF_ BK164.out 0; have hfz36_1 := bF_ BK164.out 1; have hfz36_2 := bF_ BK164.out 2; have p27 : 0 ≤ ((ji24) : Int) := oD_ ‹_›; have q27 : (ji24) < ((rdOf eB_ x3_1 x7_2).size : Int) := oD_ ‹_›; have hx27 := bt_at (rdOf eB_ x3_1 x7_2) (ji24); replace p27 := eq_true p27; replace q27 := eq_true q27) | (refine gs_ 66 Tryz.func65 #[.slice (some ad162) x3_1.length co32, .string ((rdOf eB_ x3_1 x7_2).extract 0 ((ji24) : Int).toNat)] ?_; (with_reducible refine (sF60.calls k2 _ _ x3_1 ((rdOf eB_ x3_1 x7_2).extract 0 ((ji24) : Int).toNat) t165 _ ?side1 ?side2 A30.out).mono ?_); (case side1 => refine (kR_ (e := 9) (base := w.heap.size) (ok := fun k_ => True) (n := x3_1.length) (c := co32) ?_).2.2; exact (by exact (kM_ (kG_ (kG_ (kG_ (kG_ (kT_ HO_3.out BK164.out (by decide)))))) (fun _ h_ => h_.1)))); (case side2 => exact (kR_ HO_3.out).2.1); rintro e w' ⟨rfl, ⟨nd, rfl⟩⟩; refine ⟨_, rfl, ?_⟩; have m0_ : Aside0 (Kd.R Kd.string 9 (((((w33.setCell ⟨gb164, 0, none⟩ (.int .i64 (-1))).setCell ⟨gb164, 1, none⟩ (.int .i64 (-1))).setCell ⟨gb164, 2, none⟩ (.bool t163)).setCell ⟨gb164, 0, none⟩ (.int .i64 (((bt (rdOf eB_ x3_1 x7_2) (ji24)) - 97) % 256))).drewN nd) w.heap.size (fun _ => True) (.slice (some ad162) x3_1.length co32) x3_1) := ⟨by (with_reducible repeat (first | apply k1_ | apply k2_ | apply k3_)); exact kM_ (kG_ (kG_ (kG_ (kG_ (kT_ HO_3.out BK164.out (by decide)))))) (fun _ _ => trivial)⟩; have m1_ : Aside0 (Kd.R k96 96 (((((w33.setCell ⟨gb164, 0, none⟩ (.int .i64 (-1))).setCell ⟨gb164, 1, none⟩ (.int .i64 (-1))).setCell ⟨gb164, 2, none⟩ (.bool t163)).setCell ⟨gb164, 0, none⟩ (.int .i64 (((bt (rdOf eB_ x3_1 x7_2) (ji24)) - 97) % 256))).drewN nd) w.heap.size (fun k_ => True ∧ k_ ≠ gb164) u162000 x162000_2) := ⟨by (with_reducible repeat (first | apply k1_ | apply k2_ | apply k3_)); exact kM_ (kF_ (p := ⟨gb164, 0, none⟩) (kF_ (p := ⟨gb164, 2, none⟩) (kF_ (p := ⟨gb164, 1, none⟩) (kF_ (p := ⟨gb164, 0, none⟩) (kM_ HO_162000.out (fun k_ hk => (⟨hk, hk.2⟩ : _ ∧ k_ ≠ gb164))) (fun _ hk => hk.2) (.int .i64 (-1))) (fun _ hk => hk.2) (.int .i64 (-1))) (fun _ hk => hk.2) (.bool t163)) (fun _ hk => hk.2) (.int .i64 (((bt (rdOf eB_ x3_1 x7_2) (ji24)) - 97) % 256))) (fun _ hk => ⟨trivial, hk.2⟩)⟩; have m2_ : Aside0 ((((((w33.setCell ⟨gb164, 0, none⟩ (.int .i64 (-1))).setCell ⟨gb164, 1, none⟩ (.int .i64 (-1))).setCell ⟨gb164, 2, none⟩ (.bool t163)).setCell ⟨gb164, 0, none⟩ (.int .i64 (((bt (rdOf eB_ x3_1 x7_2) (ji24)) - 97) % 256))).drewN nd).heap[gb149]? = some (.cells #[.slice none 0 0] 28 (0, 0))) := ⟨by (with_reducible repeat (first | refine b2_ ?_ _ | refine b1_ ?_ | refine b3_ ?_ _)); exact br_ NB149_164.out (br_ NB149_164.out (br_ NB149_164.out (br_ NB149_164.out (BK149.out))))⟩; have m3_ : Aside0 ((((((w33.setCell ⟨gb164, 0, none⟩ (.int .i64 (-1))).setCell ⟨gb164, 1, none⟩ (.int .i64 (-1))).setCell ⟨gb164, 2, none⟩ (.bool t163)).setCell ⟨gb164, 0, none⟩ (.int .i64 (((bt (rdOf eB_ x3_1 x7_2) (ji24)) - 97) % 256))).drewN nd).heap[gb161]? = some (.cells #[u162000] 28 (0, 0))) := ⟨by (with_reducible repeat (first | refine b2_ ?_ _ | refine b1_ ?_ | refine b3_ ?_ _)); exact br_ NB161_164.out (br_ NB161_164.out (br_ NB161_164.out (br_ NB161_164.out (BK161.out))))⟩; have m4_ : Aside0 ((((((w33.setCell ⟨gb164, 0, none⟩ (.int .i64 (-1))).setCell ⟨gb164, 1, none⟩ (.int .i64 (-1))).setCell ⟨gb164, 2, none⟩ (.bool t163)).setCell ⟨gb164, 0, none⟩ (.int .i64 (((bt (rdOf eB_ x3_1 x7_2) (ji24)) - 97) % 256))).drewN nd).heap[gb164]? = some (.cells #[.int .i64 (((bt (rdOf eB_ x3_1 x7_2) (ji24)) - 97) % 256), .int .i64 (-1), .bool t163] 96 (0, 0))) := ⟨by (with_reducible repeat (first | refine b2_ ?_ _ | refine b1_ ?_ | refine b3_ ?_ _)); refine bP_ (cs := #[.int .i64 (-1), .int .i64 (-1), .bool t163]) ?_ 0 _ rfl; refine bP_ (cs := #[.int .i64 (-1), .int .i64 (-1), .bool false]) ?_ 2 _ rfl; refine bP_ (cs := #[.int .i64 (-1), .int .i64 0, .bool false]) ?_ 1 _ rfl; refine bP_ (cs := #[.int .i64 0, .int .i64 0, .bool false]) ?_ 0 _ rfl; exact BK164.out⟩; have m5_ : Aside0 (Below w.heap.size w (((((w33.setCell ⟨gb164, 0, none⟩ (.int .i64 (-1))).setCell ⟨gb164, 1, none⟩ (.int .i64 (-1))).setCell ⟨gb164, 2, none⟩ (.bool t163)).setCell ⟨gb164, 0, none⟩ (.int .i64 (((bt (rdOf eB_ x3_1 x7_2) (ji24)) - 97) % 256))).drewN nd)) := ⟨by repeat with_reducible first | exact HB.out | apply bA_ | apply bN_ | apply bD_ | refine bS_ ?_ (Aside0.out ‹_›)⟩; clear HO_3 HO_162000 BK149 BK161 BK164 HB; generalize (((((w33.setCell ⟨gb164, 0, none⟩ (.int .i64 (-1))).setCell ⟨gb164, 1, none⟩ (.int .i64 (-1))).setCell ⟨gb164, 2, none⟩ (.bool t163)).setCell ⟨gb164, 0, none⟩ (.int .i64 (((bt (rdOf eB_ x3_1 x7_2) (ji24)) - 97) % 256))).drewN nd) = w339 at m0_ m1_ m2_ m3_ m4_ m5_ ⊢; have HO_3 := m0_; have HO_162000 := m1_; have BK149 := m2_; have BK161 := m3_; have BK164 := m4_; have HB := m5_; clear m0_ m1_ m2_ m3_ m4_ m5_; have hczz_0 := c0_ BK164; have hfzz_0 := bF_ BK164.out 0; have hczz_1 := c1_ BK164; have hfzz_1 := bF_ BK164.out 1; have hczz_2 := c2_ BK164; have hfzz_2 := bF_ BK164.out 2; have hnb37 := NB161_149.out; have hnc37 := NB149_161.out; have hcz38_0 := c0_ BK161; have hfz38_0 := bF_ BK161.out 0) | ((with_reducible refine gate_builtin (b := .append) (xs := #[.tmp 69, .tmp 71]) rfl ?_); at_builtin; refine Kd.R_append k96 (w0 := w) w.heap.size rfl (.tmp 69) (.tmp 71) 26 96 (.agg #[(.int .i64 0), (.int .i64 0), (.bool false)]) 24 rfl Tryz.underlying26 info96 rfl (by decide) (by omega) u162000 x162000_2 (⟨((bt (rdOf eB_ x3_1 x7_2) (ji24)) - 97) % 256, t165, t163⟩ : S96) [.int .i64 (((bt (rdOf eB_ x3_1 x7_2) (ji24)) - 97) % 256), .int .i64 t165, .bool t163] (fun k_ => k_ ≠ gb164) (fun _ => False) rfl (by (go_simp; done)) ?aP (fun _ hk => hk.elim) ?aF ?aO ?aB ?aS ?aL ?_; (case aP => exact k96_mkM _ _ _ (⟨((bt (rdOf eB_ x3_1 x7_2) (ji24)) - 97) % 256, t165, t163⟩ : S96)); (case aB => exact (by repeat with_reducible first | exact HB.out | apply bA_ | apply bN_ | apply bD_ | refine bS_ ?_ (Aside0.out ‹_›))); (case aF => exact (fun k_ hk => Kd.freshB (g := gb164) (o := .cells #[.int .i64 (((bt (rdOf eB_ x3_1 x7_2) (ji24)) - 97) % 256), .int .i64 t165, .bool t163] 96 (0, 0)) (by refine bP_ (cs := #[.int .i64 (((bt (rdOf eB_ x3_1 x7_2) (ji24)) - 97) % 256), .int .i64 (-1), .bool t163]) ?_ 1 _ rfl; exact BK164.out) k_ hk)); (case aO => exact (by exact kM_ (kF_ (p := ⟨gb164, 1, none⟩) (kM_ HO_162000.out (fun k_ hk => (⟨hk, hk.2⟩ : _ ∧ k_ ≠ gb164))) (fun _ hk => hk.2) (.int .i64 t165)) (fun _ hk => hk.1.2))); (case aS => exact (bZ_ (by repeat with_reducible first | exact HB.out | apply bA_ | apply bN_ | apply bD_ | refine bS_ ?_ (Aside0.out ‹_›)))); (case aL => have := LMc31.out; omega); intro v167 w39 ho hb hg hat; rw [← Ny166.out] at ho; have n0_ := aM_ (Kd.R_over' (by exact (kM_ (kG_ (kT_ HO_3.out BK164.out (by decide))) (fun _ h_ => h_.1))) (Kd.R_typed (by exact (kM_ (kF_ (p := ⟨gb164, 1, none⟩) (kM_ HO_162000.out (fun k_ hk => (⟨hk, hk.2⟩ : _ ∧ k_ ≠ gb164))) (fun _ hk => hk.2) (.int .i64 t165)) (fun _ h_ => h_.1)))) (by decide) hg); have n1_ := aM_ (blk_grown (g := gb149) (o := .cells #[.slice none 0 0] 28 (0, 0)) (by exact br_ NB149_164.out (BK149.out)) hg (k6_ HO_162000.out BK149.out (by decide))); have n2_ := aM_ (blk_grown (g := gb161) (o := .cells #[u162000] 28 (0, 0)) (by exact br_ NB161_164.out (BK161.out)) hg (k6_ HO_162000.out BK161.out (by decide))); have n3_ := aM_ (blk_grown (g := gb164) (o := .cells #[.int .i64 (((bt (rdOf eB_ x3_1 x7_2) (ji24)) - 97) % 256), .int .i64 t165, .bool t163] 96 (0, 0)) (by refine bP_ (cs := #[.int .i64 (((bt (rdOf eB_ x3_1 x7_2) (ji24)) - 97) % 256), .int .i64 (-1), .bool t163]) ?_ 1 _ rfl; exact BK164.out) hg (Kd.R_away HO_162000.out (fun _ hk => hk.2))); have n4_ := aM_ (hb); have n5_ := aM_ (ho); clear HO_3; clear BK149; clear BK161; clear BK164; clear HB; clear HO_162000; have HO_3 := n0_; have BK149 := n1_; have BK161 := n2_; have BK164 := n3_; have HB := n4_; have HO168 := n5_; clear n0_ n1_ n2_ n3_ n4_ n5_; clear ho hb hg hat; obtain ⟨Ao40, co40, eo40⟩ := kS_ HO168.out; subst eo40; have hcz41_0 := c0_ BK161; have hfz41_0 := bF_ BK161.out 0))
   go_roundg k2
   case measure => have := HK1.out; have := HK2.out; omega
   case rel => exact ⟨(wrap64 (x7_2 + 1)), (y166), (.slice Ao40 y166.length co40), (by rfl), H', ⟨by have := HK1.out; have := HK2.out; omega⟩, ⟨by exact kM_ (kG_ (kT_ HO_3.out BK161.out (by decide))) (fun _ hk => trivial)⟩, ⟨by exact kM_ (kG_ (kT_ HO168.out BK161.out (by decide))) (fun _ hk => trivial)⟩, ⟨by exact br_ NB149_161.out (BK149.out)⟩, ⟨by refine bP_ (cs := #[u162000]) ?_ 0 _ rfl; exact BK161.out⟩, ⟨by repeat with_reducible first | exact HB.out | apply bA_ | apply bN_ | apply bD_ | refine bS_ ?_ (Aside0.out ‹_›)⟩⟩
def sF64.l0 : Nat → List ByteArray → List ByteArray → Int → Option (List ByteArray × Bool)
 | 0, _, _, _ => none
 | k + 1, x0, x4, x5 => if x5 < (x0.length : Int) then (if 0 ≤ x5 then ((sF65.f k (rdOf eB_ x0 x5)).bind fun t198 => (if t198 = true then ((sF61.f x4 (rdOf eB_ x0 x5)).bind fun t200 => (sF64.l0 k x0 t200 (wrap64 (x5 + 1)))) else (some ((([] : List ByteArray)), false)))) else (none)) else (some (x4, decide ((x4.length : Int) ≤ 40)))
def sF64.f (k : Nat) (l0 : List ByteArray) : Option (List ByteArray × Bool) := sF64.l0 k l0 (([] : List ByteArray)) 0
theorem sF64.mono_l : ∀ k, (∀ y0 y1 y2, LeO (sF64.l0 k y0 y1 y2) (sF64.l0 (k + 1) y0 y1 y2))
 | 0 => fun _ _ _ r h => by simp [sF64.l0] at h
 | k + 1 => by
  have ih0 := sF64.mono_l k
  intro y0 y1 y2
  unfold sF64.l0
  repeat' with_reducible first | exact ih0 _ _ _ | exact sF65.mono _ _ | exact l3_ _ | exact l0_ _ | refine l2_ ?_ ?_ | refine l1_ ?_ (fun _ => ?_)
theorem sF64.mono : ∀ a0 k, LeO (sF64.f k a0) (sF64.f (k + 1) a0) := by
 intro a0 k
 have ih0 := sF64.mono_l k
 unfold sF64.f
 repeat' with_reducible first | exact ih0 _ _ _ | exact sF65.mono _ _ | exact l3_ _ | exact l0_ _ | refine l2_ ?_ ?_ | refine l1_ ?_ (fun _ => ?_)
theorem sF64.calls (k : Nat) (A0 : Option Addr) (c0 : Nat) (l0 : List ByteArray) (r1 : List ByteArray) (r2 : Bool) (w : World) (hr0 : Kd.C Kd.string w A0 l0.length l0) (hc0 : l0.length ≤ c0) (h : sF64.f k l0 = some (r1, r2)) :
  Calls Tryz.prog 75 #[.slice A0 l0.length c0] w fun e w' => ∃ v0_ : Value, e = .returned (.tuple #[v0_, .bool r2]) ∧ Kd.R Kd.string 9 w' w.heap.size (fun _ => True) v0_ r1 ∧ Below w.heap.size w w' := by
 have HR0 := aM_ hr0
 have HC0 := aM_ hc0
 clear hr0 hc0
 have HB := aM_ (Below.refl w.heap.size w)
 have H : (sF64.l0 k l0 (([] : List ByteArray)) 0) = some (r1, r2) := h
 clear h
 obtain ⟨y194, hy194⟩ : ∃ y_ : List ByteArray, y_ = (([] : List ByteArray)) := ⟨_, rfl⟩
 replace H : (sF64.l0 k l0 y194 0) = some (r1, r2) := by (try rw [hy194]); first | with_reducible exact H | with_reducible exact oS_ H | exact H
 have Ny194 := aM_ hy194
 clear hy194
 have H' := aM_ H
 clear H
 go_enter Tryz.func75, Tryz.ntmps75
 go_wp2_with (first | ((with_reducible refine gD_ (N := 6) rfl ?_); refine Kd.R_lit Kd.string _ 9 ?hg (N := 6) ?hd (xs := ([] : List ByteArray)) (inner := []) (ok := fun _ => True) (okp := fun _ => True) ?hr ?hp (fun _ hk => hk) trivial (Below.refl _ _) (Nat.le_refl _) (by simp) ?_; (case hd => rfl); (case hg => rfl); (case hr => (go_simp; done)); (case hp => exact (Reps.none _ _)); intro v195 w2 ho3 hb hg_ hnew_; clear hg_ hnew_; (rw [← Ny194.out] at ho3); have HO196 := aM_ (k5_ ho3 (bZ_ HB.out)); replace HB := b4_ HB hb; clear hb ho3))
 go_loopg [4, 5] k (fun kq v4 v5 w' => ∃ (x4_1 : List ByteArray) (x5_1 : Int), v5 = .int .i64 x5_1 ∧ Aside0 (sF64.l0 kq l0 x4_1 x5_1 = some (r1, r2)) ∧ Aside0 (kq ≤ k) ∧ Aside0 (Kd.R Kd.string 9 w' w.heap.size (fun _ => True) v4 x4_1) ∧ Aside0 (Below w.heap.size w w'))
 case atStart => exact ⟨(y194), (0), (by rfl), H', ⟨Nat.le_refl _⟩, ⟨HO196.out⟩, ⟨HB.out⟩⟩
 clear H'
 try clear p2
 obtain ⟨x4_1, x5_1, rfl, HA, HK1, HO_4, HB⟩ := hrel
 cases gk with
 | zero => exact absurd HA.out (by simp [sF64.l0])
 | succ k1 =>
  have H := HA.out
  clear HA
  simp only [sF64.l0] at H
  by_cases c4 : x5_1 < (l0.length : Int)
  rotate_left
  ·
   rw [if_neg c4] at H
   have c4b0 := dF_ c4
   clear c4
   simp only [Option.some.injEq, Prod.mk.injEq] at H
   obtain ⟨rfl, rfl⟩ := H
   obtain ⟨Ao13, co13, eo13⟩ := kS_ HO_4.out
   subst eo13
   go_wp2
   go_ret2
   exact ⟨_, by rfl, by exact HO_4.out, by exact HB.out⟩
  rw [if_pos c4] at H
  have c4b0 := dT_ c4
  clear c4
  by_cases c5 : 0 ≤ x5_1
  rotate_left
  ·
   rw [if_neg c5] at H
   exact absurd H (by simp)
  rw [if_pos c5] at H
  have c5b0 := dT_ c5
  clear c5
  replace H := oB_.mp H
  obtain ⟨t198, A60, H⟩ := H
  try dsimp only at H
  have A6 := aM_ A60
  clear A60
  by_cases c7 : t198 = true
  ·
   subst c7
   rw [if_pos rfl] at H
   replace H := oB_.mp H
   obtain ⟨t200, A80, H⟩ := H
   try dsimp only at H
   have A8 := aM_ A80
   clear A80
   have H' := aM_ H
   clear H
   have p197 : 0 ≤ (x5_1 : Int) := oD_ ‹_›
   have q197 : x5_1 < (l0.length : Int) := oD_ ‹_›
   obtain ⟨ad197, e197, hx197_0⟩ := Kd.at_string HR0.out x5_1 p197 q197
   cases e197
   replace hx197_0 := cb_ HB hx197_0
   replace p197 := eq_true p197
   replace q197 := eq_true q197
   go_wp2_with (first | (refine gs_ 17 Tryz.func58 #[.string (rdOf eB_ l0 x5_1)] ?_; (with_reducible refine (sF65.calls k1 (rdOf eB_ l0 x5_1) true _ A6.out).mono ?_); rintro e w' ⟨rfl, ⟨nd, rfl⟩⟩; refine ⟨_, rfl, ?_⟩; have p199 : 0 ≤ (x5_1 : Int) := oD_ ‹_›; have q199 : x5_1 < (l0.length : Int) := oD_ ‹_›; obtain ⟨ad199, e199, hx199_0⟩ := Kd.at_string HR0.out x5_1 p199 q199; obtain rfl : ad197 = ad199 := (by injection e199); replace hx199_0 := cb_ HB hx199_0; replace p199 := eq_true p199; replace q199 := eq_true q199; obtain ⟨Ao9, co9, eo9⟩ := kS_ HO_4.out; subst eo9) | (refine gs_ 25 Tryz.func78 #[.slice Ao9 x4_1.length co9, .string (rdOf eB_ l0 x5_1)] ?_; (with_reducible refine (sF61.calls (fun k_ => some k_ = (.slice Ao9 x4_1.length co9 : Value).ownBlock) (.slice Ao9 x4_1.length co9) x4_1 (rdOf eB_ l0 x5_1) t200 w _ ?side1 ?side2 A8.out).mono ?_); (case side1 => repeat with_reducible first | exact HB.out | apply bA_ | apply bN_ | apply bD_); (case side2 => exact Kd.R_tight rfl HO_4.out); rintro e w10 ⟨v201, rfl, ho0, hb, hkp⟩; refine ⟨_, rfl, ?_⟩; have n0_ := aM_ (kM_ (ok' := fun k_ => True) ho0 (fun k_ hk_ => trivial)); have n1_ := aM_ (hb); clear HB; clear HO_4; have HO202 := n0_; have HB := n1_; clear n0_ n1_; (try clear hb); (try clear hkp); (try clear ho0)))
   go_roundg k1
   case measure => have := HK1.out; omega
   case rel => exact ⟨(t200), (wrap64 (x5_1 + 1)), (by rfl), H', ⟨by have := HK1.out; omega⟩, ⟨HO202.out⟩, ⟨HB.out⟩⟩
  replace c7 := Bool.eq_false_iff.mpr c7
  subst c7
  replace H : (some ((([] : List ByteArray)), false)) = some (r1, r2) := by rw [if_neg (show ¬ (false = true) by decide)] at H; exact H
  obtain ⟨y203, hy203⟩ : ∃ y_ : List ByteArray, y_ = (([] : List ByteArray)) := ⟨_, rfl⟩
  replace H : (some (y203, false)) = some (r1, r2) := by (try rw [hy203]); first | with_reducible exact H | with_reducible exact oS_ H | exact H
  have Ny203 := aM_ hy203
  clear hy203
  simp only [Option.some.injEq, Prod.mk.injEq] at H
  obtain ⟨rfl, rfl⟩ := H
  have p197 : 0 ≤ (x5_1 : Int) := oD_ ‹_›
  have q197 : x5_1 < (l0.length : Int) := oD_ ‹_›
  obtain ⟨ad197, e197, hx197_0⟩ := Kd.at_string HR0.out x5_1 p197 q197
  cases e197
  replace hx197_0 := cb_ HB hx197_0
  replace p197 := eq_true p197
  replace q197 := eq_true q197
  go_wp2_with (first | (refine gs_ 17 Tryz.func58 #[.string (rdOf eB_ l0 x5_1)] ?_; (with_reducible refine (sF65.calls k1 (rdOf eB_ l0 x5_1) false _ A6.out).mono ?_); rintro e w' ⟨rfl, ⟨nd, rfl⟩⟩; refine ⟨_, rfl, ?_⟩) | ((with_reducible refine gD_ (N := 19) rfl ?_); refine Kd.R_lit Kd.string _ 9 ?hg (N := 19) ?hd (xs := ([] : List ByteArray)) (inner := []) (ok := fun _ => True) (okp := fun _ => True) ?hr ?hp (fun _ hk => hk) trivial (Below.refl _ _) (Nat.le_refl _) (by simp) ?_; (case hd => rfl); (case hg => rfl); (case hr => (go_simp; done)); (case hp => exact (Reps.none _ _)); intro v204 w11 ho12 hb hg_ hnew_; clear hg_ hnew_; (rw [← Ny203.out] at ho12); have HO205 := aM_ (k5_ (Kd.R_new' ho12 (Kd.R_lt (by (with_reducible repeat (first | apply k1_ | apply k2_ | apply k3_)); exact HO_4.out))) (bZ_ (by repeat with_reducible first | exact HB.out | apply bA_ | apply bN_ | apply bD_))); replace HO_4 := aM_ (Kd.R_elder' (by (with_reducible repeat (first | apply k1_ | apply k2_ | apply k3_)); exact HO_4.out) (Kd.R_base ho12) hb); replace HB := aM_ (bT_ (by repeat with_reducible first | exact HB.out | apply bA_ | apply bN_ | apply bD_) hb); clear hb ho12))
  go_ret2
  exact ⟨_, by rfl, by exact kM_ HO205.out (fun _ hk => trivial), by exact HB.out⟩
mutual
def sF72.l0 : Nat → Int → List (S72) → Option (Bool)
 | 0, _, _ => none
 | k + 1, x3, x291000 => if x3 < (x291000.length : Int) then (sF72.l1 k x3 0 x291000) else ((sF73.f k x291000 0 (⟨#[]⟩ : ByteArray) 0).bind fun bt298 => ((sF64.f k bt298.1).bind fun bt302 => (if bt302.2 = true then ((sF58.f k bt302.1).bind fun t306 => ((sF69.f k t306).bind fun t309 => ((sF70.f k t309 x291000).bind fun t312 => (some t312)))) else (some false))))
def sF72.l1 : Nat → Int → Int → List (S72) → Option (Bool)
 | 0, _, _, _ => none
 | k + 1, x3, x4, x291000 => if 0 ≤ x3 then (if x3 < (x291000.length : Int) then (if x4 < (((rd_T72 x291000 x3).f1).length : Int) then (if 0 ≤ x4 then ((sF54.f ((rd_T88 ((rd_T72 x291000 x3).f1) x4).f0) 0 25).bind fun t296 => (if t296 = true then ((sF54.f ((rd_T88 ((rd_T72 x291000 x3).f1) x4).f1) 0 (wrap64 ((x291000.length : Int) - 1))).bind fun t297 => (if t297 = true then (sF72.l1 k x3 (wrap64 (x4 + 1)) x291000) else (some false))) else (some false))) else (none)) else (sF72.l0 k (wrap64 (x3 + 1)) x291000)) else (none)) else (none)
end
def sF72.f (k : Nat) (l0_0 : List (S72)) : Option (Bool) := (sF54.f (l0_0.length : Int) 1 481).bind fun t291 => (if t291 = true then (sF72.l0 k 0 l0_0) else (some false))
theorem sF72.mono_l : ∀ k, (∀ y0 y1, LeO (sF72.l0 k y0 y1) (sF72.l0 (k + 1) y0 y1)) ∧ (∀ y0 y1 y2, LeO (sF72.l1 k y0 y1 y2) (sF72.l1 (k + 1) y0 y1 y2))
 | 0 => ⟨fun _ _ r h => by simp [sF72.l0] at h, fun _ _ _ r h => by simp [sF72.l1] at h⟩
 | k + 1 => by
  obtain ⟨ih0, ih1⟩ := sF72.mono_l k
  refine ⟨?_, ?_⟩
  ·
   intro y0 y1
   unfold sF72.l0
   repeat' with_reducible first | exact ih0 _ _ | exact ih1 _ _ _ | exact sF58.mono _ _ | exact sF64.mono _ _ | exact sF69.mono _ _ | exact sF70.mono _ _ _ | exact sF73.mono _ _ _ _ _ | exact l3_ _ | exact l0_ _ | refine l2_ ?_ ?_ | refine l1_ ?_ (fun _ => ?_)
  intro y0 y1 y2
  unfold sF72.l1
  repeat' with_reducible first | exact ih0 _ _ | exact ih1 _ _ _ | exact sF58.mono _ _ | exact sF64.mono _ _ | exact sF69.mono _ _ | exact sF70.mono _ _ _ | exact sF73.mono _ _ _ _ _ | exact l3_ _ | exact l0_ _ | refine l2_ ?_ ?_ | refine l1_ ?_ (fun _ => ?_)
theorem sF72.mono : ∀ a0 k, LeO (sF72.f k a0) (sF72.f (k + 1) a0) := by
 intro a0 k
 obtain ⟨ih0, ih1⟩ := sF72.mono_l k
 unfold sF72.f
 repeat' with_reducible first | exact ih0 _ _ | exact ih1 _ _ _ | exact sF58.mono _ _ | exact sF64.mono _ _ | exact sF69.mono _ _ | exact sF70.mono _ _ _ | exact sF73.mono _ _ _ _ _ | exact l3_ _ | exact l0_ _ | refine l2_ ?_ ?_ | refine l1_ ?_ (fun _ => ?_)
def sF72.T14 : Bool × List (List Nat × List Nat) := (true, [([], []), ([0], [0]), ([1], [1]), ([2, 1, 1], [1, 2]), ([3, 3, 1], [1, 3]), ([1], [1]), ([4, 5, 4, 1], [1, 4, 5]), ([1, 6], [1, 6]), ([7, 6, 0, 1, 2, 3, 4, 5, 6, 7], [7])])
def sF72.B14 : List Nat := [0, 1, 3, 7, 15, 3, 63, 127, 255]
theorem sF72.tab14 : rtab .any (opsOf Tryz.f47 14) = sF72.T14 := by kernel_rfl
theorem sF72.bits14 : waitsOk sF72.T14.2 sF72.B14 = true := by kernel_rfl
theorem sF72.calls (k : Nat) (A0_0 : Option Addr) (c0_0 : Nat) (l0_0 : List (S72)) (r : Bool) (w : World) (hr0_0 : Kd.C k72 w A0_0 l0_0.length l0_0) (hc0_0 : l0_0.length ≤ c0_0) (h : sF72.f k l0_0 = some r) :
  Calls Tryz.prog 47 #[.agg #[.slice A0_0 l0_0.length c0_0]] w fun e w' => e = .returned (.bool r) ∧ Below w.heap.size w w' := by
 have hu33 := Tryz.underlying33
 have hu88 := Tryz.underlying88
 have HR0_0 := aM_ hr0_0
 have HC0_0 := aM_ hc0_0
 clear hr0_0 hc0_0
 have HB := aM_ (Below.refl w.heap.size w)
 have H : ((sF54.f (l0_0.length : Int) 1 481).bind fun t291 => (if t291 = true then (sF72.l0 k 0 l0_0) else (some false))) = some r := h
 clear h
 replace H := oB_.mp H
 obtain ⟨t291, A20, H⟩ := H
 try dsimp only at H
 have A2 := aM_ A20
 clear A20
 by_cases c3 : t291 = true
 rotate_left
 ·
  replace c3 := Bool.eq_false_iff.mpr c3
  subst c3
  replace H : (some false) = some r := by rw [if_neg (show ¬ (false = true) by decide)] at H; exact H
  obtain rfl := Option.some.inj H
  go_enter Tryz.func47, Tryz.ntmps47
  go_wp2_with (first | ((with_reducible refine gD_ (N := 1) rfl ?_); (try (refine gate_guard (by rfl) ?_; dsimp only)); refine bE_ ?hg (N := 1) ?hd (cs := #[.slice A0_0 l0_0.length c0_0]) (t := 33) ?hr ?_; (case hd => rfl); (case hg => rfl); (case hr => (go_simp; done)); intro gb290 hg w53 hbox hb; have BK290 := aM_ (hbox); have GW290 := gw_ hg HB; replace HB := b4_ HB hb; clear hb hbox hg; have hcz54_0 := c0_ BK290; have hfz54_0 := bF_ BK290.out 0) | (refine gs_ 13 Tryz.func62 #[.int .i64 (l0_0.length : Int), .int .i64 1, .int .i64 481] ?_; (with_reducible refine (sF54.calls (l0_0.length : Int) 1 481 false _ A2.out).mono ?_); rintro e w' ⟨rfl, ⟨nd, rfl⟩⟩; refine ⟨_, rfl, ?_⟩))
  go_ret
  exact ⟨by rfl, by repeat with_reducible first | exact HB.out | apply bA_ | apply bN_ | apply bD_ | refine bS_ ?_ GW290.out⟩
 subst c3
 rw [if_pos rfl] at H
 have H' := aM_ H
 clear H
 go_enter Tryz.func47, Tryz.ntmps47
 go_wp2_with (first | ((with_reducible refine gD_ (N := 1) rfl ?_); (try (refine gate_guard (by rfl) ?_; dsimp only)); refine bE_ ?hg (N := 1) ?hd (cs := #[.slice A0_0 l0_0.length c0_0]) (t := 33) ?hr ?_; (case hd => rfl); (case hg => rfl); (case hr => (go_simp; done)); intro gb290 hg w4 hbox hb; have BK290 := aM_ (hbox); have GW290 := gw_ hg HB; replace HB := b4_ HB hb; clear hb hbox hg; have hcz5_0 := c0_ BK290; have hfz5_0 := bF_ BK290.out 0) | (refine gs_ 13 Tryz.func62 #[.int .i64 (l0_0.length : Int), .int .i64 1, .int .i64 481] ?_; (with_reducible refine (sF54.calls (l0_0.length : Int) 1 481 true _ A2.out).mono ?_); rintro e w' ⟨rfl, ⟨nd, rfl⟩⟩; refine ⟨_, rfl, ?_⟩))
 go_loopg [3] k (fun kq v3 w' => ∃ (x3_1 : Int), v3 = .int .i64 x3_1 ∧ Aside0 (sF72.l0 kq x3_1 l0_0 = some r) ∧ Aside0 (kq ≤ k) ∧ Aside0 (w'.heap[gb290]? = some (.cells #[(.slice A0_0 l0_0.length c0_0)] 33 (0, 0))) ∧ Aside0 (Below w.heap.size w w'))
 case atStart => exact ⟨(0), (by rfl), H', ⟨Nat.le_refl _⟩, ⟨by (with_reducible repeat (first | refine b2_ ?_ _ | refine b1_ ?_ | refine b3_ ?_ _)); exact BK290.out⟩, ⟨by repeat with_reducible first | exact HB.out | apply bA_ | apply bN_ | apply bD_ | refine bS_ ?_ GW290.out⟩⟩
 clear H'
 try clear p2
 try clear hcz5_0
 try clear hfz5_0
 obtain ⟨x3_1, rfl, HA, HK1, BK290, HB⟩ := hrel
 cases gk with
 | zero => exact absurd HA.out (by simp [sF72.l0])
 | succ k1 =>
  have H := HA.out
  clear HA
  simp only [sF72.l0] at H
  by_cases c6 : x3_1 < (l0_0.length : Int)
  rotate_left
  ·
   rw [if_neg c6] at H
   have c6b0 := dF_ c6
   clear c6
   replace H := oB_.mp H
   obtain ⟨⟨t298, t301⟩, A310, H⟩ := H
   try dsimp only at H
   have A31 := aM_ A310
   clear A310
   replace H := oB_.mp H
   obtain ⟨⟨t302, t303⟩, A320, H⟩ := H
   try dsimp only at H
   have A32 := aM_ A320
   clear A320
   by_cases c33 : t303 = true
   rotate_left
   ·
    replace c33 := Bool.eq_false_iff.mpr c33
    subst c33
    replace H : (some false) = some r := by rw [if_neg (show ¬ (false = true) by decide)] at H; exact H
    obtain rfl := Option.some.inj H
    have hcz48_0 := c0_ BK290
    have hfz48_0 := bF_ BK290.out 0
    try go_wp2_with (first | (refine gs_ 58 Tryz.func69 #[.agg #[.slice A0_0 l0_0.length c0_0], .int .i64 0, .string (⟨#[]⟩ : ByteArray), .int .i64 0] ?_; (with_reducible refine (sF73.calls k1 _ _ l0_0 0 (⟨#[]⟩ : ByteArray) 0 t298 t301 _ ?side1 HC0_0.out A31.out).mono ?_); (case side1 => repeat (first | exact (k4_ HR0_0.out HB.out) | with_reducible first | apply cA_ | apply cN_ | apply cD_)); rintro e w49 ⟨v299, rfl, ho0, hb⟩; refine ⟨_, rfl, ?_⟩; have HO300 := aM_ (k5_ ho0 (bZ_ HB.out)); replace BK290 := b5_ BK290 hb; replace HB := b4_ HB hb; (try clear hb); (try clear ho0); obtain ⟨Ao50, co50, eo50⟩ := kS_ HO300.out; subst eo50) | (refine gs_ 63 Tryz.func75 #[.slice Ao50 t298.length co50] ?_; (with_reducible refine (sF64.calls k1 _ _ t298 t302 false _ ?side1 ?side2 A32.out).mono ?_); (case side1 => repeat (first | exact (kR_ HO300.out).2.2 | with_reducible first | apply cA_ | apply cN_ | apply cD_)); (case side2 => exact (kR_ HO300.out).2.1); rintro e w51 ⟨v304, rfl, ho0, hb⟩; refine ⟨_, rfl, ?_⟩; have HO305 := aM_ (k5_ (Kd.R_new' ho0 (Kd.R_lt HO300.out)) (bZ_ HB.out)); replace HO300 := aM_ (Kd.R_elder' HO300.out (Kd.R_base ho0) hb); replace BK290 := b5_ BK290 hb; replace HB := b4_ HB hb; (try clear hb); (try clear ho0)))
    have n0_ := aM_ (k3_ HO300.out)
    have n1_ := aM_ (k3_ HO305.out)
    have n2_ := aM_ (b1_ BK290.out)
    have n3_ := aM_ (bD_ HB.out)
    clear HO300
    clear HO305
    clear BK290
    clear HB
    have HO300 := n0_
    have HO305 := n1_
    have BK290 := n2_
    have HB := n3_
    clear n0_ n1_ n2_ n3_
    refine start_ (n := 9) (S := fun w' => True) (ds := []) #[fy, fy, fy, fy, fy, fy, fy, fy, fy] (by kernel_rfl) rfl rfl trivial (fun hHeld => ?_); refine with_tabW sF72.tab14 sF72.bits14 (fun HT_ HW_ => ?_)
    generalize w51.drew = w52 at HO300 HO305 BK290 HB hHeld ⊢
    refine pu_ HT_ 0 66 #[ty, fy, fy, fy, fy, fy, fy, fy, fy] ?_
    refine pu_ HT_ 1 67 #[ty, ty, fy, fy, fy, fy, fy, fy, fy] ?_
    refine pure_ (i := 2) (N := some 68) (v := undef) (a' := ?_) #[ty, ty, ty, fy, fy, fy, fy, fy, fy] rfl rfl (aO_ HT_.out (by kernel_rfl)) (fun _ _ _ h => h) (Or.inr ⟨by rfl, rfl⟩) ?_ ?_
    rotate_left
    ·
     simp only [Act.put, sA_, sB_, sC_, i6_, i3_]
     rfl
    refine pure_ (i := 3) (N := some 69) (v := undef) (a' := ?_) #[ty, ty, ty, ty, fy, fy, fy, fy, fy] rfl rfl (aO_ HT_.out (by kernel_rfl)) (fun _ _ _ h => h) (Or.inr ⟨by rfl, rfl⟩) ?_ ?_
    rotate_left
    ·
     simp only [Act.put, sA_, sB_, sC_, i6_, i3_]
     rfl
    refine pure_ (i := 4) (N := some 70) (v := undef) (a' := ?_) #[ty, ty, ty, ty, ty, fy, fy, fy, fy] rfl rfl (aO_ HT_.out (by kernel_rfl)) (fun _ _ _ h => h) (Or.inr ⟨by rfl, rfl⟩) ?_ ?_
    rotate_left
    ·
     simp only [Act.put, sA_, sB_, sC_, i6_, i3_]
     rfl
    refine pure_ (i := 5) (N := some 71) (v := undef) (a' := ?_) #[ty, ty, ty, ty, ty, ty, fy, fy, fy] rfl rfl (aO_ HT_.out (by kernel_rfl)) (fun _ _ _ h => h) (Or.inr ⟨by rfl, rfl⟩) ?_ ?_
    rotate_left
    ·
     simp only [Act.put, sA_, sB_, sC_, i6_, i3_]
     rfl
    refine pure_ (i := 6) (N := some 72) (v := undef) (a' := ?_) #[ty, ty, ty, ty, ty, ty, ty, fy, fy] rfl rfl (aO_ HT_.out (by kernel_rfl)) (fun _ _ _ h => h) (Or.inr ⟨by rfl, rfl⟩) ?_ ?_
    rotate_left
    ·
     simp only [Act.put, sA_, sB_, sC_, i6_, i3_]
     rfl
    refine pu_ HT_ 7 73 #[ty, ty, ty, ty, ty, ty, ty, ty, fy] ?_
    refine pu_ HT_ 8 2 #[ty, ty, ty, ty, ty, ty, ty, ty, ty] ?_
    refine done_ (done_of HT_.out (by kernel_rfl)) ?_
    try go_wp2
    go_ret
    exact ⟨by rfl, by exact HB.out⟩
   subst c33
   rw [if_pos rfl] at H
   replace H := oB_.mp H
   obtain ⟨t306, A340, H⟩ := H
   try dsimp only at H
   have A34 := aM_ A340
   clear A340
   replace H := oB_.mp H
   obtain ⟨t309, A350, H⟩ := H
   try dsimp only at H
   have A35 := aM_ A350
   clear A350
   replace H := oB_.mp H
   obtain ⟨t312, A360, H⟩ := H
   try dsimp only at H
   have A36 := aM_ A360
   clear A360
   obtain rfl := Option.some.inj H
   have hcz37_0 := c0_ BK290
   have hfz37_0 := bF_ BK290.out 0
   try go_wp2_with (first | (refine gs_ 58 Tryz.func69 #[.agg #[.slice A0_0 l0_0.length c0_0], .int .i64 0, .string (⟨#[]⟩ : ByteArray), .int .i64 0] ?_; (with_reducible refine (sF73.calls k1 _ _ l0_0 0 (⟨#[]⟩ : ByteArray) 0 t298 t301 _ ?side1 HC0_0.out A31.out).mono ?_); (case side1 => repeat (first | exact (k4_ HR0_0.out HB.out) | with_reducible first | apply cA_ | apply cN_ | apply cD_)); rintro e w38 ⟨v299, rfl, ho0, hb⟩; refine ⟨_, rfl, ?_⟩; have HO300 := aM_ (k5_ ho0 (bZ_ HB.out)); replace BK290 := b5_ BK290 hb; replace HB := b4_ HB hb; (try clear hb); (try clear ho0); obtain ⟨Ao39, co39, eo39⟩ := kS_ HO300.out; subst eo39) | (refine gs_ 63 Tryz.func75 #[.slice Ao39 t298.length co39] ?_; (with_reducible refine (sF64.calls k1 _ _ t298 t302 true _ ?side1 ?side2 A32.out).mono ?_); (case side1 => repeat (first | exact (kR_ HO300.out).2.2 | with_reducible first | apply cA_ | apply cN_ | apply cD_)); (case side2 => exact (kR_ HO300.out).2.1); rintro e w40 ⟨v304, rfl, ho0, hb⟩; refine ⟨_, rfl, ?_⟩; have HO305 := aM_ (k5_ (Kd.R_new' ho0 (Kd.R_lt HO300.out)) (bZ_ HB.out)); replace HO300 := aM_ (Kd.R_elder' HO300.out (Kd.R_base ho0) hb); replace BK290 := b5_ BK290 hb; replace HB := b4_ HB hb; (try clear hb); (try clear ho0)))
   have n0_ := aM_ (k3_ HO300.out)
   have n1_ := aM_ (k3_ HO305.out)
   have n2_ := aM_ (b1_ BK290.out)
   have n3_ := aM_ (bD_ HB.out)
   clear HO300
   clear HO305
   clear BK290
   clear HB
   have HO300 := n0_
   have HO305 := n1_
   have BK290 := n2_
   have HB := n3_
   clear n0_ n1_ n2_ n3_
   obtain ⟨Ao42, co42, eo42⟩ := kS_ HO305.out
   (subst eo42)
   refine start_ (n := 9) (S := fun w' => w'.cell? ⟨gb290, 0, none⟩ = some (.slice A0_0 l0_0.length c0_0)) (ds := []) #[fy, fy, fy, fy, fy, fy, fy, fy, fy] (by kernel_rfl) rfl rfl ((bC_ BK290.out 0).trans rfl) (fun hHeld => ?_); refine with_tabW sF72.tab14 sF72.bits14 (fun HT_ HW_ => ?_)
   generalize w40.drew = w41 at HO300 HO305 BK290 HB hHeld ⊢
   refine pu_ HT_ 0 66 #[ty, fy, fy, fy, fy, fy, fy, fy, fy] ?_
   refine pu_ HT_ 1 67 #[ty, ty, fy, fy, fy, fy, fy, fy, fy] ?_
   refine pu_ HT_ 2 68 #[ty, ty, ty, fy, fy, fy, fy, fy, fy] ?_
   refine take_ (i := 5) (N := some 71) (v := ?_) (a' := ?_) #[ty, ty, ty, fy, fy, ty, fy, fy, fy] rfl rfl (tW_ HT_.out HW_.out (by kernel_rfl)) (fun _ _ _ h => h) (Or.inl ⟨by rfl, ?_⟩) hHeld ?_ ?_; rotate_left; (intro w' s0; go_simp; with_reducible rfl); rotate_left; (simp only [Act.put, sA_, sB_, sC_, i6_, i3_]; rfl)
   refine one_ (i := 3) (N := some 69) #[ty, ty, ty, ty, fy, ty, fy, fy, fy] rfl rfl (one_of HT_.out (by kernel_rfl)) (by decide) (fun K hK => ?_)
   refine goes_ Tryz.func48 (by kernel_rfl) rfl #[.slice Ao42 t302.length co42] (by rfl) rfl rfl (by (try simp only [sD_, sE_, sF_]); rfl) ?_
   with_reducible refine (sF58.calls k1 _ _ t302 t306 _ ?side1 ?side2 A34.out).mono ?_
   (case side1 => repeat (first | exact (kR_ HO305.out).2.2 | with_reducible first | apply cA_ | apply cN_ | apply cD_))
   (case side2 => exact (kR_ HO305.out).2.1)
   rintro e w43 ⟨v307, rfl, ho0, hb⟩
   refine ⟨_, rfl, ?_⟩
   have n0_ := k9_ HO300 hb
   have n1_ := k9_ HO305 hb
   have n2_ := aM_ (k5_ ho0 (bZ_ HB.out))
   have n3_ := b5_ BK290 hb
   have n4_ := b4_ HB hb
   clear HO300
   clear HO305
   clear BK290
   clear HB
   have HO300 := n0_
   have HO305 := n1_
   have HO308 := n2_
   have BK290 := n3_
   have HB := n4_
   clear n0_ n1_ n2_ n3_ n4_
   (try clear hb)
   (try clear ho0)
   obtain ⟨Ao44, co44, eo44⟩ := kS_ HO308.out
   (subst eo44)
   refine hK.out _ _ ((bC_ BK290.out 0).trans rfl) (fun hHeld => ?_)
   clear hK K
   refine norm_ (by show Act.put _ (some 69) _ = _; simp only [Act.put, sA_, sB_, sC_, i6_, i3_]; rfl) ?_
   refine one_ (i := 4) (N := some 70) #[ty, ty, ty, ty, ty, ty, fy, fy, fy] rfl rfl (one_of HT_.out (by kernel_rfl)) (by decide) (fun K hK => ?_)
   refine goes_ Tryz.func77 (by kernel_rfl) rfl #[.agg #[.slice Ao44 t306.length co44]] (by rfl) rfl rfl (by (try simp only [sD_, sE_, sF_]); rfl) ?_
   with_reducible refine (sF69.calls k1 _ _ t306 t309 _ ?side1 ?side2 A35.out).mono ?_
   (case side1 => repeat (first | exact (kR_ HO308.out).2.2 | with_reducible first | apply cA_ | apply cN_ | apply cD_))
   (case side2 => exact (kR_ HO308.out).2.1)
   rintro e w45 ⟨v310, rfl, ho0, hb⟩
   refine ⟨_, rfl, ?_⟩
   have n0_ := k9_ HO300 hb
   have n1_ := k9_ HO305 hb
   have n2_ := k9_ HO308 hb
   have n3_ := aM_ (Kd.S_lower ho0 (bZ_ HB.out))
   have n4_ := b5_ BK290 hb
   have n5_ := b4_ HB hb
   clear HO300
   clear HO305
   clear HO308
   clear BK290
   clear HB
   have HO300 := n0_
   have HO305 := n1_
   have HO308 := n2_
   have HO311 := n3_
   have BK290 := n4_
   have HB := n5_
   clear n0_ n1_ n2_ n3_ n4_ n5_
   (try clear hb)
   (try clear ho0)
   obtain ⟨Ao46, co46, eo46⟩ := Kd.S_slice HO311.out
   (subst eo46)
   refine hK.out _ _ ((bC_ BK290.out 0).trans rfl) (fun hHeld => ?_)
   clear hK K
   refine norm_ (by show Act.put _ (some 70) _ = _; simp only [Act.put, sA_, sB_, sC_, i6_, i3_]; rfl) ?_
   refine one_ (i := 6) (N := some 72) #[ty, ty, ty, ty, ty, ty, ty, fy, fy] rfl rfl (one_of HT_.out (by kernel_rfl)) (by decide) (fun K hK => ?_)
   refine goes_ Tryz.func76 (by kernel_rfl) rfl #[.agg #[.slice Ao46 t309.length co46], .agg #[.slice A0_0 l0_0.length c0_0]] (by rfl) rfl rfl (by (try simp only [sD_, sE_, sF_]); rfl) ?_
   with_reducible refine (sF70.calls k1 _ _ t309 _ _ l0_0 t312 _ ?side1 ?side2 ?side3 ?side4 A36.out).mono ?_
   (case side1 => repeat (first | exact (Kd.S_reads' HO311.out).2.2 | with_reducible first | apply cA_ | apply cN_ | apply cD_))
   (case side2 => exact (Kd.S_reads' HO311.out).2.1)
   (case side3 => repeat (first | exact (k4_ HR0_0.out HB.out) | with_reducible first | apply cA_ | apply cN_ | apply cD_))
   (case side4 => exact HC0_0.out)
   rintro e w47 ⟨rfl, hb⟩
   refine ⟨_, rfl, ?_⟩
   have n0_ := k9_ HO300 hb
   have n1_ := k9_ HO305 hb
   have n2_ := k9_ HO308 hb
   have n3_ := aM_ (Kd.S_below (by (with_reducible repeat (first | apply Kd.S_alloc | apply Kd.S_drewN | apply Kd.S_drew)); exact HO311.out) hb)
   have n4_ := b5_ BK290 hb
   have n5_ := b4_ HB hb
   clear HO300
   clear HO305
   clear HO308
   clear HO311
   clear BK290
   clear HB
   have HO300 := n0_
   have HO305 := n1_
   have HO308 := n2_
   have HO311 := n3_
   have BK290 := n4_
   have HB := n5_
   clear n0_ n1_ n2_ n3_ n4_ n5_
   (try clear hb)
   refine hK.out _ _ ((bC_ BK290.out 0).trans rfl) (fun hHeld => ?_)
   clear hK K
   refine norm_ (by show Act.put _ (some 72) _ = _; simp only [Act.put, sA_, sB_, sC_, i6_, i3_]; rfl) ?_
   refine pu_ HT_ 7 73 #[ty, ty, ty, ty, ty, ty, ty, ty, fy] ?_
   refine pu_ HT_ 8 2 #[ty, ty, ty, ty, ty, ty, ty, ty, ty] ?_
   refine done_ (done_of HT_.out (by kernel_rfl)) ?_
   try go_wp2
   go_ret
   exact ⟨by rfl, by exact HB.out⟩
  rw [if_pos c6] at H
  have c6b0 := dT_ c6
  clear c6
  have H' := aM_ H
  clear H
  have hcz7_0 := c0_ BK290
  have hfz7_0 := bF_ BK290.out 0
  go_wp2
  go_loopg [4] k1 (fun kq v4 w' => ∃ (x4_2 : Int), v4 = .int .i64 x4_2 ∧ Aside0 (sF72.l1 kq x3_1 x4_2 l0_0 = some r) ∧ Aside0 (kq ≤ k1) ∧ Aside0 (w'.heap[gb290]? = some (.cells #[(.slice A0_0 l0_0.length c0_0)] 33 (0, 0))) ∧ Aside0 (Below w.heap.size w w'))
  case atStart => exact ⟨(0), (by rfl), H', ⟨Nat.le_refl _⟩, ⟨BK290.out⟩, ⟨HB.out⟩⟩
  clear H'
  try clear p2
  try clear c6b0
  try clear hcz5_0
  try clear hcz7_0
  try clear hfz5_0
  try clear hfz7_0
  try clear p2
  obtain ⟨x4_2, rfl, HA, HK2, BK290, HB⟩ := hrel
  cases gk with
  | zero => exact absurd HA.out (by simp [sF72.l1])
  | succ k2 =>
   have H := HA.out
   clear HA
   simp only [sF72.l1] at H
   by_cases c8 : 0 ≤ x3_1
   rotate_left
   ·
    rw [if_neg c8] at H
    exact absurd H (by simp)
   rw [if_pos c8] at H
   have c8b0 := dT_ c8
   clear c8
   by_cases c9 : x3_1 < (l0_0.length : Int)
   rotate_left
   ·
    rw [if_neg c9] at H
    exact absurd H (by simp)
   rw [if_pos c9] at H
   have c9b0 := dT_ c9
   clear c9
   by_cases c10 : x4_2 < (((rd_T72 l0_0 x3_1).f1).length : Int)
   rotate_left
   ·
    rw [if_neg c10] at H
    have c10b0 := dF_ c10
    clear c10
    have H' := aM_ H
    clear H
    have hcz30_0 := c0_ BK290
    have hfz30_0 := bF_ BK290.out 0
    have p292 : 0 ≤ (x3_1 : Int) := oD_ ‹_›
    have q292 : x3_1 < (l0_0.length : Int) := oD_ ‹_›
    obtain ⟨ad292, A292_1, c292_1, e292, hx292_0, hx292_1, hl292_1, hi292_1⟩ := at_T72 HR0_0.out x3_1 p292 q292
    cases e292
    replace hx292_0 := cb_ HB hx292_0
    replace hx292_1 := cb_ HB hx292_1
    have HR292_1 := aM_ hi292_1
    have HC292_1 := aM_ hl292_1
    clear hi292_1 hl292_1
    replace p292 := eq_true p292
    replace q292 := eq_true q292
    go_wp2
    go_roundg k2
    case measure => have := HK1.out; have := HK2.out; omega
    case rel => exact ⟨(wrap64 (x3_1 + 1)), (by rfl), H', ⟨by have := HK1.out; have := HK2.out; omega⟩, ⟨BK290.out⟩, ⟨HB.out⟩⟩
   rw [if_pos c10] at H
   have c10b0 := dT_ c10
   clear c10
   by_cases c11 : 0 ≤ x4_2
   rotate_left
   ·
    rw [if_neg c11] at H
    exact absurd H (by simp)
   rw [if_pos c11] at H
   have c11b0 := dT_ c11
   clear c11
   replace H := oB_.mp H
   obtain ⟨t296, A120, H⟩ := H
   try dsimp only at H
   have A12 := aM_ A120
   clear A120
   by_cases c13 : t296 = true
   rotate_left
   ·
    replace c13 := Bool.eq_false_iff.mpr c13
    subst c13
    replace H : (some false) = some r := by rw [if_neg (show ¬ (false = true) by decide)] at H; exact H
    obtain rfl := Option.some.inj H
    have hcz26_0 := c0_ BK290
    have hfz26_0 := bF_ BK290.out 0
    have p292 : 0 ≤ (x3_1 : Int) := oD_ ‹_›
    have q292 : x3_1 < (l0_0.length : Int) := oD_ ‹_›
    obtain ⟨ad292, A292_1, c292_1, e292, hx292_0, hx292_1, hl292_1, hi292_1⟩ := at_T72 HR0_0.out x3_1 p292 q292
    cases e292
    replace hx292_0 := cb_ HB hx292_0
    replace hx292_1 := cb_ HB hx292_1
    have HR292_1 := aM_ hi292_1
    have HC292_1 := aM_ hl292_1
    clear hi292_1 hl292_1
    replace p292 := eq_true p292
    replace q292 := eq_true q292
    have p293 : 0 ≤ (x3_1 : Int) := oD_ ‹_›
    have q293 : x3_1 < (l0_0.length : Int) := oD_ ‹_›
    obtain ⟨ad293, A293_1, c293_1, e293, hx293_0, hx293_1, hl293_1, hi293_1⟩ := at_T72 HR0_0.out x3_1 p293 q293
    obtain rfl : ad292 = ad293 := (by injection e293)
    replace hx293_0 := cb_ HB hx293_0
    replace hx293_1 := cb_ HB hx293_1
    have HR293_1 := aM_ hi293_1
    have HC293_1 := aM_ hl293_1
    clear hi293_1 hl293_1
    replace p293 := eq_true p293
    replace q293 := eq_true q293
    have ea_ := Option.some.inj (hx292_1.symm.trans hx293_1)
    injection ea_ with ea_ en_ ec_
    subst ea_
    subst ec_
    clear en_
    have p294 : 0 ≤ (x4_2 : Int) := oD_ ‹_›
    have q294 : x4_2 < (((rd_T72 l0_0 x3_1).f1).length : Int) := oD_ ‹_›
    obtain ⟨ad294, e294, hx294_0, hx294_1⟩ := at_T88 HR293_1.out x4_2 p294 q294
    cases e294
    replace hx294_0 := cb_ HB hx294_0
    replace hx294_1 := cb_ HB hx294_1
    replace p294 := eq_true p294
    replace q294 := eq_true q294
    go_wp2_with (first | ((with_reducible refine gD_ (N := 5) rfl ?_); (try (refine gate_guard (by rfl) ?_; dsimp only)); refine bE_ ?hg (N := 5) ?hd (cs := #[.int .i64 0, .int .i64 0]) (t := 88) ?hr ?_; (case hd => rfl); (case hg => rfl); (case hr => (go_simp; done)); intro gb295 hg w27 hbox hb; have BK295 := aM_ (hbox); have GW295 := gw_ hg HB; replace HB := b4_ HB hb; have NB290_295 := nb_ hg BK290; have NB295_290 := ns_ NB290_295; replace BK290 := b5_ BK290 hb; clear hb hbox hg; have hnb28 := NB295_290.out; have hnc28 := NB290_295.out; have hcz29_0 := c0_ BK295; have hcz29_1 := c1_ BK295; have hfz29_0 := bF_ BK295.out 0; have hfz29_1 := bF_ BK295.out 1) | (refine gs_ 44 Tryz.func62 #[.int .i64 ((rd_T88 ((rd_T72 l0_0 x3_1).f1) x4_2).f0), .int .i64 0, .int .i64 25] ?_; (with_reducible refine (sF54.calls ((rd_T88 ((rd_T72 l0_0 x3_1).f1) x4_2).f0) 0 25 false _ A12.out).mono ?_); rintro e w' ⟨rfl, ⟨nd, rfl⟩⟩; refine ⟨_, rfl, ?_⟩))
    go_ret
    exact ⟨by rfl, by repeat with_reducible first | exact HB.out | apply bA_ | apply bN_ | apply bD_ | refine bS_ ?_ (Aside0.out ‹_›)⟩
   subst c13
   rw [if_pos rfl] at H
   replace H := oB_.mp H
   obtain ⟨t297, A140, H⟩ := H
   try dsimp only at H
   have A14 := aM_ A140
   clear A140
   by_cases c15 : t297 = true
   ·
    subst c15
    rw [if_pos rfl] at H
    have H' := aM_ H
    clear H
    have hcz16_0 := c0_ BK290
    have hfz16_0 := bF_ BK290.out 0
    have p292 : 0 ≤ (x3_1 : Int) := oD_ ‹_›
    have q292 : x3_1 < (l0_0.length : Int) := oD_ ‹_›
    obtain ⟨ad292, A292_1, c292_1, e292, hx292_0, hx292_1, hl292_1, hi292_1⟩ := at_T72 HR0_0.out x3_1 p292 q292
    cases e292
    replace hx292_0 := cb_ HB hx292_0
    replace hx292_1 := cb_ HB hx292_1
    have HR292_1 := aM_ hi292_1
    have HC292_1 := aM_ hl292_1
    clear hi292_1 hl292_1
    replace p292 := eq_true p292
    replace q292 := eq_true q292
    have p293 : 0 ≤ (x3_1 : Int) := oD_ ‹_›
    have q293 : x3_1 < (l0_0.length : Int) := oD_ ‹_›
    obtain ⟨ad293, A293_1, c293_1, e293, hx293_0, hx293_1, hl293_1, hi293_1⟩ := at_T72 HR0_0.out x3_1 p293 q293
    obtain rfl : ad292 = ad293 := (by injection e293)
    replace hx293_0 := cb_ HB hx293_0
    replace hx293_1 := cb_ HB hx293_1
    have HR293_1 := aM_ hi293_1
    have HC293_1 := aM_ hl293_1
    clear hi293_1 hl293_1
    replace p293 := eq_true p293
    replace q293 := eq_true q293
    have ea_ := Option.some.inj (hx292_1.symm.trans hx293_1)
    injection ea_ with ea_ en_ ec_
    subst ea_
    subst ec_
    clear en_
    have p294 : 0 ≤ (x4_2 : Int) := oD_ ‹_›
    have q294 : x4_2 < (((rd_T72 l0_0 x3_1).f1).length : Int) := oD_ ‹_›
    obtain ⟨ad294, e294, hx294_0, hx294_1⟩ := at_T88 HR293_1.out x4_2 p294 q294
    cases e294
    replace hx294_0 := cb_ HB hx294_0
    replace hx294_1 := cb_ HB hx294_1
    replace p294 := eq_true p294
    replace q294 := eq_true q294
    go_wp2_with (first | ((with_reducible refine gD_ (N := 5) rfl ?_); (try (refine gate_guard (by rfl) ?_; dsimp only)); refine bE_ ?hg (N := 5) ?hd (cs := #[.int .i64 0, .int .i64 0]) (t := 88) ?hr ?_; (case hd => rfl); (case hg => rfl); (case hr => (go_simp; done)); intro gb295 hg w17 hbox hb; have BK295 := aM_ (hbox); have GW295 := gw_ hg HB; replace HB := b4_ HB hb; have NB290_295 := nb_ hg BK290; have NB295_290 := ns_ NB290_295; replace BK290 := b5_ BK290 hb; clear hb hbox hg; have hnb18 := NB295_290.out; have hnc18 := NB290_295.out; have hcz19_0 := c0_ BK295; have hcz19_1 := c1_ BK295; have hfz19_0 := bF_ BK295.out 0; have hfz19_1 := bF_ BK295.out 1) | (refine gs_ 44 Tryz.func62 #[.int .i64 ((rd_T88 ((rd_T72 l0_0 x3_1).f1) x4_2).f0), .int .i64 0, .int .i64 25] ?_; (with_reducible refine (sF54.calls ((rd_T88 ((rd_T72 l0_0 x3_1).f1) x4_2).f0) 0 25 true _ A12.out).mono ?_); rintro e w' ⟨rfl, ⟨nd, rfl⟩⟩; refine ⟨_, rfl, ?_⟩; have hcz20_0 := c0_ BK290; have hfz20_0 := bF_ BK290.out 0) | (go_at_call 62; (with_reducible refine (sF54.calls ((rd_T88 ((rd_T72 l0_0 x3_1).f1) x4_2).f1) 0 (wrap64 ((l0_0.length : Int) - 1)) true _ A14.out).mono ?_); rintro e w' ⟨rfl, ⟨nd, rfl⟩⟩))
    go_roundg k2
    case measure => have := HK1.out; have := HK2.out; omega
    case rel => exact ⟨(wrap64 (x4_2 + 1)), (by rfl), H', ⟨by have := HK1.out; have := HK2.out; omega⟩, ⟨by (with_reducible repeat (first | refine b2_ ?_ _ | refine b1_ ?_ | refine b3_ ?_ _)); exact br_ NB290_295.out (br_ NB290_295.out (BK290.out))⟩, ⟨by repeat with_reducible first | exact HB.out | apply bA_ | apply bN_ | apply bD_ | refine bS_ ?_ (Aside0.out ‹_›)⟩⟩
   replace c15 := Bool.eq_false_iff.mpr c15
   subst c15
   replace H : (some false) = some r := by rw [if_neg (show ¬ (false = true) by decide)] at H; exact H
   obtain rfl := Option.some.inj H
   have hcz21_0 := c0_ BK290
   have hfz21_0 := bF_ BK290.out 0
   have p292 : 0 ≤ (x3_1 : Int) := oD_ ‹_›
   have q292 : x3_1 < (l0_0.length : Int) := oD_ ‹_›
   obtain ⟨ad292, A292_1, c292_1, e292, hx292_0, hx292_1, hl292_1, hi292_1⟩ := at_T72 HR0_0.out x3_1 p292 q292
   cases e292
   replace hx292_0 := cb_ HB hx292_0
   replace hx292_1 := cb_ HB hx292_1
   have HR292_1 := aM_ hi292_1
   have HC292_1 := aM_ hl292_1
   clear hi292_1 hl292_1
   replace p292 := eq_true p292
   replace q292 := eq_true q292
   have p293 : 0 ≤ (x3_1 : Int) := oD_ ‹_›
   have q293 : x3_1 < (l0_0.length : Int) := oD_ ‹_›
   obtain ⟨ad293, A293_1, c293_1, e293, hx293_0, hx293_1, hl293_1, hi293_1⟩ := at_T72 HR0_0.out x3_1 p293 q293
   obtain rfl : ad292 = ad293 := (by injection e293)
   replace hx293_0 := cb_ HB hx293_0
   replace hx293_1 := cb_ HB hx293_1
   have HR293_1 := aM_ hi293_1
   have HC293_1 := aM_ hl293_1
   clear hi293_1 hl293_1
   replace p293 := eq_true p293
   replace q293 := eq_true q293
   have ea_ := Option.some.inj (hx292_1.symm.trans hx293_1)
   injection ea_ with ea_ en_ ec_
   subst ea_
   subst ec_
   clear en_
   have p294 : 0 ≤ (x4_2 : Int) := oD_ ‹_›
   have q294 : x4_2 < (((rd_T72 l0_0 x3_1).f1).length : Int) := oD_ ‹_›
   obtain ⟨ad294, e294, hx294_0, hx294_1⟩ := at_T88 HR293_1.out x4_2 p294 q294
   cases e294
   replace hx294_0 := cb_ HB hx294_0
   replace hx294_1 := cb_ HB hx294_1
   replace p294 := eq_true p294
   replace q294 := eq_true q294
   go_wp2_with (first | ((with_reducible refine gD_ (N := 5) rfl ?_); (try (refine gate_guard (by rfl) ?_; dsimp only)); refine bE_ ?hg (N := 5) ?hd (cs := #[.int .i64 0, .int .i64 0]) (t := 88) ?hr ?_; (case hd => rfl); (case hg => rfl); (case hr => (go_simp; done)); intro gb295 hg w22 hbox hb; have BK295 := aM_ (hbox); have GW295 := gw_ hg HB; replace HB := b4_ HB hb; have NB290_295 := nb_ hg BK290; have NB295_290 := ns_ NB290_295; replace BK290 := b5_ BK290 hb; clear hb hbox hg; have hnb23 := NB295_290.out; have hnc23 := NB290_295.out; have hcz24_0 := c0_ BK295; have hcz24_1 := c1_ BK295; have hfz24_0 := bF_ BK295.out 0; have hfz24_1 := bF_ BK295.out 1) | (refine gs_ 44 Tryz.func62 #[.int .i64 ((rd_T88 ((rd_T72 l0_0 x3_1).f1) x4_2).f0), .int .i64 0, .int .i64 25] ?_; (with_reducible refine (sF54.calls ((rd_T88 ((rd_T72 l0_0 x3_1).f1) x4_2).f0) 0 25 true _ A12.out).mono ?_); rintro e w' ⟨rfl, ⟨nd, rfl⟩⟩; refine ⟨_, rfl, ?_⟩; have hcz25_0 := c0_ BK290; have hfz25_0 := bF_ BK290.out 0) | (go_at_call 62; (with_reducible refine (sF54.calls ((rd_T88 ((rd_T72 l0_0 x3_1).f1) x4_2).f1) 0 (wrap64 ((l0_0.length : Int) - 1)) false _ A14.out).mono ?_); rintro e w' ⟨rfl, ⟨nd, rfl⟩⟩))
   go_ret
   exact ⟨by rfl, by repeat with_reducible first | exact HB.out | apply bA_ | apply bN_ | apply bD_ | refine bS_ ?_ (Aside0.out ‹_›)⟩
def sF53.j0 : Nat → ByteArray → Bool → List (S72) → Option (Int × Bool)
 | 0, _, _, _ => none
 | k + 1, x1, x14, x815000 => if x14 = true then (some (0, false)) else ((sF71.f k x815000 x1).bind fun t817 => ((sF55.f t817 0).bind fun t818 => (some (t818, decide (t817 ≥ 0)))))
def sF53.f (k : Nat) (l0_0 : List (S72)) (a1 : ByteArray) : Option (Int × Bool) := (sF72.f k l0_0).bind fun t815 => (if t815 = true then ((sF65.f k a1).bind fun t816 => (sF53.j0 k a1 (!t816) l0_0)) else (sF53.j0 k a1 true l0_0))
theorem sF53.mono_l : ∀ k, (∀ y0 y1 y2, LeO (sF53.j0 k y0 y1 y2) (sF53.j0 (k + 1) y0 y1 y2))
 | 0 => fun _ _ _ r h => by simp [sF53.j0] at h
 | k + 1 => by
  have ih0 := sF53.mono_l k
  intro y0 y1 y2
  unfold sF53.j0
  repeat' with_reducible first | exact ih0 _ _ _ | exact sF65.mono _ _ | exact sF71.mono _ _ _ | exact sF72.mono _ _ | exact l3_ _ | exact l0_ _ | refine l2_ ?_ ?_ | refine l1_ ?_ (fun _ => ?_)
theorem sF53.mono : ∀ a0 a1 k, LeO (sF53.f k a0 a1) (sF53.f (k + 1) a0 a1) := by
 intro a0 a1 k
 have ih0 := sF53.mono_l k
 unfold sF53.f
 repeat' with_reducible first | exact ih0 _ _ _ | exact sF65.mono _ _ | exact sF71.mono _ _ _ | exact sF72.mono _ _ | exact l3_ _ | exact l0_ _ | refine l2_ ?_ ?_ | refine l1_ ?_ (fun _ => ?_)
theorem sF53.calls (k : Nat) (A0_0 : Option Addr) (c0_0 : Nat) (l0_0 : List (S72)) (a1 : ByteArray) (r1 : Int) (r2 : Bool) (w : World) (hr0_0 : Kd.C k72 w A0_0 l0_0.length l0_0) (hc0_0 : l0_0.length ≤ c0_0) (h : sF53.f k l0_0 a1 = some (r1, r2)) :
  Calls Tryz.prog 34 #[.agg #[.slice A0_0 l0_0.length c0_0], .string a1] w fun e w' => e = .returned (.tuple #[.int .i64 r1, .bool r2]) ∧ Below w.heap.size w w' := by
 have hu33 := Tryz.underlying33
 have HR0_0 := aM_ hr0_0
 have HC0_0 := aM_ hc0_0
 clear hr0_0 hc0_0
 have HB := aM_ (Below.refl w.heap.size w)
 have H : ((sF72.f k l0_0).bind fun t815 => (if t815 = true then ((sF65.f k a1).bind fun t816 => (sF53.j0 k a1 (!t816) l0_0)) else (sF53.j0 k a1 true l0_0))) = some (r1, r2) := h
 clear h
 have HC3 := aM_ H
 clear H
 go_enter Tryz.func34, Tryz.ntmps34
 go_upto_region 1 with (first | (refine bx_ 2 #[.slice A0_0 l0_0.length c0_0] 33 ?_; intro gb814 hg w4 hbox hb; have BK814 := aM_ (hbox); have GW814 := gw_ hg HB; replace HB := b4_ HB hb; clear hb hbox hg))
 (try simp only [Act.put, sA_, sB_, sC_])
 go_cut [14] (fun v14 wc => ∃ (kq : Nat) (x14_2 : Bool), v14 = .bool x14_2 ∧ Aside0 (sF53.j0 kq a1 x14_2 l0_0 = some (r1, r2)) ∧ Aside0 (kq ≤ k) ∧ Aside0 (wc.heap[gb814]? = some (.cells #[(.slice A0_0 l0_0.length c0_0)] 33 (0, 0))) ∧ Aside0 (Below w.heap.size w wc))
 case first =>
  have H := HC3.out
  clear HC3
  replace H := oB_.mp H
  obtain ⟨t815, A50, H⟩ := H
  try dsimp only at H
  have A5 := aM_ A50
  clear A50
  by_cases c6 : t815 = true
  ·
   subst c6
   rw [if_pos rfl] at H
   replace H := oB_.mp H
   obtain ⟨t816, A70, H⟩ := H
   try dsimp only at H
   have A7 := aM_ A70
   clear A70
   have H' := aM_ H
   clear H
   have hcz8_0 := c0_ BK814
   have hfz8_0 := bF_ BK814.out 0
   go_wp2_with (first | (refine gs_ 8 Tryz.func47 #[.agg #[.slice A0_0 l0_0.length c0_0]] ?_; (with_reducible refine (sF72.calls k _ _ l0_0 true _ ?side1 HC0_0.out A5.out).mono ?_); (case side1 => repeat (first | exact (k4_ HR0_0.out HB.out) | with_reducible first | apply cA_ | apply cN_ | apply cD_)); rintro e w9 ⟨rfl, hb⟩; refine ⟨_, rfl, ?_⟩; replace BK814 := b5_ BK814 hb; replace HB := b4_ HB hb; (try clear hb)) | (go_at_call 58; (with_reducible refine (sF65.calls k a1 t816 _ A7.out).mono ?_); rintro e w' ⟨rfl, ⟨nd, rfl⟩⟩))
   go_meet
   case rel => exact ⟨_, (!t816), (by rfl), H', ⟨by omega⟩, ⟨by (with_reducible repeat (first | refine b2_ ?_ _ | refine b1_ ?_ | refine b3_ ?_ _)); exact BK814.out⟩, ⟨by repeat with_reducible first | exact HB.out | apply bA_ | apply bN_ | apply bD_ | refine bS_ ?_ GW814.out⟩⟩
  replace c6 := Bool.eq_false_iff.mpr c6
  subst c6
  replace H : (sF53.j0 k a1 true l0_0) = some (r1, r2) := by rw [if_neg (show ¬ (false = true) by decide)] at H; exact H
  have H' := aM_ H
  clear H
  have hcz10_0 := c0_ BK814
  have hfz10_0 := bF_ BK814.out 0
  go_wp2_with (first | (refine gs_ 8 Tryz.func47 #[.agg #[.slice A0_0 l0_0.length c0_0]] ?_; (with_reducible refine (sF72.calls k _ _ l0_0 false _ ?side1 HC0_0.out A5.out).mono ?_); (case side1 => repeat (first | exact (k4_ HR0_0.out HB.out) | with_reducible first | apply cA_ | apply cN_ | apply cD_)); rintro e w11 ⟨rfl, hb⟩; refine ⟨_, rfl, ?_⟩; replace BK814 := b5_ BK814 hb; replace HB := b4_ HB hb; (try clear hb)))
  go_meet
  case rel => exact ⟨_, (true), (by rfl), H', ⟨by omega⟩, ⟨BK814.out⟩, ⟨HB.out⟩⟩
 clear HC3
 try clear p2
 try clear hcz10_0
 try clear hcz8_0
 try clear hfz10_0
 try clear hfz8_0
 obtain ⟨kq, x14_2, rfl, HA, HJ2, BK814, HB⟩ := hcut
 cases kq with
 | zero => exact absurd HA.out (by simp [sF53.j0])
 | succ kj2 =>
  have H := HA.out
  clear HA
  simp only [sF53.j0] at H
  by_cases c12 : x14_2 = true
  ·
   subst c12
   rw [if_pos rfl] at H
   simp only [Option.some.injEq, Prod.mk.injEq] at H
   obtain ⟨rfl, rfl⟩ := H
   go_wp2
   go_ret2
   exact ⟨by rfl, by exact HB.out⟩
  replace c12 := Bool.eq_false_iff.mpr c12
  subst c12
  replace H : ((sF71.f kj2 l0_0 a1).bind fun t817 => ((sF55.f t817 0).bind fun t818 => (some (t818, decide (t817 ≥ 0))))) = some (r1, r2) := by rw [if_neg (show ¬ (false = true) by decide)] at H; exact H
  replace H := oB_.mp H
  obtain ⟨t817, A130, H⟩ := H
  try dsimp only at H
  have A13 := aM_ A130
  clear A130
  replace H := oB_.mp H
  obtain ⟨t818, A140, H⟩ := H
  try dsimp only at H
  have A14 := aM_ A140
  clear A140
  simp only [Option.some.injEq, Prod.mk.injEq] at H
  obtain ⟨rfl, rfl⟩ := H
  have hcz15_0 := c0_ BK814
  have hfz15_0 := bF_ BK814.out 0
  go_wp2_with (first | (refine gs_ 17 Tryz.func59 #[.agg #[.slice A0_0 l0_0.length c0_0], .string a1] ?_; (with_reducible refine (sF71.calls kj2 _ _ l0_0 a1 t817 _ ?side1 HC0_0.out A13.out).mono ?_); (case side1 => repeat (first | exact (k4_ HR0_0.out HB.out) | with_reducible first | apply cA_ | apply cN_ | apply cD_)); rintro e w16 ⟨rfl, hb⟩; refine ⟨_, rfl, ?_⟩; replace BK814 := b5_ BK814 hb; replace HB := b4_ HB hb; (try clear hb)) | (refine gs_ 19 Tryz.func64 #[.int .i64 t817, .int .i64 0] ?_; (with_reducible refine (sF55.calls t817 0 t818 _ A14.out).mono ?_); rintro e w' ⟨rfl, ⟨nd, rfl⟩⟩; refine ⟨_, rfl, ?_⟩))
  go_ret2
  exact ⟨by rfl, by repeat with_reducible first | exact HB.out | apply bA_ | apply bN_ | apply bD_ | refine bS_ ?_ GW814.out⟩
end Go.Proofs.YtnnkedeohfbkeaaGreatDoor.P
