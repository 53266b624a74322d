/-
  Part 1 of the proof that FnExactTrieOfMachine returns true for every input: the functions that it reaches, each with its contract, and the law.
  Conditions: those of the given statement, no others.
-/
import Derived.Test.YtnnkedeohfbkeaaGreatDoorKNW0
import Derived.Shelf.Abstract
import Derived.Deep.RegionHeld3
import Derived.Test.YtnnkedeohfbkeaaGreatDoorRows
import Derived.WalkKit
import Derived.ProofKit
import Derived.OpenShut
import Derived.ShutString
import Derived.ChangeOld
import Derived.Below
import Derived.SizedLaws
import Derived.Lay
import Derived.LaidOnce
import Derived.SevenTiedAt
import Derived.Test.YtnnkedeohfbkeaaGreatDoorCards
import Derived.Test.YtnnkedeohfbkeaaGreatDoorTie
import Derived.Test.YtnnkedeohfbkeaaGreatDoorKN0
import Derived.Test.YtnnkedeohfbkeaaGreatDoorKN2
import Derived.Test.YtnnkedeohfbkeaaGreatDoorKN3
import Derived.Test.YtnnkedeohfbkeaaGreatDoorKN4
set_option linter.unusedVariables false
set_option linter.unusedSimpArgs false
set_option maxHeartbeats 8000000
set_option maxRecDepth 100000
namespace Go.Proofs.YtnnkedeohfbkeaaGreatDoor.P
open Go.RowKit Go.Proofs.YtnnkedeohfbkeaaGreatDoorW.PrintWords Go.Proofs.YtnnkedeohfbkeaaGreatDoorW.PrintLast Go.Proofs.YtnnkedeohfbkeaaGreatDoorW.PrintMore
open Go.Proofs.YtnnkedeohfbkeaaGreatDoorW.PrintWords renaming blk_frozen → bF_, blk_cell → bC_, below_set → bS_, blk_below → bB_, below_step → bT_, pw_below_drewN → bN_, below_size → bZ_, below_drew1 → bD_, below_alloc → bA_, blk_far → bR_, gate_callee → gC_, gate_dst → gD_, box_event → bE_, blk_drew → b1_, blk_put → bP_, blk_drewN → b2_, blk_alloc → b3_, blk_lt → bL_, cell_far → cF_
open Go.Proofs.YtnnkedeohfbkeaaGreatDoorW.PrintLast renaming any_of → aO_, i64_w → i6_, i32_w → i3_, take_ofW → tW_
open Go.Proofs.YtnnkedeohfbkeaaGreatDoorW.PrintWords.Kd renaming R_below → kB_, R_mono → kM_, R_far → kF_, R_reads' → kR_, R_types → kT_, R_slice → kS_, R_celln → kC_, R_alloc → k1_, R_drewN → k2_, R_drew → k3_, C_below → k4_, R_lower → k5_, R_ne → k6_, own_blk → k7_
open Go.Proofs.YtnnkedeohfbkeaaGreatDoorW.PrintWords.LeO renaming none → l0_, bind → l1_, ite → l2_, refl → l3_
open World renaming block_lt_of_cell? → wB_
open _root_.Option renaming bind_eq_some_iff → oB_
open _root_.ByteArray renaming empty → eB_
open List renaming setIfInBounds_toArray → sA_, set_cons_zero → sB_, set_cons_succ → sC_, map_toArray → sD_, map_cons → sE_, map_nil → sF_, length_drop → sG_, length_take → sH_
open Bool renaming true → ty, false → fy
open Aside0 renaming mk → aM_
attribute [local go_sem] max2_int min2_int max_two min_two max_three min_three max_four min_four
def impl_TrieOfMachine.f (k : Nat) (l0_0 : List (S72)) : Option ((List (S96)) × Bool) := (impl_Machine_open.f k l0_0).bind fun bt466 => (some (bt466.1, bt466.2))
theorem impl_TrieOfMachine.mono : ∀ a0 k, LeO (impl_TrieOfMachine.f k a0) (impl_TrieOfMachine.f (k + 1) a0) := by
 intro a0 k
 unfold impl_TrieOfMachine.f
 repeat' with_reducible first | exact impl_Machine_open.mono _ _ | exact l3_ _ | exact l0_ _ | refine l2_ ?_ ?_ | refine l1_ ?_ (fun _ => ?_)
theorem impl_TrieOfMachine.calls (k : Nat) (A0_0 : Option Addr) (c0_0 : Nat) (l0_0 : List (S72)) (r1 : List (S96)) (r2 : Bool) (w : World) (hr0_0 : Kd.C k72 w A0_0 l0_0.length l0_0) (hc0_0 : l0_0.length ≤ c0_0) (h : impl_TrieOfMachine.f k l0_0 = some (r1, r2)) :
  Calls Tryz.prog 16 #[.agg #[.slice A0_0 l0_0.length c0_0]] w fun e w' => ∃ v0_ : Value, e = .returned (.tuple #[.agg #[v0_], .bool r2]) ∧ Kd.R k96 96 w' w.heap.size (fun _ => True) v0_ r1 ∧ Below w.heap.size w w' := by
 have hu33 := Tryz.underlying33
 have hu28 := Tryz.underlying28
 have HR0_0 := aM_ hr0_0
 have HC0_0 := aM_ hc0_0
 clear hr0_0 hc0_0
 have HB := aM_ (Below.refl w.heap.size w)
 have H : ((impl_Machine_open.f k l0_0).bind fun bt466 => (some (bt466.1, bt466.2))) = some (r1, r2) := h
 clear h
 replace H := oB_.mp H
 obtain ⟨⟨t466, t469⟩, A20, H⟩ := H
 try dsimp only at H
 have A2 := aM_ A20
 clear A20
 simp only [Option.some.injEq, Prod.mk.injEq] at H
 obtain ⟨rfl, rfl⟩ := H
 go_enter Tryz.func16, Tryz.ntmps16
 go_wp2_with (first | (refine bx_ 1 #[.slice A0_0 l0_0.length c0_0] 33 ?_; intro gb464 hg w3 hbox hb; have BK464 := aM_ (hbox); have GW464 := gw_ hg HB; replace HB := b4_ HB hb; clear hb hbox hg) | (refine bx_ 2 #[.slice none 0 0] 28 ?_; intro gb465 hg w4 hbox hb; have BK465 := aM_ (hbox); have GW465 := gw_ hg HB; replace HB := b4_ HB hb; have NB464_465 := nb_ hg BK464; have NB465_464 := ns_ NB464_465; replace BK464 := b5_ BK464 hb; clear hb hbox hg; have hnb5 := NB464_465.out; have hnc5 := NB465_464.out; have hcz6_0 := c0_ BK464; have hfz6_0 := bF_ BK464.out 0) | (refine gs_ 5 Tryz.func51 #[.agg #[.slice A0_0 l0_0.length c0_0]] ?_; (with_reducible refine (impl_Machine_open.calls k _ _ l0_0 t466 t469 _ ?side1 HC0_0.out A2.out).mono ?_); (case side1 => repeat (first | exact (k4_ HR0_0.out HB.out) | with_reducible first | apply cA_ | apply cN_ | apply cD_)); rintro e w7 ⟨v467, rfl, ho0, hb⟩; refine ⟨_, rfl, ?_⟩; have HO468 := aM_ (k5_ ho0 (bZ_ HB.out)); replace BK464 := b5_ BK464 hb; replace BK465 := b5_ BK465 hb; replace HB := b4_ HB hb; (try clear hb); (try clear ho0); obtain ⟨Ao8, co8, eo8⟩ := kS_ HO468.out; subst eo8; have hcz9_0 := c0_ BK465; have hfz9_0 := bF_ BK465.out 0))
 refine bodyPost_ret (results_ct rfl _ _ gb465 28 #[.slice Ao8 t466.length co8] (0, 0) _ rfl (by refine bP_ (cs := #[.slice none 0 0]) ?_ 0 _ rfl; exact BK465.out) Tryz.underlying28 rfl (by kernel_rfl)) rfl ?_
 exact ⟨_, by rfl, by exact kM_ (kG_ (kT_ HO468.out BK465.out (by decide))) (fun _ hk => trivial), by repeat with_reducible first | exact HB.out | apply bA_ | apply bN_ | apply bD_ | refine bS_ ?_ (Aside0.out ‹_›)⟩
def laws_eqNode.f (a0_0 : Int) (a0_1 : Int) (a0_2 : Bool) (a1_0 : Int) (a1_1 : Int) (a1_2 : Bool) : Option (Bool) := if a0_0 = a1_0 then (if a0_1 = a1_1 then (if (a0_2 != a1_2) = true then (some false) else (some true)) else (some false)) else (some false)
theorem laws_eqNode.calls (a0_0 : Int) (a0_1 : Int) (a0_2 : Bool) (a1_0 : Int) (a1_1 : Int) (a1_2 : Bool) (r : Bool) (w : World) (h : laws_eqNode.f a0_0 a0_1 a0_2 a1_0 a1_1 a1_2 = some r) :
  Calls Tryz.prog 85 #[.agg #[.int .i64 a0_0, .int .i64 a0_1, .bool a0_2], .agg #[.int .i64 a1_0, .int .i64 a1_1, .bool a1_2]] w fun e w' => e = .returned (.bool r) ∧ Below w.heap.size w w' := by
 have hu96 := Tryz.underlying96
 have HB := aM_ (Below.refl w.heap.size w)
 have H : (if a0_0 = a1_0 then (if a0_1 = a1_1 then (if (a0_2 != a1_2) = true then (some false) else (some true)) else (some false)) else (some false)) = some r := h
 clear h
 by_cases c3 : a0_0 = a1_0
 rotate_left
 ·
  rw [if_neg c3] at H
  have c3b0 : (a0_0 == a1_0) = false := beq_eq_false_iff_ne.mpr c3
  have c3b1 : (a0_0 != a1_0) = true := bne_iff_ne.mpr c3
  obtain rfl := Option.some.inj H
  go_enter Tryz.func85, Tryz.ntmps85
  go_wp2_with (first | (refine bx_ 2 #[.int .i64 a0_0, .int .i64 a0_1, .bool a0_2] 96 ?_; intro gb470 hg w21 hbox hb; have BK470 := aM_ (hbox); have GW470 := gw_ hg HB; replace HB := b4_ HB hb; clear hb hbox hg) | (refine bx_ 3 #[.int .i64 a1_0, .int .i64 a1_1, .bool a1_2] 96 ?_; intro gb471 hg w22 hbox hb; have BK471 := aM_ (hbox); have GW471 := gw_ hg HB; replace HB := b4_ HB hb; have NB470_471 := nb_ hg BK470; have NB471_470 := ns_ NB470_471; replace BK470 := b5_ BK470 hb; clear hb hbox hg; have hnb23 := NB470_471.out; have hnc23 := NB471_470.out; have hcz24_0 := c0_ BK470; have hcz24_1 := c1_ BK470; have hcz24_2 := c2_ BK470; have hfz24_0 := bF_ BK470.out 0; have hfz24_1 := bF_ BK470.out 1; have hfz24_2 := bF_ BK470.out 2; have hcz25_0 := c0_ BK471; have hcz25_1 := c1_ BK471; have hcz25_2 := c2_ BK471; have hfz25_0 := bF_ BK471.out 0; have hfz25_1 := bF_ BK471.out 1; have hfz25_2 := bF_ BK471.out 2))
  go_ret
  exact ⟨by rfl, by exact HB.out⟩
 rw [if_pos c3] at H
 have c3b0 : (a0_0 == a1_0) = true := beq_iff_eq.mpr c3
 have c3b1 : (a0_0 != a1_0) = false := bne_eq_false_iff_eq.mpr c3
 clear c3
 by_cases c4 : a0_1 = a1_1
 rotate_left
 ·
  rw [if_neg c4] at H
  have c4b0 : (a0_1 == a1_1) = false := beq_eq_false_iff_ne.mpr c4
  have c4b1 : (a0_1 != a1_1) = true := bne_iff_ne.mpr c4
  obtain rfl := Option.some.inj H
  go_enter Tryz.func85, Tryz.ntmps85
  go_wp2_with (first | (refine bx_ 2 #[.int .i64 a0_0, .int .i64 a0_1, .bool a0_2] 96 ?_; intro gb470 hg w16 hbox hb; have BK470 := aM_ (hbox); have GW470 := gw_ hg HB; replace HB := b4_ HB hb; clear hb hbox hg) | (refine bx_ 3 #[.int .i64 a1_0, .int .i64 a1_1, .bool a1_2] 96 ?_; intro gb471 hg w17 hbox hb; have BK471 := aM_ (hbox); have GW471 := gw_ hg HB; replace HB := b4_ HB hb; have NB470_471 := nb_ hg BK470; have NB471_470 := ns_ NB470_471; replace BK470 := b5_ BK470 hb; clear hb hbox hg; have hnb18 := NB470_471.out; have hnc18 := NB471_470.out; have hcz19_0 := c0_ BK470; have hcz19_1 := c1_ BK470; have hcz19_2 := c2_ BK470; have hfz19_0 := bF_ BK470.out 0; have hfz19_1 := bF_ BK470.out 1; have hfz19_2 := bF_ BK470.out 2; have hcz20_0 := c0_ BK471; have hcz20_1 := c1_ BK471; have hcz20_2 := c2_ BK471; have hfz20_0 := bF_ BK471.out 0; have hfz20_1 := bF_ BK471.out 1; have hfz20_2 := bF_ BK471.out 2))
  go_ret
  exact ⟨by rfl, by exact HB.out⟩
 rw [if_pos c4] at H
 have c4b0 : (a0_1 == a1_1) = true := beq_iff_eq.mpr c4
 have c4b1 : (a0_1 != a1_1) = false := bne_eq_false_iff_eq.mpr c4
 clear c4
 by_cases c5 : (a0_2 != a1_2) = true
 ·
  rw [if_pos c5] at H
  have c5b0 : (a0_2 != a1_2) = true := c5
  (try (have c5b1 : decide (a0_2 = a1_2) = false := by simpa using c5))
  (try (have c5b2 : (a0_2 == a1_2) = false := by simpa using c5))
  (try (have c5b3 : ¬ (a0_2 = a1_2) := by simpa using c5))
  clear c5
  obtain rfl := Option.some.inj H
  go_enter Tryz.func85, Tryz.ntmps85
  go_wp2_with (first | (refine bx_ 2 #[.int .i64 a0_0, .int .i64 a0_1, .bool a0_2] 96 ?_; intro gb470 hg w6 hbox hb; have BK470 := aM_ (hbox); have GW470 := gw_ hg HB; replace HB := b4_ HB hb; clear hb hbox hg) | (refine bx_ 3 #[.int .i64 a1_0, .int .i64 a1_1, .bool a1_2] 96 ?_; intro gb471 hg w7 hbox hb; have BK471 := aM_ (hbox); have GW471 := gw_ hg HB; replace HB := b4_ HB hb; have NB470_471 := nb_ hg BK470; have NB471_470 := ns_ NB470_471; replace BK470 := b5_ BK470 hb; clear hb hbox hg; have hnb8 := NB470_471.out; have hnc8 := NB471_470.out; have hcz9_0 := c0_ BK470; have hcz9_1 := c1_ BK470; have hcz9_2 := c2_ BK470; have hfz9_0 := bF_ BK470.out 0; have hfz9_1 := bF_ BK470.out 1; have hfz9_2 := bF_ BK470.out 2; have hcz10_0 := c0_ BK471; have hcz10_1 := c1_ BK471; have hcz10_2 := c2_ BK471; have hfz10_0 := bF_ BK471.out 0; have hfz10_1 := bF_ BK471.out 1; have hfz10_2 := bF_ BK471.out 2))
  go_ret
  exact ⟨by rfl, by exact HB.out⟩
 rw [if_neg c5] at H
 have c5b0 : (a0_2 != a1_2) = false := by simpa using c5
 (try (have c5b1 : decide (a0_2 = a1_2) = true := by simpa using c5))
 (try (have c5b2 : (a0_2 == a1_2) = true := by simpa using c5))
 clear c5
 obtain rfl := Option.some.inj H
 go_enter Tryz.func85, Tryz.ntmps85
 go_wp2_with (first | (refine bx_ 2 #[.int .i64 a0_0, .int .i64 a0_1, .bool a0_2] 96 ?_; intro gb470 hg w11 hbox hb; have BK470 := aM_ (hbox); have GW470 := gw_ hg HB; replace HB := b4_ HB hb; clear hb hbox hg) | (refine bx_ 3 #[.int .i64 a1_0, .int .i64 a1_1, .bool a1_2] 96 ?_; intro gb471 hg w12 hbox hb; have BK471 := aM_ (hbox); have GW471 := gw_ hg HB; replace HB := b4_ HB hb; have NB470_471 := nb_ hg BK470; have NB471_470 := ns_ NB470_471; replace BK470 := b5_ BK470 hb; clear hb hbox hg; have hnb13 := NB470_471.out; have hnc13 := NB471_470.out; have hcz14_0 := c0_ BK470; have hcz14_1 := c1_ BK470; have hcz14_2 := c2_ BK470; have hfz14_0 := bF_ BK470.out 0; have hfz14_1 := bF_ BK470.out 1; have hfz14_2 := bF_ BK470.out 2; have hcz15_0 := c0_ BK471; have hcz15_1 := c1_ BK471; have hcz15_2 := c2_ BK471; have hfz15_0 := bF_ BK471.out 0; have hfz15_1 := bF_ BK471.out 1; have hfz15_2 := bF_ BK471.out 2))
 go_ret
 exact ⟨by rfl, by exact HB.out⟩
def laws_eqNodeS.l0 : Nat → List (S96) → List (S96) → Int → Option (Bool)
 | 0, _, _, _ => none
 | k + 1, x0, x1, x5 => if x5 < (x0.length : Int) then (if 0 ≤ x5 then (if x5 < (x1.length : Int) then ((laws_eqNode.f ((rd_T96 x0 x5).f0) ((rd_T96 x0 x5).f1) ((rd_T96 x0 x5).f2) ((rd_T96 x1 x5).f0) ((rd_T96 x1 x5).f1) ((rd_T96 x1 x5).f2)).bind fun t474 => (if t474 = true then (laws_eqNodeS.l0 k x0 x1 (wrap64 (x5 + 1))) else (some false))) else (none)) else (none)) else (some true)
def laws_eqNodeS.f (k : Nat) (l0 : List (S96)) (l1 : List (S96)) : Option (Bool) := if (l0.length : Int) = (l1.length : Int) then (laws_eqNodeS.l0 k l0 l1 0) else (some false)
theorem laws_eqNodeS.mono_l : ∀ k, (∀ y0 y1 y2, LeO (laws_eqNodeS.l0 k y0 y1 y2) (laws_eqNodeS.l0 (k + 1) y0 y1 y2))
 | 0 => fun _ _ _ r h => by simp [laws_eqNodeS.l0] at h
 | k + 1 => by
  have ih0 := laws_eqNodeS.mono_l k
  intro y0 y1 y2
  unfold laws_eqNodeS.l0
  repeat' with_reducible first | exact ih0 _ _ _ | exact l3_ _ | exact l0_ _ | refine l2_ ?_ ?_ | refine l1_ ?_ (fun _ => ?_)
theorem laws_eqNodeS.mono : ∀ a0 a1 k, LeO (laws_eqNodeS.f k a0 a1) (laws_eqNodeS.f (k + 1) a0 a1) := by
 intro a0 a1 k
 have ih0 := laws_eqNodeS.mono_l k
 unfold laws_eqNodeS.f
 repeat' with_reducible first | exact ih0 _ _ _ | exact l3_ _ | exact l0_ _ | refine l2_ ?_ ?_ | refine l1_ ?_ (fun _ => ?_)
def laws_eqNodeS.T6 : Bool × List (List Nat × List Nat) := (true, [([], []), ([], []), ([0, 1], [0, 1]), ([2], [2]), ([], []), ([], []), ([4, 5], [4, 5]), ([6], [6]), ([3, 7], [3, 7]), ([8], [8])])
def laws_eqNodeS.B6 : List Nat := [0, 0, 3, 7, 0, 0, 48, 112, 255, 511]
theorem laws_eqNodeS.tab6 : rtab .any (opsOf Tryz.f52 6) = laws_eqNodeS.T6 := by kernel_rfl
theorem laws_eqNodeS.bits6 : waitsOk laws_eqNodeS.T6.2 laws_eqNodeS.B6 = true := by kernel_rfl
theorem laws_eqNodeS.calls (k : Nat) (A0 : Option Addr) (c0 : Nat) (l0 : List (S96)) (A1 : Option Addr) (c1 : Nat) (l1 : List (S96)) (r : Bool) (w : World) (hr0 : Kd.C k96 w A0 l0.length l0) (hc0 : l0.length ≤ c0) (hr1 : Kd.C k96 w A1 l1.length l1) (hc1 : l1.length ≤ c1) (h : laws_eqNodeS.f k l0 l1 = some r) :
  Calls Tryz.prog 52 #[.slice A0 l0.length c0, .slice A1 l1.length c1] w fun e w' => e = .returned (.bool r) ∧ Below w.heap.size w w' := by
 have hu96 := Tryz.underlying96
 have HR0 := aM_ hr0
 have HC0 := aM_ hc0
 clear hr0 hc0
 have HR1 := aM_ hr1
 have HC1 := aM_ hc1
 clear hr1 hc1
 have HB := aM_ (Below.refl w.heap.size w)
 have H : (if (l0.length : Int) = (l1.length : Int) then (laws_eqNodeS.l0 k l0 l1 0) else (some false)) = some r := h
 clear h
 by_cases c3 : (l0.length : Int) = (l1.length : Int)
 rotate_left
 ·
  rw [if_neg c3] at H
  have c3b0 : ((l0.length : Int) == (l1.length : Int)) = false := beq_eq_false_iff_ne.mpr c3
  have c3b1 : ((l0.length : Int) != (l1.length : Int)) = true := bne_iff_ne.mpr c3
  have c3b2 : (l0.length == l1.length) = false := by first | simpa using c3 | (simp at c3 ⊢; omega)
  obtain rfl := Option.some.inj H
  go_enter Tryz.func52, Tryz.ntmps52
  go_wp2
  go_ret
  exact ⟨by rfl, by exact HB.out⟩
 rw [if_pos c3] at H
 have c3b0 : ((l0.length : Int) == (l1.length : Int)) = true := beq_iff_eq.mpr c3
 have c3b1 : ((l0.length : Int) != (l1.length : Int)) = false := bne_eq_false_iff_eq.mpr c3
 have c3b2 : (l0.length == l1.length) = true := by first | simpa using c3 | (simp at c3 ⊢; omega)
 clear c3
 have H' := aM_ H
 clear H
 go_enter Tryz.func52, Tryz.ntmps52
 go_wp2
 go_loopg [5] k (fun kq v5 w' => ∃ (x5_1 : Int), v5 = .int .i64 x5_1 ∧ Aside0 (laws_eqNodeS.l0 kq l0 l1 x5_1 = some r) ∧ Aside0 (kq ≤ k) ∧ Aside0 (Below w.heap.size w w'))
 case atStart => exact ⟨(0), (by rfl), H', ⟨Nat.le_refl _⟩, ⟨HB.out⟩⟩
 clear H'
 try clear p2
 try clear c3b0
 try clear c3b1
 try clear c3b2
 obtain ⟨x5_1, rfl, HA, HK1, HB⟩ := hrel
 cases gk with
 | zero => exact absurd HA.out (by simp [laws_eqNodeS.l0])
 | succ k1 =>
  have H := HA.out
  clear HA
  simp only [laws_eqNodeS.l0] at H
  by_cases c4 : x5_1 < (l0.length : Int)
  rotate_left
  ·
   rw [if_neg c4] at H
   have c4b0 := dF_ c4
   clear c4
   obtain rfl := Option.some.inj H
   go_wp2
   go_ret
   exact ⟨by rfl, by exact HB.out⟩
  rw [if_pos c4] at H
  have c4b0 := dT_ c4
  clear c4
  by_cases c5 : 0 ≤ x5_1
  rotate_left
  ·
   rw [if_neg c5] at H
   exact absurd H (by simp)
  rw [if_pos c5] at H
  have c5b0 := dT_ c5
  clear c5
  by_cases c6 : x5_1 < (l1.length : Int)
  rotate_left
  ·
   rw [if_neg c6] at H
   exact absurd H (by simp)
  rw [if_pos c6] at H
  have c6b0 := dT_ c6
  clear c6
  replace H := oB_.mp H
  obtain ⟨t474, A70, H⟩ := H
  try dsimp only at H
  have A7 := aM_ A70
  clear A70
  by_cases c8 : t474 = true
  ·
   subst c8
   rw [if_pos rfl] at H
   have H' := aM_ H
   clear H
   try go_wp2
   replace HB := aM_ (bD_ HB.out)
   have p472 : 0 ≤ (x5_1 : Int) := oD_ ‹_›
   have q472 : x5_1 < (l0.length : Int) := oD_ ‹_›
   obtain ⟨ad472, e472, hx472_0, hx472_1, hx472_2⟩ := at_T96 HR0.out x5_1 p472 q472
   have hw472_2 := hx472_2
   have hw472_1 := hx472_1
   have hw472_0 := hx472_0
   cases e472
   replace hx472_0 := cb_ HB hx472_0
   replace hx472_1 := cb_ HB hx472_1
   replace hx472_2 := cb_ HB hx472_2
   replace p472 := eq_true p472
   replace q472 := eq_true q472
   have p473 : 0 ≤ (x5_1 : Int) := oD_ ‹_›
   have q473 : x5_1 < (l1.length : Int) := oD_ ‹_›
   obtain ⟨ad473, e473, hx473_0, hx473_1, hx473_2⟩ := at_T96 HR1.out x5_1 p473 q473
   have hw473_2 := hx473_2
   have hw473_1 := hx473_1
   have hw473_0 := hx473_0
   cases e473
   replace hx473_0 := cb_ HB hx473_0
   replace hx473_1 := cb_ HB hx473_1
   replace hx473_2 := cb_ HB hx473_2
   replace p473 := eq_true p473
   replace q473 := eq_true q473
   refine start_ (n := 10) (S := fun w' => w'.cell? (ad472.add ((x5_1).toNat * 3)) = some (.int .i64 ((rd_T96 l0 x5_1).f0)) ∧ w'.cell? ⟨(ad472.add ((x5_1).toNat * 3)).block, (ad472.add ((x5_1).toNat * 3)).off + 1, none⟩ = some (.int .i64 ((rd_T96 l0 x5_1).f1)) ∧ w'.cell? ⟨(ad472.add ((x5_1).toNat * 3)).block, (ad472.add ((x5_1).toNat * 3)).off + 2, none⟩ = some (.bool ((rd_T96 l0 x5_1).f2)) ∧ w'.cell? (ad473.add ((x5_1).toNat * 3)) = some (.int .i64 ((rd_T96 l1 x5_1).f0)) ∧ w'.cell? ⟨(ad473.add ((x5_1).toNat * 3)).block, (ad473.add ((x5_1).toNat * 3)).off + 1, none⟩ = some (.int .i64 ((rd_T96 l1 x5_1).f1)) ∧ w'.cell? ⟨(ad473.add ((x5_1).toNat * 3)).block, (ad473.add ((x5_1).toNat * 3)).off + 2, none⟩ = some (.bool ((rd_T96 l1 x5_1).f2))) (ds := []) #[fy, fy, fy, fy, fy, fy, fy, fy, fy, fy] (by kernel_rfl) rfl rfl ⟨(cb_ HB hw472_0), (cb_ HB hw472_1), (cb_ HB hw472_2), (cb_ HB hw473_0), (cb_ HB hw473_1), (cb_ HB hw473_2)⟩ (fun hHeld => ?_); refine with_tabW laws_eqNodeS.tab6 laws_eqNodeS.bits6 (fun HT_ HW_ => ?_)
   generalize wr.drew = w9 at HB hx472_0 hx472_1 hx472_2 hx473_0 hx473_1 hx473_2 hHeld ⊢
   refine pu_ HT_ 0 17 #[ty, fy, fy, fy, fy, fy, fy, fy, fy, fy] ?_
   refine pu_ HT_ 1 18 #[ty, ty, fy, fy, fy, fy, fy, fy, fy, fy] ?_
   refine pu_ HT_ 2 19 #[ty, ty, ty, fy, fy, fy, fy, fy, fy, fy] ?_
   refine pu_ HT_ 4 21 #[ty, ty, ty, fy, ty, fy, fy, fy, fy, fy] ?_
   refine pu_ HT_ 5 22 #[ty, ty, ty, fy, ty, ty, fy, fy, fy, fy] ?_
   refine pu_ HT_ 6 23 #[ty, ty, ty, fy, ty, ty, ty, fy, fy, fy] ?_
   refine tk_ HT_ HW_ 3 20 #[ty, ty, ty, ty, ty, ty, ty, fy, fy, fy] hHeld ?_ (hr := by rintro w' ⟨s0, s1, s2, s3, s4, s5⟩; go_simp; with_reducible rfl)
   refine tk_ HT_ HW_ 7 24 #[ty, ty, ty, ty, ty, ty, ty, ty, fy, fy] hHeld ?_ (hr := by rintro w' ⟨s0, s1, s2, s3, s4, s5⟩; go_simp; with_reducible rfl)
   refine one_ (i := 8) (N := some 25) #[ty, ty, ty, ty, ty, ty, ty, ty, ty, fy] rfl rfl (one_of HT_.out (by kernel_rfl)) (by decide) (fun K hK => ?_)
   refine goes_ Tryz.func85 (by kernel_rfl) rfl #[.agg #[.int .i64 ((rd_T96 l0 x5_1).f0), .int .i64 ((rd_T96 l0 x5_1).f1), .bool ((rd_T96 l0 x5_1).f2)], .agg #[.int .i64 ((rd_T96 l1 x5_1).f0), .int .i64 ((rd_T96 l1 x5_1).f1), .bool ((rd_T96 l1 x5_1).f2)]] (by rfl) rfl rfl (by (try simp only [sD_, sE_, sF_]); rfl) ?_
   with_reducible refine (laws_eqNode.calls ((rd_T96 l0 x5_1).f0) ((rd_T96 l0 x5_1).f1) ((rd_T96 l0 x5_1).f2) ((rd_T96 l1 x5_1).f0) ((rd_T96 l1 x5_1).f1) ((rd_T96 l1 x5_1).f2) true _ A7.out).mono ?_
   rintro e w10 ⟨rfl, hb⟩
   refine ⟨_, rfl, ?_⟩
   replace HB := b4_ HB hb
   (try clear hb)
   refine hK.out _ _ ⟨(cb_ HB hw472_0), (cb_ HB hw472_1), (cb_ HB hw472_2), (cb_ HB hw473_0), (cb_ HB hw473_1), (cb_ HB hw473_2)⟩ (fun hHeld => ?_)
   clear hK K
   refine norm_ (by show Act.put _ (some 25) _ = _; simp only [Act.put, sA_, sB_, sC_, i6_, i3_]; rfl) ?_
   refine pu_ HT_ 9 26 #[ty, ty, ty, ty, ty, ty, ty, ty, ty, ty] ?_
   refine done_ (done_of HT_.out (by kernel_rfl)) ?_
   try go_wp2
   go_roundg k1
   case measure => have := HK1.out; omega
   case rel => exact ⟨(wrap64 (x5_1 + 1)), (by rfl), H', ⟨by have := HK1.out; omega⟩, ⟨HB.out⟩⟩
  replace c8 := Bool.eq_false_iff.mpr c8
  subst c8
  replace H : (some false) = some r := by rw [if_neg (show ¬ (false = true) by decide)] at H; exact H
  obtain rfl := Option.some.inj H
  try go_wp2
  replace HB := aM_ (bD_ HB.out)
  have p472 : 0 ≤ (x5_1 : Int) := oD_ ‹_›
  have q472 : x5_1 < (l0.length : Int) := oD_ ‹_›
  obtain ⟨ad472, e472, hx472_0, hx472_1, hx472_2⟩ := at_T96 HR0.out x5_1 p472 q472
  have hw472_2 := hx472_2
  have hw472_1 := hx472_1
  have hw472_0 := hx472_0
  cases e472
  replace hx472_0 := cb_ HB hx472_0
  replace hx472_1 := cb_ HB hx472_1
  replace hx472_2 := cb_ HB hx472_2
  replace p472 := eq_true p472
  replace q472 := eq_true q472
  have p473 : 0 ≤ (x5_1 : Int) := oD_ ‹_›
  have q473 : x5_1 < (l1.length : Int) := oD_ ‹_›
  obtain ⟨ad473, e473, hx473_0, hx473_1, hx473_2⟩ := at_T96 HR1.out x5_1 p473 q473
  have hw473_2 := hx473_2
  have hw473_1 := hx473_1
  have hw473_0 := hx473_0
  cases e473
  replace hx473_0 := cb_ HB hx473_0
  replace hx473_1 := cb_ HB hx473_1
  replace hx473_2 := cb_ HB hx473_2
  replace p473 := eq_true p473
  replace q473 := eq_true q473
  refine start_ (n := 10) (S := fun w' => w'.cell? (ad472.add ((x5_1).toNat * 3)) = some (.int .i64 ((rd_T96 l0 x5_1).f0)) ∧ w'.cell? ⟨(ad472.add ((x5_1).toNat * 3)).block, (ad472.add ((x5_1).toNat * 3)).off + 1, none⟩ = some (.int .i64 ((rd_T96 l0 x5_1).f1)) ∧ w'.cell? ⟨(ad472.add ((x5_1).toNat * 3)).block, (ad472.add ((x5_1).toNat * 3)).off + 2, none⟩ = some (.bool ((rd_T96 l0 x5_1).f2)) ∧ w'.cell? (ad473.add ((x5_1).toNat * 3)) = some (.int .i64 ((rd_T96 l1 x5_1).f0)) ∧ w'.cell? ⟨(ad473.add ((x5_1).toNat * 3)).block, (ad473.add ((x5_1).toNat * 3)).off + 1, none⟩ = some (.int .i64 ((rd_T96 l1 x5_1).f1)) ∧ w'.cell? ⟨(ad473.add ((x5_1).toNat * 3)).block, (ad473.add ((x5_1).toNat * 3)).off + 2, none⟩ = some (.bool ((rd_T96 l1 x5_1).f2))) (ds := []) #[fy, fy, fy, fy, fy, fy, fy, fy, fy, fy] (by kernel_rfl) rfl rfl ⟨(cb_ HB hw472_0), (cb_ HB hw472_1), (cb_ HB hw472_2), (cb_ HB hw473_0), (cb_ HB hw473_1), (cb_ HB hw473_2)⟩ (fun hHeld => ?_); refine with_tabW laws_eqNodeS.tab6 laws_eqNodeS.bits6 (fun HT_ HW_ => ?_)
  generalize wr.drew = w11 at HB hx472_0 hx472_1 hx472_2 hx473_0 hx473_1 hx473_2 hHeld ⊢
  refine pu_ HT_ 0 17 #[ty, fy, fy, fy, fy, fy, fy, fy, fy, fy] ?_
  refine pu_ HT_ 1 18 #[ty, ty, fy, fy, fy, fy, fy, fy, fy, fy] ?_
  refine pu_ HT_ 2 19 #[ty, ty, ty, fy, fy, fy, fy, fy, fy, fy] ?_
  refine pu_ HT_ 4 21 #[ty, ty, ty, fy, ty, fy, fy, fy, fy, fy] ?_
  refine pu_ HT_ 5 22 #[ty, ty, ty, fy, ty, ty, fy, fy, fy, fy] ?_
  refine pu_ HT_ 6 23 #[ty, ty, ty, fy, ty, ty, ty, fy, fy, fy] ?_
  refine tk_ HT_ HW_ 3 20 #[ty, ty, ty, ty, ty, ty, ty, fy, fy, fy] hHeld ?_ (hr := by rintro w' ⟨s0, s1, s2, s3, s4, s5⟩; go_simp; with_reducible rfl)
  refine tk_ HT_ HW_ 7 24 #[ty, ty, ty, ty, ty, ty, ty, ty, fy, fy] hHeld ?_ (hr := by rintro w' ⟨s0, s1, s2, s3, s4, s5⟩; go_simp; with_reducible rfl)
  refine one_ (i := 8) (N := some 25) #[ty, ty, ty, ty, ty, ty, ty, ty, ty, fy] rfl rfl (one_of HT_.out (by kernel_rfl)) (by decide) (fun K hK => ?_)
  refine goes_ Tryz.func85 (by kernel_rfl) rfl #[.agg #[.int .i64 ((rd_T96 l0 x5_1).f0), .int .i64 ((rd_T96 l0 x5_1).f1), .bool ((rd_T96 l0 x5_1).f2)], .agg #[.int .i64 ((rd_T96 l1 x5_1).f0), .int .i64 ((rd_T96 l1 x5_1).f1), .bool ((rd_T96 l1 x5_1).f2)]] (by rfl) rfl rfl (by (try simp only [sD_, sE_, sF_]); rfl) ?_
  with_reducible refine (laws_eqNode.calls ((rd_T96 l0 x5_1).f0) ((rd_T96 l0 x5_1).f1) ((rd_T96 l0 x5_1).f2) ((rd_T96 l1 x5_1).f0) ((rd_T96 l1 x5_1).f1) ((rd_T96 l1 x5_1).f2) false _ A7.out).mono ?_
  rintro e w12 ⟨rfl, hb⟩
  refine ⟨_, rfl, ?_⟩
  replace HB := b4_ HB hb
  (try clear hb)
  refine hK.out _ _ ⟨(cb_ HB hw472_0), (cb_ HB hw472_1), (cb_ HB hw472_2), (cb_ HB hw473_0), (cb_ HB hw473_1), (cb_ HB hw473_2)⟩ (fun hHeld => ?_)
  clear hK K
  refine norm_ (by show Act.put _ (some 25) _ = _; simp only [Act.put, sA_, sB_, sC_, i6_, i3_]; rfl) ?_
  refine pu_ HT_ 9 26 #[ty, ty, ty, ty, ty, ty, ty, ty, ty, ty] ?_
  refine done_ (done_of HT_.out (by kernel_rfl)) ?_
  try go_wp2
  go_ret
  exact ⟨by rfl, by exact HB.out⟩
def laws_eqTrie.f (k : Nat) (l0_0 : List (S96)) (l1_0 : List (S96)) : Option (Bool) := (laws_eqNodeS.f k l0_0 l1_0).bind fun t477 => (if t477 = true then (some true) else (some false))
theorem laws_eqTrie.mono : ∀ a0 a1 k, LeO (laws_eqTrie.f k a0 a1) (laws_eqTrie.f (k + 1) a0 a1) := by
 intro a0 a1 k
 unfold laws_eqTrie.f
 repeat' with_reducible first | exact laws_eqNodeS.mono _ _ _ | exact l3_ _ | exact l0_ _ | refine l2_ ?_ ?_ | refine l1_ ?_ (fun _ => ?_)
theorem laws_eqTrie.calls (k : Nat) (A0_0 : Option Addr) (c0_0 : Nat) (l0_0 : List (S96)) (A1_0 : Option Addr) (c1_0 : Nat) (l1_0 : List (S96)) (r : Bool) (w : World) (hr0_0 : Kd.C k96 w A0_0 l0_0.length l0_0) (hc0_0 : l0_0.length ≤ c0_0) (hr1_0 : Kd.C k96 w A1_0 l1_0.length l1_0) (hc1_0 : l1_0.length ≤ c1_0) (h : laws_eqTrie.f k l0_0 l1_0 = some r) :
  Calls Tryz.prog 17 #[.agg #[.slice A0_0 l0_0.length c0_0], .agg #[.slice A1_0 l1_0.length c1_0]] w fun e w' => e = .returned (.bool r) ∧ Below w.heap.size w w' := by
 have hu28 := Tryz.underlying28
 have HR0_0 := aM_ hr0_0
 have HC0_0 := aM_ hc0_0
 clear hr0_0 hc0_0
 have HR1_0 := aM_ hr1_0
 have HC1_0 := aM_ hc1_0
 clear hr1_0 hc1_0
 have HB := aM_ (Below.refl w.heap.size w)
 have H : ((laws_eqNodeS.f k l0_0 l1_0).bind fun t477 => (if t477 = true then (some true) else (some false))) = some r := h
 clear h
 replace H := oB_.mp H
 obtain ⟨t477, A30, H⟩ := H
 try dsimp only at H
 have A3 := aM_ A30
 clear A30
 by_cases c4 : t477 = true
 ·
  subst c4
  rw [if_pos rfl] at H
  obtain rfl := Option.some.inj H
  go_enter Tryz.func17, Tryz.ntmps17
  go_wp2_with (first | (refine bx_ 2 #[.slice A0_0 l0_0.length c0_0] 28 ?_; intro gb475 hg w5 hbox hb; have BK475 := aM_ (hbox); have GW475 := gw_ hg HB; replace HB := b4_ HB hb; clear hb hbox hg) | (refine bx_ 3 #[.slice A1_0 l1_0.length c1_0] 28 ?_; intro gb476 hg w6 hbox hb; have BK476 := aM_ (hbox); have GW476 := gw_ hg HB; replace HB := b4_ HB hb; have NB475_476 := nb_ hg BK475; have NB476_475 := ns_ NB475_476; replace BK475 := b5_ BK475 hb; clear hb hbox hg; have hnb7 := NB475_476.out; have hnc7 := NB476_475.out; have hcz8_0 := c0_ BK475; have hfz8_0 := bF_ BK475.out 0; have hcz9_0 := c0_ BK476; have hfz9_0 := bF_ BK476.out 0) | (refine gs_ 9 Tryz.func52 #[.slice A0_0 l0_0.length c0_0, .slice A1_0 l1_0.length c1_0] ?_; (with_reducible refine (laws_eqNodeS.calls k _ _ l0_0 _ _ l1_0 true _ ?side1 HC0_0.out ?side3 HC1_0.out A3.out).mono ?_); (case side1 => repeat (first | exact (k4_ HR0_0.out HB.out) | with_reducible first | apply cA_ | apply cN_ | apply cD_)); (case side3 => repeat (first | exact (k4_ HR1_0.out HB.out) | with_reducible first | apply cA_ | apply cN_ | apply cD_)); rintro e w10 ⟨rfl, hb⟩; refine ⟨_, rfl, ?_⟩; replace BK475 := b5_ BK475 hb; replace BK476 := b5_ BK476 hb; replace HB := b4_ HB hb; (try clear hb)))
  go_ret
  exact ⟨by rfl, by exact HB.out⟩
 replace c4 := Bool.eq_false_iff.mpr c4
 subst c4
 replace H : (some false) = some r := by rw [if_neg (show ¬ (false = true) by decide)] at H; exact H
 obtain rfl := Option.some.inj H
 go_enter Tryz.func17, Tryz.ntmps17
 go_wp2_with (first | (refine bx_ 2 #[.slice A0_0 l0_0.length c0_0] 28 ?_; intro gb475 hg w11 hbox hb; have BK475 := aM_ (hbox); have GW475 := gw_ hg HB; replace HB := b4_ HB hb; clear hb hbox hg) | (refine bx_ 3 #[.slice A1_0 l1_0.length c1_0] 28 ?_; intro gb476 hg w12 hbox hb; have BK476 := aM_ (hbox); have GW476 := gw_ hg HB; replace HB := b4_ HB hb; have NB475_476 := nb_ hg BK475; have NB476_475 := ns_ NB475_476; replace BK475 := b5_ BK475 hb; clear hb hbox hg; have hnb13 := NB475_476.out; have hnc13 := NB476_475.out; have hcz14_0 := c0_ BK475; have hfz14_0 := bF_ BK475.out 0; have hcz15_0 := c0_ BK476; have hfz15_0 := bF_ BK476.out 0) | (refine gs_ 9 Tryz.func52 #[.slice A0_0 l0_0.length c0_0, .slice A1_0 l1_0.length c1_0] ?_; (with_reducible refine (laws_eqNodeS.calls k _ _ l0_0 _ _ l1_0 false _ ?side1 HC0_0.out ?side3 HC1_0.out A3.out).mono ?_); (case side1 => repeat (first | exact (k4_ HR0_0.out HB.out) | with_reducible first | apply cA_ | apply cN_ | apply cD_)); (case side3 => repeat (first | exact (k4_ HR1_0.out HB.out) | with_reducible first | apply cA_ | apply cN_ | apply cD_)); rintro e w16 ⟨rfl, hb⟩; refine ⟨_, rfl, ?_⟩; replace BK475 := b5_ BK475 hb; replace BK476 := b5_ BK476 hb; replace HB := b4_ HB hb; (try clear hb)))
 go_ret
 exact ⟨by rfl, by exact HB.out⟩
def laws_markNodeS.l0 : Nat → List (S96) → Int → Int → Option (Int × (List (S96)))
 | 0, _, _, _ => none
 | k + 1, x0, x1, x5 => if x5 < (x0.length : Int) then (if 0 ≤ x5 then ((some (x0.set (x5 : Int).toNat (⟨x1, (rd_T96 x0 x5).f1, (rd_T96 x0 x5).f2⟩ : S96) : List (S96))).bind fun y490 => ((some (y490.set (x5 : Int).toNat (⟨(rd_T96 y490 x5).f0, wrap64 (x1 + 1), (rd_T96 y490 x5).f2⟩ : S96) : List (S96))).bind fun y491 => (laws_markNodeS.l0 k (y491.set (x5 : Int).toNat (⟨(rd_T96 y491 x5).f0, (rd_T96 y491 x5).f1, ((Int.tmod (wrap64 ((wrap64 (x1 + 1)) + 1)) 3) == 0)⟩ : S96)) (wrap64 ((wrap64 ((wrap64 (x1 + 1)) + 1)) + 1)) (wrap64 (x5 + 1))))) else (none)) else (some (x1, x0))
def laws_markNodeS.f (k : Nat) (l0 : List (S96)) (a1 : Int) : Option (Int × (List (S96))) := laws_markNodeS.l0 k l0 a1 0
theorem laws_markNodeS.mono_l : ∀ k, (∀ y0 y1 y2, LeO (laws_markNodeS.l0 k y0 y1 y2) (laws_markNodeS.l0 (k + 1) y0 y1 y2))
 | 0 => fun _ _ _ r h => by simp [laws_markNodeS.l0] at h
 | k + 1 => by
  have ih0 := laws_markNodeS.mono_l k
  intro y0 y1 y2
  unfold laws_markNodeS.l0
  repeat' with_reducible first | exact ih0 _ _ _ | exact l3_ _ | exact l0_ _ | refine l2_ ?_ ?_ | refine l1_ ?_ (fun _ => ?_)
theorem laws_markNodeS.mono : ∀ a0 a1 k, LeO (laws_markNodeS.f k a0 a1) (laws_markNodeS.f (k + 1) a0 a1) := by
 intro a0 a1 k
 have ih0 := laws_markNodeS.mono_l k
 unfold laws_markNodeS.f
 repeat' with_reducible first | exact ih0 _ _ _ | exact l3_ _ | exact l0_ _ | refine l2_ ?_ ?_ | refine l1_ ?_ (fun _ => ?_)
theorem laws_markNodeS.calls (k : Nat) (P0_ : Nat → Prop) (u9000_ : Value) (l0 : List (S96)) (a1 : Int) (r1 : Int) (r2 : List (S96)) (w0 w : World) (hB : Below w0.heap.size w0 w) (ho0 : Kd.R k96 96 w w0.heap.size P0_ u9000_ l0) (h : laws_markNodeS.f k l0 a1 = some (r1, r2)) :
  Calls Tryz.prog 55 #[u9000_, .int .i64 a1] w fun e w' => e = .returned (.int .i64 r1) ∧ Kd.R k96 96 w' w0.heap.size (fun k_ => (P0_ k_ ∨ w.heap.size ≤ k_)) u9000_ r2 ∧ Below w0.heap.size w0 w' ∧ Kept w w' (fun k_ => P0_ k_) := by
 have HO0 := aM_ (show Kd.R k96 96 w w0.heap.size (fun k_ => (P0_ k_ ∨ w.heap.size ≤ k_)) u9000_ l0 from kM_ ho0 (fun k_ hk => (.inl hk)))
 have HK := aM_ (Kept.refl w (fun k_ => P0_ k_))
 have HW0 := aM_ hB.size
 have HB := aM_ hB
 clear hB
 have H : (laws_markNodeS.l0 k l0 a1 0) = some (r1, r2) := h
 clear h
 have H' := aM_ H
 clear H
 go_enter Tryz.func55, Tryz.ntmps55
 go_wp2
 go_loopg [1, 5] k (fun kq v1 v5 w' => ∃ (x0_1 : List (S96)) (x1_1 : Int) (x5_1 : Int), v1 = .int .i64 x1_1 ∧ v5 = .int .i64 x5_1 ∧ Aside0 (laws_markNodeS.l0 kq x0_1 x1_1 x5_1 = some (r1, r2)) ∧ Aside0 (kq ≤ k) ∧ Aside0 (Kd.R k96 96 w' w0.heap.size (fun k_ => (P0_ k_ ∨ w.heap.size ≤ k_)) u9000_ x0_1) ∧ Aside0 (Kept w w' (fun k_ => P0_ k_)) ∧ Aside0 (Below w0.heap.size w0 w'))
 case atStart => exact ⟨(l0), (a1), (0), (by rfl), (by rfl), H', ⟨Nat.le_refl _⟩, ⟨HO0.out⟩, ⟨by repeat (first | (with_reducible first | exact HK.out | apply Kept.alloc | apply Kept.drewN | apply Kept.drew) | exact HK.out)⟩, ⟨HB.out⟩⟩
 clear H'
 try clear p2
 obtain ⟨x0_1, x1_1, x5_1, rfl, rfl, HA, HK1, HO_0, HK, HB⟩ := hrel
 cases gk with
 | zero => exact absurd HA.out (by simp [laws_markNodeS.l0])
 | succ k1 =>
  have H := HA.out
  clear HA
  simp only [laws_markNodeS.l0] at H
  by_cases c3 : x5_1 < (x0_1.length : Int)
  rotate_left
  ·
   rw [if_neg c3] at H
   have c3b0 := dF_ c3
   clear c3
   simp only [Option.some.injEq, Prod.mk.injEq] at H
   obtain ⟨rfl, rfl⟩ := H
   obtain ⟨Ao15, co15, eo15⟩ := kS_ HO_0.out
   subst eo15
   go_wp2
   go_ret
   exact ⟨by rfl, by exact HO_0.out, by exact HB.out, by repeat (first | (with_reducible first | exact HK.out | apply Kept.alloc | apply Kept.drewN | apply Kept.drew) | exact HK.out)⟩
  rw [if_pos c3] at H
  have c3b0 := dT_ c3
  clear c3
  by_cases c4 : 0 ≤ x5_1
  rotate_left
  ·
   rw [if_neg c4] at H
   exact absurd H (by simp)
  rw [if_pos c4] at H
  have c4b0 := dT_ c4
  clear c4
  obtain ⟨y490, hy490⟩ : ∃ y_ : List (S96), y_ = (x0_1.set (x5_1 : Int).toNat (⟨x1_1, (rd_T96 x0_1 x5_1).f1, (rd_T96 x0_1 x5_1).f2⟩ : S96)) := ⟨_, rfl⟩
  replace H : ((some (y490.set (x5_1 : Int).toNat (⟨(rd_T96 y490 x5_1).f0, wrap64 (x1_1 + 1), (rd_T96 y490 x5_1).f2⟩ : S96) : List (S96))).bind fun y491 => (laws_markNodeS.l0 k1 (y491.set (x5_1 : Int).toNat (⟨(rd_T96 y491 x5_1).f0, (rd_T96 y491 x5_1).f1, ((Int.tmod (wrap64 ((wrap64 (x1_1 + 1)) + 1)) 3) == 0)⟩ : S96)) (wrap64 ((wrap64 ((wrap64 (x1_1 + 1)) + 1)) + 1)) (wrap64 (x5_1 + 1)))) = some (r1, r2) := by (try rw [hy490]); first | with_reducible exact H | with_reducible exact oS_ H | exact H
  have Ny490 := aM_ hy490
  clear hy490
  obtain ⟨y491, hy491⟩ : ∃ y_ : List (S96), y_ = (y490.set (x5_1 : Int).toNat (⟨(rd_T96 y490 x5_1).f0, wrap64 (x1_1 + 1), (rd_T96 y490 x5_1).f2⟩ : S96)) := ⟨_, rfl⟩
  replace H : (laws_markNodeS.l0 k1 (y491.set (x5_1 : Int).toNat (⟨(rd_T96 y491 x5_1).f0, (rd_T96 y491 x5_1).f1, ((Int.tmod (wrap64 ((wrap64 (x1_1 + 1)) + 1)) 3) == 0)⟩ : S96)) (wrap64 ((wrap64 ((wrap64 (x1_1 + 1)) + 1)) + 1)) (wrap64 (x5_1 + 1))) = some (r1, r2) := by (try rw [hy491]); first | with_reducible exact H | with_reducible exact oS_ H | exact H
  have Ny491 := aM_ hy491
  clear hy491
  obtain ⟨y492, hy492⟩ : ∃ y_ : List (S96), y_ = (y491.set (x5_1 : Int).toNat (⟨(rd_T96 y491 x5_1).f0, (rd_T96 y491 x5_1).f1, ((Int.tmod (wrap64 ((wrap64 (x1_1 + 1)) + 1)) 3) == 0)⟩ : S96)) := ⟨_, rfl⟩
  replace H : (laws_markNodeS.l0 k1 y492 (wrap64 ((wrap64 ((wrap64 (x1_1 + 1)) + 1)) + 1)) (wrap64 (x5_1 + 1))) = some (r1, r2) := by (try rw [hy492]); first | with_reducible exact H | with_reducible exact oS_ H | exact H
  have Ny492 := aM_ hy492
  clear hy492
  have H' := aM_ H
  clear H
  obtain ⟨Ao8, co8, eo8⟩ := kS_ HO_0.out
  subst eo8
  have p5 : 0 ≤ (x5_1 : Int) := oD_ ‹_›
  have q5 : (x5_1 : Int) < ((x0_1.length : Int) : Int) := oD_ ‹_›
  obtain ⟨go5, co5, eo5, gb5, gl5, cl5, HG5⟩ := Kd.R_form HO_0.out (by omega)
  (cases eo5)
  have GB5 := aM_ gb5
  have GG5 := aM_ HG5
  clear gb5 gl5 HG5
  have HMgo5 := aM_ (show (P0_ go5 ∨ w.heap.size ≤ go5) from (HO_0.out.1 _ rfl))
  obtain ⟨ce5, hcl5, hM5, hcc5, hfr5⟩ := Kd.R_elem HO_0.out z96 (x5_1 : Int) p5 q5
  obtain rfl := k96_openM hM5
  have hx5_0 : wr.cell? ⟨go5, (x5_1 : Int).toNat * 3, none⟩ = some (.int .i64 ((rd_T96 x0_1 x5_1).f0)) := hcc5 0 _ rfl
  have hx5_1 : wr.cell? ⟨go5, (x5_1 : Int).toNat * 3 + 1, none⟩ = some (.int .i64 ((rd_T96 x0_1 x5_1).f1)) := hcc5 1 _ rfl
  have hx5_2 : wr.cell? ⟨go5, (x5_1 : Int).toNat * 3 + 2, none⟩ = some (.bool ((rd_T96 x0_1 x5_1).f2)) := hcc5 2 _ rfl
  have hf5_0 : wr.frozen? ⟨go5, (x5_1 : Int).toNat * 3, none⟩ = false := hfr5 0
  have hf5_1 : wr.frozen? ⟨go5, (x5_1 : Int).toNat * 3 + 1, none⟩ = false := hfr5 1
  have hf5_2 : wr.frozen? ⟨go5, (x5_1 : Int).toNat * 3 + 2, none⟩ = false := hfr5 2
  clear hcl5 hcc5 hfr5 hM5
  replace p5 := eq_true p5
  replace q5 := eq_true q5
  have HX9 := aM_ (show Kd.R k96 96 wr w0.heap.size (fun k_ => (P0_ k_ ∨ w.heap.size ≤ k_)) (.slice (some ⟨go5, 0, none⟩) x0_1.length co8) x0_1 from HO_0.out)
  obtain ⟨ce9, hcl9, hM9, hcc9, hfr9⟩ := Kd.R_elem HX9.out z96 (x5_1 : Int) (oD_ ‹_›) (by have h_ : (x5_1 : Int) < ((x0_1.length : Int) : Int) := oD_ ‹_›; exact h_)
  obtain rfl := k96_openM hM9
  have HP9 := Kd.R_seg HX9.out (x5_1 : Int) (oD_ ‹_›) (by have h_ : (x5_1 : Int) < ((x0_1.length : Int) : Int) := oD_ ‹_›; exact h_) (seg := [.int .i64 x1_1]) (j := 0) hcl9 hcc9 (show 1 ≤ 3 from by decide) (x' := (⟨x1_1, (rd_T96 x0_1 x5_1).f1, (rd_T96 x0_1 x5_1).f2⟩ : S96)) (k96_mkM _ _ _ (⟨x1_1, (rd_T96 x0_1 x5_1).f1, (rd_T96 x0_1 x5_1).f2⟩ : S96) ) (fun _ hk => hk)
  have hx9_0 := hcc9 0 _ rfl
  (try simp only [show (k96).sz = 3 from rfl, Nat.mul_one, Nat.add_zero] at hx9_0)
  have hf9_0 := hfr9 0
  (try simp only [show (k96).sz = 3 from rfl, Nat.mul_one, Nat.add_zero] at hf9_0)
  clear hcl9 hcc9 hfr9 hM9
  go_wp2_with (first | ((with_reducible refine gate_store (t := 3) (p := 16) rfl ?_); refine store_event (t := 3) (p := 16) (v := ?vo_w10) (w1 := (wr.setCell ⟨go5, (x5_1 : Int).toNat * 3, none⟩ (.int .i64 x1_1))) ?hg ?ho ?hn ?hr ?_; (case ho => rfl); (case hg => rfl); (case hn => rfl); (case hr => (go_simp; done)); intro w10 hw; have hg : wr.grownBy w10 (some go5) := (by rw [hw]; exact HP9.2); have hp_ : Kd.R k96 96 w10 w0.heap.size (fun k_ => (P0_ k_ ∨ w.heap.size ≤ k_)) (.slice (some ⟨go5, 0, none⟩) x0_1.length co8) y490 := (by rw [hw, Ny490.out]; exact HP9.1); clear HP9; replace HB := aM_ ((by rw [hw]; exact bS_ (HB.out) GB5.out : Below w0.heap.size w0 w10)); replace HK := aM_ (Kept.of_grown (S := (fun k_ => P0_ k_)) hg (by repeat (first | (with_reducible first | exact HK.out | apply Kept.alloc | apply Kept.drewN | apply Kept.drew) | exact HK.out)) (fun k_ e_ => (HO_0.out.1 k_ e_))); replace HO_0 := aM_ (hp_); clear hg hw hp_; have p6 : 0 ≤ (x5_1 : Int) := oD_ ‹_›; have q6 : (x5_1 : Int) < ((x0_1.length : Int) : Int) := oD_ ‹_›; obtain ⟨ce6, hcl6, hM6, hcc6, hfr6⟩ := Kd.R_elem HO_0.out z96 (x5_1 : Int) p6 q6; obtain rfl := k96_openM hM6; have hx6_0 : w10.cell? ⟨go5, (x5_1 : Int).toNat * 3, none⟩ = some (.int .i64 ((rd_T96 y490 x5_1).f0)) := hcc6 0 _ rfl; have hx6_1 : w10.cell? ⟨go5, (x5_1 : Int).toNat * 3 + 1, none⟩ = some (.int .i64 ((rd_T96 y490 x5_1).f1)) := hcc6 1 _ rfl; have hx6_2 : w10.cell? ⟨go5, (x5_1 : Int).toNat * 3 + 2, none⟩ = some (.bool ((rd_T96 y490 x5_1).f2)) := hcc6 2 _ rfl; have hf6_0 : w10.frozen? ⟨go5, (x5_1 : Int).toNat * 3, none⟩ = false := hfr6 0; have hf6_1 : w10.frozen? ⟨go5, (x5_1 : Int).toNat * 3 + 1, none⟩ = false := hfr6 1; have hf6_2 : w10.frozen? ⟨go5, (x5_1 : Int).toNat * 3 + 2, none⟩ = false := hfr6 2; clear hcl6 hcc6 hfr6 hM6; replace p6 := eq_true p6; replace q6 := eq_true q6; have HX11 := aM_ (show Kd.R k96 96 w10 w0.heap.size (fun k_ => (P0_ k_ ∨ w.heap.size ≤ k_)) (.slice (some ⟨go5, 0, none⟩) x0_1.length co8) y490 from HO_0.out); obtain ⟨ce11, hcl11, hM11, hcc11, hfr11⟩ := Kd.R_elem HX11.out z96 (x5_1 : Int) (oD_ ‹_›) (by have h_ : (x5_1 : Int) < ((x0_1.length : Int) : Int) := oD_ ‹_›; exact h_); obtain rfl := k96_openM hM11; have HP11 := Kd.R_seg HX11.out (x5_1 : Int) (oD_ ‹_›) (by have h_ : (x5_1 : Int) < ((x0_1.length : Int) : Int) := oD_ ‹_›; exact h_) (seg := [.int .i64 (wrap64 (x1_1 + 1))]) (j := 1) hcl11 hcc11 (show 2 ≤ 3 from by decide) (x' := (⟨(rd_T96 y490 x5_1).f0, wrap64 (x1_1 + 1), (rd_T96 y490 x5_1).f2⟩ : S96)) (k96_mkM _ _ _ (⟨(rd_T96 y490 x5_1).f0, wrap64 (x1_1 + 1), (rd_T96 y490 x5_1).f2⟩ : S96) ) (fun _ hk => hk); have hx11_1 := hcc11 1 _ rfl; (try simp only [show (k96).sz = 3 from rfl, Nat.mul_one, Nat.add_zero] at hx11_1); have hf11_1 := hfr11 1; (try simp only [show (k96).sz = 3 from rfl, Nat.mul_one, Nat.add_zero] at hf11_1); clear hcl11 hcc11 hfr11 hM11) | ((with_reducible refine gate_store (t := 3) (p := 23) rfl ?_); refine store_event (t := 3) (p := 23) (v := ?vo_w12) (w1 := (w10.setCell ⟨go5, (x5_1 : Int).toNat * 3 + 1, none⟩ (.int .i64 (wrap64 (x1_1 + 1))))) ?hg ?ho ?hn ?hr ?_; (case ho => rfl); (case hg => rfl); (case hn => rfl); (case hr => (go_simp; done)); intro w12 hw; have hg : w10.grownBy w12 (some go5) := (by rw [hw]; exact HP11.2); have hp_ : Kd.R k96 96 w12 w0.heap.size (fun k_ => (P0_ k_ ∨ w.heap.size ≤ k_)) (.slice (some ⟨go5, 0, none⟩) x0_1.length co8) y491 := (by rw [hw, Ny491.out]; exact HP11.1); clear HP11; replace HB := aM_ ((by rw [hw]; exact bS_ (HB.out) GB5.out : Below w0.heap.size w0 w12)); replace HK := aM_ (Kept.of_grown (S := (fun k_ => P0_ k_)) hg (by repeat (first | (with_reducible first | exact HK.out | apply Kept.alloc | apply Kept.drewN | apply Kept.drew) | exact HK.out)) (fun k_ e_ => (HO_0.out.1 k_ e_))); replace HO_0 := aM_ (hp_); clear hg hw hp_; have p7 : 0 ≤ (x5_1 : Int) := oD_ ‹_›; have q7 : (x5_1 : Int) < ((x0_1.length : Int) : Int) := oD_ ‹_›; obtain ⟨ce7, hcl7, hM7, hcc7, hfr7⟩ := Kd.R_elem HO_0.out z96 (x5_1 : Int) p7 q7; obtain rfl := k96_openM hM7; have hx7_0 : w12.cell? ⟨go5, (x5_1 : Int).toNat * 3, none⟩ = some (.int .i64 ((rd_T96 y491 x5_1).f0)) := hcc7 0 _ rfl; have hx7_1 : w12.cell? ⟨go5, (x5_1 : Int).toNat * 3 + 1, none⟩ = some (.int .i64 ((rd_T96 y491 x5_1).f1)) := hcc7 1 _ rfl; have hx7_2 : w12.cell? ⟨go5, (x5_1 : Int).toNat * 3 + 2, none⟩ = some (.bool ((rd_T96 y491 x5_1).f2)) := hcc7 2 _ rfl; have hf7_0 : w12.frozen? ⟨go5, (x5_1 : Int).toNat * 3, none⟩ = false := hfr7 0; have hf7_1 : w12.frozen? ⟨go5, (x5_1 : Int).toNat * 3 + 1, none⟩ = false := hfr7 1; have hf7_2 : w12.frozen? ⟨go5, (x5_1 : Int).toNat * 3 + 2, none⟩ = false := hfr7 2; clear hcl7 hcc7 hfr7 hM7; replace p7 := eq_true p7; replace q7 := eq_true q7; have HX13 := aM_ (show Kd.R k96 96 w12 w0.heap.size (fun k_ => (P0_ k_ ∨ w.heap.size ≤ k_)) (.slice (some ⟨go5, 0, none⟩) x0_1.length co8) y491 from HO_0.out); obtain ⟨ce13, hcl13, hM13, hcc13, hfr13⟩ := Kd.R_elem HX13.out z96 (x5_1 : Int) (oD_ ‹_›) (by have h_ : (x5_1 : Int) < ((x0_1.length : Int) : Int) := oD_ ‹_›; exact h_); obtain rfl := k96_openM hM13; have HP13 := Kd.R_seg HX13.out (x5_1 : Int) (oD_ ‹_›) (by have h_ : (x5_1 : Int) < ((x0_1.length : Int) : Int) := oD_ ‹_›; exact h_) (seg := [.bool ((Int.tmod (wrap64 ((wrap64 (x1_1 + 1)) + 1)) 3) == 0)]) (j := 2) hcl13 hcc13 (show 3 ≤ 3 from by decide) (x' := (⟨(rd_T96 y491 x5_1).f0, (rd_T96 y491 x5_1).f1, ((Int.tmod (wrap64 ((wrap64 (x1_1 + 1)) + 1)) 3) == 0)⟩ : S96)) (k96_mkM _ _ _ (⟨(rd_T96 y491 x5_1).f0, (rd_T96 y491 x5_1).f1, ((Int.tmod (wrap64 ((wrap64 (x1_1 + 1)) + 1)) 3) == 0)⟩ : S96) ) (fun _ hk => hk); have hx13_2 := hcc13 2 _ rfl; (try simp only [show (k96).sz = 3 from rfl, Nat.mul_one, Nat.add_zero] at hx13_2); have hf13_2 := hfr13 2; (try simp only [show (k96).sz = 3 from rfl, Nat.mul_one, Nat.add_zero] at hf13_2); clear hcl13 hcc13 hfr13 hM13) | ((with_reducible refine gate_store (t := 4) (p := 32) rfl ?_); refine store_event (t := 4) (p := 32) (v := ?vo_w14) (w1 := (w12.setCell ⟨go5, (x5_1 : Int).toNat * 3 + 2, none⟩ (.bool ((Int.tmod (wrap64 ((wrap64 (x1_1 + 1)) + 1)) 3) == 0)))) ?hg ?ho ?hn ?hr ?_; (case ho => rfl); (case hg => rfl); (case hn => rfl); (case hr => (go_simp; done)); intro w14 hw; have hg : w12.grownBy w14 (some go5) := (by rw [hw]; exact HP13.2); have hp_ : Kd.R k96 96 w14 w0.heap.size (fun k_ => (P0_ k_ ∨ w.heap.size ≤ k_)) (.slice (some ⟨go5, 0, none⟩) x0_1.length co8) y492 := (by rw [hw, Ny492.out]; exact HP13.1); clear HP13; replace HB := aM_ ((by rw [hw]; exact bS_ (HB.out) GB5.out : Below w0.heap.size w0 w14)); replace HK := aM_ (Kept.of_grown (S := (fun k_ => P0_ k_)) hg (by repeat (first | (with_reducible first | exact HK.out | apply Kept.alloc | apply Kept.drewN | apply Kept.drew) | exact HK.out)) (fun k_ e_ => (HO_0.out.1 k_ e_))); replace HO_0 := aM_ (hp_); clear hg hw hp_))
  go_roundg k1
  case measure => have := HK1.out; omega
  case rel => exact ⟨(y492), (wrap64 ((wrap64 ((wrap64 (x1_1 + 1)) + 1)) + 1)), (wrap64 (x5_1 + 1)), (by rfl), (by rfl), H', ⟨by have := HK1.out; omega⟩, ⟨HO_0.out⟩, ⟨by repeat (first | (with_reducible first | exact HK.out | apply Kept.alloc | apply Kept.drewN | apply Kept.drew) | exact HK.out)⟩, ⟨HB.out⟩⟩
def laws_markTrie.f (k : Nat) (l0_0 : List (S96)) (a1 : Int) : Option (Int × (List (S96))) := (laws_markNodeS.f k l0_0 a1).bind fun bt494 => (some (bt494.1, bt494.2))
theorem laws_markTrie.mono : ∀ a0 a1 k, LeO (laws_markTrie.f k a0 a1) (laws_markTrie.f (k + 1) a0 a1) := by
 intro a0 a1 k
 unfold laws_markTrie.f
 repeat' with_reducible first | exact laws_markNodeS.mono _ _ _ | exact l3_ _ | exact l0_ _ | refine l2_ ?_ ?_ | refine l1_ ?_ (fun _ => ?_)
theorem laws_markTrie.calls (k : Nat) (P0_0_ : Nat → Prop) (u9000_ : Value) (l0_0 : List (S96)) (a1 : Int) (r1 : Int) (r2 : List (S96)) (w0 w : World) (hB : Below w0.heap.size w0 w) (ho0_0 : Kd.R k96 96 w w0.heap.size P0_0_ u9000_ l0_0) (h : laws_markTrie.f k l0_0 a1 = some (r1, r2)) :
  Calls Tryz.prog 20 #[.agg #[u9000_], .int .i64 a1] w fun e w' => e = .returned (.int .i64 r1) ∧ Kd.R k96 96 w' w0.heap.size (fun k_ => (P0_0_ k_ ∨ w.heap.size ≤ k_)) u9000_ r2 ∧ Below w0.heap.size w0 w' ∧ Kept w w' (fun k_ => P0_0_ k_) := by
 have hu28 := Tryz.underlying28
 have HO0_0 := aM_ (show Kd.R k96 96 w w0.heap.size (fun k_ => (P0_0_ k_ ∨ w.heap.size ≤ k_)) u9000_ l0_0 from kM_ ho0_0 (fun k_ hk => (.inl hk)))
 have HK := aM_ (Kept.refl w (fun k_ => P0_0_ k_))
 have HW0 := aM_ hB.size
 have HB := aM_ hB
 clear hB
 have H : ((laws_markNodeS.f k l0_0 a1).bind fun bt494 => (some (bt494.1, bt494.2))) = some (r1, r2) := h
 clear h
 replace H := oB_.mp H
 obtain ⟨⟨t494, t495⟩, A30, H⟩ := H
 try dsimp only at H
 have A3 := aM_ A30
 clear A30
 simp only [Option.some.injEq, Prod.mk.injEq] at H
 obtain ⟨rfl, rfl⟩ := H
 obtain ⟨Ao4, co4, eo4⟩ := kS_ HO0_0.out
 subst eo4
 go_enter Tryz.func20, Tryz.ntmps20
 go_wp2_with (first | (refine bx_ 2 #[.slice Ao4 l0_0.length co4] 28 ?_; intro gb493 hg w5 hbox hb; replace HO0_0 := k9_ HO0_0 hb; have BK493 := aM_ (hbox); have GW493 := aM_ ((by rw [hg]; exact (by exact HK.out.1) : w.heap.size ≤ gb493)); replace HK := aM_ (Kept.below (S := (fun k_ => P0_0_ k_)) (by repeat (first | (with_reducible first | exact HK.out | apply Kept.alloc | apply Kept.drewN | apply Kept.drew) | exact HK.out)) hb); have GW493 := aM_ ((by rw [hg]; exact (bZ_ HB.out) : w0.heap.size ≤ gb493)); replace HB := b4_ HB hb; clear hb hbox hg; have hcz6_0 := c0_ BK493; have hfz6_0 := bF_ BK493.out 0) | (refine gs_ 8 Tryz.func55 #[.slice Ao4 l0_0.length co4, .int .i64 a1] ?_; (with_reducible refine (laws_markNodeS.calls k (fun k_ => some k_ = (.slice Ao4 l0_0.length co4 : Value).ownBlock) (.slice Ao4 l0_0.length co4) l0_0 a1 t494 t495 w0 _ HB.out ?side2 A3.out).mono ?_); (case side2 => exact Kd.R_tight rfl HO0_0.out); rintro e w7 ⟨rfl, hy0, hb, hkp⟩; refine ⟨_, rfl, ?_⟩; replace BK493 := aM_ (blk_kept BK493.out hkp (fun hs_ => (fun e_ => (k6_ HO0_0.out BK493.out (by decide)) e_) hs_)); replace HK := aM_ (Kept.then_ (S := (fun k_ => P0_0_ k_)) (by repeat (first | (with_reducible first | exact HK.out | apply Kept.alloc | apply Kept.drewN | apply Kept.drew | refine Kept.setCell ?_ (.inr GW493.out) _) | exact HK.out)) hkp (fun k_ hs_ => (fun e_ => (HO0_0.out.1 k_ e_.symm)) hs_)); replace HO0_0 := aM_ (Kd.R_reok rfl hy0 (fun k_ e_ => HO0_0.out.1 k_ e_)); replace HB := aM_ (hb); (try clear hb); (try clear hkp); (try clear hy0)))
 go_ret
 exact ⟨by rfl, by exact HO0_0.out, by exact HB.out, by repeat (first | (with_reducible first | exact HK.out | apply Kept.alloc | apply Kept.drewN | apply Kept.drew | refine Kept.setCell ?_ (.inr GW493.out) _) | exact HK.out)⟩
def laws_heldNodeS.l0 : Nat → List (S96) → Int → Int → Option (Int)
 | 0, _, _, _ => none
 | k + 1, x0, x1, x5 => if x5 < (x0.length : Int) then (if 0 ≤ x5 then (if ((rd_T96 x0 x5).f0) = x1 then (if ((rd_T96 x0 x5).f1) = (wrap64 (x1 + 1)) then (if (((rd_T96 x0 x5).f2) != ((Int.tmod (wrap64 ((wrap64 (x1 + 1)) + 1)) 3) == 0)) = true then (some (-1)) else (laws_heldNodeS.l0 k x0 (wrap64 ((wrap64 ((wrap64 (x1 + 1)) + 1)) + 1)) (wrap64 (x5 + 1)))) else (some (-1))) else (some (-1))) else (none)) else (some x1)
def laws_heldNodeS.f (k : Nat) (l0 : List (S96)) (a1 : Int) : Option (Int) := laws_heldNodeS.l0 k l0 a1 0
theorem laws_heldNodeS.mono_l : ∀ k, (∀ y0 y1 y2, LeO (laws_heldNodeS.l0 k y0 y1 y2) (laws_heldNodeS.l0 (k + 1) y0 y1 y2))
 | 0 => fun _ _ _ r h => by simp [laws_heldNodeS.l0] at h
 | k + 1 => by
  have ih0 := laws_heldNodeS.mono_l k
  intro y0 y1 y2
  unfold laws_heldNodeS.l0
  repeat' with_reducible first | exact ih0 _ _ _ | exact l3_ _ | exact l0_ _ | refine l2_ ?_ ?_ | refine l1_ ?_ (fun _ => ?_)
theorem laws_heldNodeS.mono : ∀ a0 a1 k, LeO (laws_heldNodeS.f k a0 a1) (laws_heldNodeS.f (k + 1) a0 a1) := by
 intro a0 a1 k
 have ih0 := laws_heldNodeS.mono_l k
 unfold laws_heldNodeS.f
 repeat' with_reducible first | exact ih0 _ _ _ | exact l3_ _ | exact l0_ _ | refine l2_ ?_ ?_ | refine l1_ ?_ (fun _ => ?_)
theorem laws_heldNodeS.calls (k : Nat) (A0 : Option Addr) (c0 : Nat) (l0 : List (S96)) (a1 : Int) (r : Int) (w : World) (hr0 : Kd.C k96 w A0 l0.length l0) (hc0 : l0.length ≤ c0) (h : laws_heldNodeS.f k l0 a1 = some r) :
  Calls Tryz.prog 56 #[.slice A0 l0.length c0, .int .i64 a1] w fun e w' => e = .returned (.int .i64 r) ∧ Drawn0 w w' := by
 have HR0 := aM_ hr0
 have HC0 := aM_ hc0
 clear hr0 hc0
 have H : (laws_heldNodeS.l0 k l0 a1 0) = some r := h
 clear h
 have H' := aM_ H
 clear H
 go_enter Tryz.func56, Tryz.ntmps56
 go_wp2
 go_loopg [1, 5] k (fun kq v1 v5 w' => ∃ (x1_1 : Int) (x5_1 : Int), v1 = .int .i64 x1_1 ∧ v5 = .int .i64 x5_1 ∧ Aside0 (laws_heldNodeS.l0 kq l0 x1_1 x5_1 = some r) ∧ Aside0 (kq ≤ k) ∧ Drawn0 w w')
 case atStart => exact ⟨(a1), (0), (by rfl), (by rfl), H', ⟨Nat.le_refl _⟩, by repeat (first | exact Drawn0.refl _ | apply Drawn0.step)⟩
 clear H'
 try clear p2
 obtain ⟨x1_1, x5_1, rfl, rfl, HA, HK1, ⟨m1, rfl⟩⟩ := hrel
 cases gk with
 | zero => exact absurd HA.out (by simp [laws_heldNodeS.l0])
 | succ k1 =>
  have H := HA.out
  clear HA
  simp only [laws_heldNodeS.l0] at H
  by_cases c3 : x5_1 < (l0.length : Int)
  rotate_left
  ·
   rw [if_neg c3] at H
   have c3b0 := dF_ c3
   clear c3
   obtain rfl := Option.some.inj H
   go_wp2
   go_ret
   exact ⟨by rfl, by repeat (first | exact Drawn0.refl _ | apply Drawn0.step)⟩
  rw [if_pos c3] at H
  have c3b0 := dT_ c3
  clear c3
  by_cases c4 : 0 ≤ x5_1
  rotate_left
  ·
   rw [if_neg c4] at H
   exact absurd H (by simp)
  rw [if_pos c4] at H
  have c4b0 := dT_ c4
  clear c4
  by_cases c5 : ((rd_T96 l0 x5_1).f0) = x1_1
  rotate_left
  ·
   rw [if_neg c5] at H
   have c5b0 : (((rd_T96 l0 x5_1).f0) == x1_1) = false := beq_eq_false_iff_ne.mpr c5
   have c5b1 : (((rd_T96 l0 x5_1).f0) != x1_1) = true := bne_iff_ne.mpr c5
   obtain rfl := Option.some.inj H
   have p496 : 0 ≤ (x5_1 : Int) := oD_ ‹_›
   have q496 : x5_1 < (l0.length : Int) := oD_ ‹_›
   obtain ⟨ad496, e496, hx496_0, hx496_1, hx496_2⟩ := at_T96 HR0.out x5_1 p496 q496
   cases e496
   replace p496 := eq_true p496
   replace q496 := eq_true q496
   go_wp2
   go_ret
   exact ⟨by rfl, by repeat (first | exact Drawn0.refl _ | apply Drawn0.step)⟩
  rw [if_pos c5] at H
  have c5b0 : (((rd_T96 l0 x5_1).f0) == x1_1) = true := beq_iff_eq.mpr c5
  have c5b1 : (((rd_T96 l0 x5_1).f0) != x1_1) = false := bne_eq_false_iff_eq.mpr c5
  clear c5
  by_cases c6 : ((rd_T96 l0 x5_1).f1) = (wrap64 (x1_1 + 1))
  rotate_left
  ·
   rw [if_neg c6] at H
   have c6b0 : (((rd_T96 l0 x5_1).f1) == (wrap64 (x1_1 + 1))) = false := beq_eq_false_iff_ne.mpr c6
   have c6b1 : (((rd_T96 l0 x5_1).f1) != (wrap64 (x1_1 + 1))) = true := bne_iff_ne.mpr c6
   obtain rfl := Option.some.inj H
   have p496 : 0 ≤ (x5_1 : Int) := oD_ ‹_›
   have q496 : x5_1 < (l0.length : Int) := oD_ ‹_›
   obtain ⟨ad496, e496, hx496_0, hx496_1, hx496_2⟩ := at_T96 HR0.out x5_1 p496 q496
   cases e496
   replace p496 := eq_true p496
   replace q496 := eq_true q496
   have p497 : 0 ≤ (x5_1 : Int) := oD_ ‹_›
   have q497 : x5_1 < (l0.length : Int) := oD_ ‹_›
   obtain ⟨ad497, e497, hx497_0, hx497_1, hx497_2⟩ := at_T96 HR0.out x5_1 p497 q497
   obtain rfl : ad496 = ad497 := (by injection e497)
   replace p497 := eq_true p497
   replace q497 := eq_true q497
   go_wp2
   go_ret
   exact ⟨by rfl, by repeat (first | exact Drawn0.refl _ | apply Drawn0.step)⟩
  rw [if_pos c6] at H
  have c6b0 : (((rd_T96 l0 x5_1).f1) == (wrap64 (x1_1 + 1))) = true := beq_iff_eq.mpr c6
  have c6b1 : (((rd_T96 l0 x5_1).f1) != (wrap64 (x1_1 + 1))) = false := bne_eq_false_iff_eq.mpr c6
  clear c6
  by_cases c7 : (((rd_T96 l0 x5_1).f2) != ((Int.tmod (wrap64 ((wrap64 (x1_1 + 1)) + 1)) 3) == 0)) = true
  ·
   rw [if_pos c7] at H
   have c7b0 : (((rd_T96 l0 x5_1).f2) != ((Int.tmod (wrap64 ((wrap64 (x1_1 + 1)) + 1)) 3) == 0)) = true := c7
   (try (have c7b1 : decide (((rd_T96 l0 x5_1).f2) = ((Int.tmod (wrap64 ((wrap64 (x1_1 + 1)) + 1)) 3) == 0)) = false := by simpa using c7))
   (try (have c7b2 : (((rd_T96 l0 x5_1).f2) == ((Int.tmod (wrap64 ((wrap64 (x1_1 + 1)) + 1)) 3) == 0)) = false := by simpa using c7))
   (try (have c7b3 : ¬ (((rd_T96 l0 x5_1).f2) = ((Int.tmod (wrap64 ((wrap64 (x1_1 + 1)) + 1)) 3) == 0)) := by simpa using c7))
   clear c7
   obtain rfl := Option.some.inj H
   have p496 : 0 ≤ (x5_1 : Int) := oD_ ‹_›
   have q496 : x5_1 < (l0.length : Int) := oD_ ‹_›
   obtain ⟨ad496, e496, hx496_0, hx496_1, hx496_2⟩ := at_T96 HR0.out x5_1 p496 q496
   cases e496
   replace p496 := eq_true p496
   replace q496 := eq_true q496
   have p497 : 0 ≤ (x5_1 : Int) := oD_ ‹_›
   have q497 : x5_1 < (l0.length : Int) := oD_ ‹_›
   obtain ⟨ad497, e497, hx497_0, hx497_1, hx497_2⟩ := at_T96 HR0.out x5_1 p497 q497
   obtain rfl : ad496 = ad497 := (by injection e497)
   replace p497 := eq_true p497
   replace q497 := eq_true q497
   have p498 : 0 ≤ (x5_1 : Int) := oD_ ‹_›
   have q498 : x5_1 < (l0.length : Int) := oD_ ‹_›
   obtain ⟨ad498, e498, hx498_0, hx498_1, hx498_2⟩ := at_T96 HR0.out x5_1 p498 q498
   obtain rfl : ad496 = ad498 := (by injection e498)
   replace p498 := eq_true p498
   replace q498 := eq_true q498
   go_wp2
   go_ret
   exact ⟨by rfl, by repeat (first | exact Drawn0.refl _ | apply Drawn0.step)⟩
  rw [if_neg c7] at H
  have c7b0 : (((rd_T96 l0 x5_1).f2) != ((Int.tmod (wrap64 ((wrap64 (x1_1 + 1)) + 1)) 3) == 0)) = false := by simpa using c7
  (try (have c7b1 : decide (((rd_T96 l0 x5_1).f2) = ((Int.tmod (wrap64 ((wrap64 (x1_1 + 1)) + 1)) 3) == 0)) = true := by simpa using c7))
  (try (have c7b2 : (((rd_T96 l0 x5_1).f2) == ((Int.tmod (wrap64 ((wrap64 (x1_1 + 1)) + 1)) 3) == 0)) = true := by simpa using c7))
  clear c7
  have H' := aM_ H
  clear H
  have p496 : 0 ≤ (x5_1 : Int) := oD_ ‹_›
  have q496 : x5_1 < (l0.length : Int) := oD_ ‹_›
  obtain ⟨ad496, e496, hx496_0, hx496_1, hx496_2⟩ := at_T96 HR0.out x5_1 p496 q496
  cases e496
  replace p496 := eq_true p496
  replace q496 := eq_true q496
  have p497 : 0 ≤ (x5_1 : Int) := oD_ ‹_›
  have q497 : x5_1 < (l0.length : Int) := oD_ ‹_›
  obtain ⟨ad497, e497, hx497_0, hx497_1, hx497_2⟩ := at_T96 HR0.out x5_1 p497 q497
  obtain rfl : ad496 = ad497 := (by injection e497)
  replace p497 := eq_true p497
  replace q497 := eq_true q497
  have p498 : 0 ≤ (x5_1 : Int) := oD_ ‹_›
  have q498 : x5_1 < (l0.length : Int) := oD_ ‹_›
  obtain ⟨ad498, e498, hx498_0, hx498_1, hx498_2⟩ := at_T96 HR0.out x5_1 p498 q498
  obtain rfl : ad496 = ad498 := (by injection e498)
  replace p498 := eq_true p498
  replace q498 := eq_true q498
  go_wp2
  go_roundg k1
  case measure => have := HK1.out; omega
  case rel => exact ⟨(wrap64 ((wrap64 ((wrap64 (x1_1 + 1)) + 1)) + 1)), (wrap64 (x5_1 + 1)), (by rfl), (by rfl), H', ⟨by have := HK1.out; omega⟩, by repeat (first | exact Drawn0.refl _ | apply Drawn0.step)⟩
def laws_heldTrie.f (k : Nat) (l0_0 : List (S96)) (a1 : Int) : Option (Int) := (laws_heldNodeS.f k l0_0 a1).bind fun t500 => (if t500 < 0 then (some (-1)) else (some t500))
theorem laws_heldTrie.mono : ∀ a0 a1 k, LeO (laws_heldTrie.f k a0 a1) (laws_heldTrie.f (k + 1) a0 a1) := by
 intro a0 a1 k
 unfold laws_heldTrie.f
 repeat' with_reducible first | exact laws_heldNodeS.mono _ _ _ | exact l3_ _ | exact l0_ _ | refine l2_ ?_ ?_ | refine l1_ ?_ (fun _ => ?_)
theorem laws_heldTrie.calls (k : Nat) (A0_0 : Option Addr) (c0_0 : Nat) (l0_0 : List (S96)) (a1 : Int) (r : Int) (w : World) (hr0_0 : Kd.C k96 w A0_0 l0_0.length l0_0) (hc0_0 : l0_0.length ≤ c0_0) (h : laws_heldTrie.f k l0_0 a1 = some r) :
  Calls Tryz.prog 21 #[.agg #[.slice A0_0 l0_0.length c0_0], .int .i64 a1] w fun e w' => e = .returned (.int .i64 r) ∧ Below w.heap.size w w' := by
 have hu28 := Tryz.underlying28
 have HR0_0 := aM_ hr0_0
 have HC0_0 := aM_ hc0_0
 clear hr0_0 hc0_0
 have HB := aM_ (Below.refl w.heap.size w)
 have H : ((laws_heldNodeS.f k l0_0 a1).bind fun t500 => (if t500 < 0 then (some (-1)) else (some t500))) = some r := h
 clear h
 replace H := oB_.mp H
 obtain ⟨t500, A30, H⟩ := H
 try dsimp only at H
 have A3 := aM_ A30
 clear A30
 by_cases c4 : t500 < 0
 ·
  rw [if_pos c4] at H
  have c4b0 := dT_ c4
  clear c4
  obtain rfl := Option.some.inj H
  go_enter Tryz.func21, Tryz.ntmps21
  go_wp2_with (first | (refine bx_ 2 #[.slice A0_0 l0_0.length c0_0] 28 ?_; intro gb499 hg w5 hbox hb; have BK499 := aM_ (hbox); have GW499 := gw_ hg HB; replace HB := b4_ HB hb; clear hb hbox hg; have hcz6_0 := c0_ BK499; have hfz6_0 := bF_ BK499.out 0) | (refine gs_ 8 Tryz.func56 #[.slice A0_0 l0_0.length c0_0, .int .i64 a1] ?_; (with_reducible refine (laws_heldNodeS.calls k _ _ l0_0 a1 t500 _ ?side1 HC0_0.out A3.out).mono ?_); (case side1 => repeat (first | exact (k4_ HR0_0.out HB.out) | with_reducible first | apply cA_ | apply cN_ | apply cD_)); rintro e w' ⟨rfl, ⟨nd, rfl⟩⟩; refine ⟨_, rfl, ?_⟩))
  go_ret
  exact ⟨by rfl, by repeat with_reducible first | exact HB.out | apply bA_ | apply bN_ | apply bD_ | refine bS_ ?_ GW499.out⟩
 rw [if_neg c4] at H
 have c4b0 := dF_ c4
 clear c4
 obtain rfl := Option.some.inj H
 go_enter Tryz.func21, Tryz.ntmps21
 go_wp2_with (first | (refine bx_ 2 #[.slice A0_0 l0_0.length c0_0] 28 ?_; intro gb499 hg w7 hbox hb; have BK499 := aM_ (hbox); have GW499 := gw_ hg HB; replace HB := b4_ HB hb; clear hb hbox hg; have hcz8_0 := c0_ BK499; have hfz8_0 := bF_ BK499.out 0) | (refine gs_ 8 Tryz.func56 #[.slice A0_0 l0_0.length c0_0, .int .i64 a1] ?_; (with_reducible refine (laws_heldNodeS.calls k _ _ l0_0 a1 t500 _ ?side1 HC0_0.out A3.out).mono ?_); (case side1 => repeat (first | exact (k4_ HR0_0.out HB.out) | with_reducible first | apply cA_ | apply cN_ | apply cD_)); rintro e w' ⟨rfl, ⟨nd, rfl⟩⟩; refine ⟨_, rfl, ?_⟩))
 go_ret
 exact ⟨by rfl, by repeat with_reducible first | exact HB.out | apply bA_ | apply bN_ | apply bD_ | refine bS_ ?_ GW499.out⟩
def spec_TrieOfMachine.f (k : Nat) (l0_0 : List (S72)) : Option ((List (S96)) × Bool) := (spec_l7Valid.f k l0_0).bind fun t320 => (if t320 = true then ((spec_l7Words.f k l0_0).bind fun t321 => ((spec_l2Of.f k t321).bind fun t324 => (some (t324, true)))) else (some (([] : List (S96)), false)))
theorem spec_TrieOfMachine.mono : ∀ a0 k, LeO (spec_TrieOfMachine.f k a0) (spec_TrieOfMachine.f (k + 1) a0) := by
 intro a0 k
 unfold spec_TrieOfMachine.f
 repeat' with_reducible first | exact spec_l2Of.mono _ _ | exact spec_l7Valid.mono _ _ | exact spec_l7Words.mono _ _ | exact l3_ _ | exact l0_ _ | refine l2_ ?_ ?_ | refine l1_ ?_ (fun _ => ?_)
theorem spec_TrieOfMachine.calls (k : Nat) (A0_0 : Option Addr) (c0_0 : Nat) (l0_0 : List (S72)) (r1 : List (S96)) (r2 : Bool) (w : World) (hr0_0 : Kd.C k72 w A0_0 l0_0.length l0_0) (hc0_0 : l0_0.length ≤ c0_0) (h : spec_TrieOfMachine.f k l0_0 = some (r1, r2)) :
  Calls Tryz.prog 14 #[.agg #[.slice A0_0 l0_0.length c0_0]] w fun e w' => ∃ v0_ : Value, e = .returned (.tuple #[.agg #[v0_], .bool r2]) ∧ Kd.R k96 96 w' w.heap.size (fun _ => True) v0_ r1 ∧ Below w.heap.size w w' := by
 have hu33 := Tryz.underlying33
 have hu28 := Tryz.underlying28
 have HR0_0 := aM_ hr0_0
 have HC0_0 := aM_ hc0_0
 clear hr0_0 hc0_0
 have HB := aM_ (Below.refl w.heap.size w)
 have H : ((spec_l7Valid.f k l0_0).bind fun t320 => (if t320 = true then ((spec_l7Words.f k l0_0).bind fun t321 => ((spec_l2Of.f k t321).bind fun t324 => (some (t324, true)))) else (some (([] : List (S96)), false)))) = some (r1, r2) := h
 clear h
 replace H := oB_.mp H
 obtain ⟨t320, A20, H⟩ := H
 try dsimp only at H
 have A2 := aM_ A20
 clear A20
 by_cases c3 : t320 = true
 ·
  subst c3
  rw [if_pos rfl] at H
  replace H := oB_.mp H
  obtain ⟨t321, A40, H⟩ := H
  try dsimp only at H
  have A4 := aM_ A40
  clear A40
  replace H := oB_.mp H
  obtain ⟨t324, A50, H⟩ := H
  try dsimp only at H
  have A5 := aM_ A50
  clear A50
  simp only [Option.some.injEq, Prod.mk.injEq] at H
  obtain ⟨rfl, rfl⟩ := H
  go_enter Tryz.func14, Tryz.ntmps14
  go_wp2_with (first | (refine bx_ 1 #[.slice A0_0 l0_0.length c0_0] 33 ?_; intro gb318 hg w6 hbox hb; have BK318 := aM_ (hbox); have GW318 := gw_ hg HB; replace HB := b4_ HB hb; clear hb hbox hg) | (refine bx_ 2 #[.slice none 0 0] 28 ?_; intro gb319 hg w7 hbox hb; have BK319 := aM_ (hbox); have GW319 := gw_ hg HB; replace HB := b4_ HB hb; have NB318_319 := nb_ hg BK318; have NB319_318 := ns_ NB318_319; replace BK318 := b5_ BK318 hb; clear hb hbox hg; have hnb8 := NB318_319.out; have hnc8 := NB319_318.out; have hcz9_0 := c0_ BK318; have hfz9_0 := bF_ BK318.out 0) | (refine gs_ 5 Tryz.func47 #[.agg #[.slice A0_0 l0_0.length c0_0]] ?_; (with_reducible refine (spec_l7Valid.calls k _ _ l0_0 true _ ?side1 HC0_0.out A2.out).mono ?_); (case side1 => repeat (first | exact (k4_ HR0_0.out HB.out) | with_reducible first | apply cA_ | apply cN_ | apply cD_)); rintro e w10 ⟨rfl, hb⟩; refine ⟨_, rfl, ?_⟩; replace BK318 := b5_ BK318 hb; replace BK319 := b5_ BK319 hb; replace HB := b4_ HB hb; (try clear hb); have hcz11_0 := c0_ BK318; have hfz11_0 := bF_ BK318.out 0) | (refine gs_ 9 Tryz.func49 #[.agg #[.slice A0_0 l0_0.length c0_0]] ?_; (with_reducible refine (spec_l7Words.calls k _ _ l0_0 t321 _ ?side1 HC0_0.out A4.out).mono ?_); (case side1 => repeat (first | exact (k4_ HR0_0.out HB.out) | with_reducible first | apply cA_ | apply cN_ | apply cD_)); rintro e w12 ⟨v322, rfl, ho0, hb⟩; refine ⟨_, rfl, ?_⟩; have HO323 := aM_ (k5_ ho0 (bZ_ HB.out)); replace BK318 := b5_ BK318 hb; replace BK319 := b5_ BK319 hb; replace HB := b4_ HB hb; (try clear hb); (try clear ho0); obtain ⟨Ao13, co13, eo13⟩ := kS_ HO323.out; subst eo13) | (refine gs_ 10 Tryz.func48 #[.slice Ao13 t321.length co13] ?_; (with_reducible refine (spec_l2Of.calls k _ _ t321 t324 _ ?side1 ?side2 A5.out).mono ?_); (case side1 => repeat (first | exact (kR_ HO323.out).2.2 | with_reducible first | apply cA_ | apply cN_ | apply cD_)); (case side2 => exact (kR_ HO323.out).2.1); rintro e w14 ⟨v325, rfl, ho0, hb⟩; refine ⟨_, rfl, ?_⟩; replace HO323 := k9_ HO323 hb; have HO326 := aM_ (k5_ ho0 (bZ_ HB.out)); replace BK318 := b5_ BK318 hb; replace BK319 := b5_ BK319 hb; replace HB := b4_ HB hb; (try clear hb); (try clear ho0); obtain ⟨Ao15, co15, eo15⟩ := kS_ HO326.out; subst eo15; have hcz16_0 := c0_ BK319; have hfz16_0 := bF_ BK319.out 0))
  refine bodyPost_ret (results_ct rfl _ _ gb319 28 #[.slice Ao15 t324.length co15] (0, 0) _ rfl (by refine bP_ (cs := #[.slice none 0 0]) ?_ 0 _ rfl; exact BK319.out) Tryz.underlying28 rfl (by kernel_rfl)) rfl ?_
  exact ⟨_, by rfl, by exact kM_ (kG_ (kT_ HO326.out BK319.out (by decide))) (fun _ hk => trivial), by repeat with_reducible first | exact HB.out | apply bA_ | apply bN_ | apply bD_ | refine bS_ ?_ (Aside0.out ‹_›)⟩
 replace c3 := Bool.eq_false_iff.mpr c3
 subst c3
 replace H : (some (([] : List (S96)), false)) = some (r1, r2) := by rw [if_neg (show ¬ (false = true) by decide)] at H; exact H
 simp only [Option.some.injEq, Prod.mk.injEq] at H
 obtain ⟨rfl, rfl⟩ := H
 go_enter Tryz.func14, Tryz.ntmps14
 go_wp2_with (first | (refine bx_ 1 #[.slice A0_0 l0_0.length c0_0] 33 ?_; intro gb318 hg w17 hbox hb; have BK318 := aM_ (hbox); have GW318 := gw_ hg HB; replace HB := b4_ HB hb; clear hb hbox hg) | (refine bx_ 2 #[.slice none 0 0] 28 ?_; intro gb319 hg w18 hbox hb; have BK319 := aM_ (hbox); have GW319 := gw_ hg HB; replace HB := b4_ HB hb; have NB318_319 := nb_ hg BK318; have NB319_318 := ns_ NB318_319; replace BK318 := b5_ BK318 hb; clear hb hbox hg; have hnb19 := NB318_319.out; have hnc19 := NB319_318.out; have hcz20_0 := c0_ BK318; have hfz20_0 := bF_ BK318.out 0) | (refine gs_ 5 Tryz.func47 #[.agg #[.slice A0_0 l0_0.length c0_0]] ?_; (with_reducible refine (spec_l7Valid.calls k _ _ l0_0 false _ ?side1 HC0_0.out A2.out).mono ?_); (case side1 => repeat (first | exact (k4_ HR0_0.out HB.out) | with_reducible first | apply cA_ | apply cN_ | apply cD_)); rintro e w21 ⟨rfl, hb⟩; refine ⟨_, rfl, ?_⟩; replace BK318 := b5_ BK318 hb; replace BK319 := b5_ BK319 hb; replace HB := b4_ HB hb; (try clear hb); have hcz22_0 := c0_ BK319; have hfz22_0 := bF_ BK319.out 0))
 refine bodyPost_ret (results_ct rfl _ _ gb319 28 #[.slice none 0 0] (0, 0) _ rfl (by refine bP_ (cs := #[.slice none 0 0]) ?_ 0 _ rfl; exact BK319.out) Tryz.underlying28 rfl (by kernel_rfl)) rfl ?_
 exact ⟨_, by rfl, by exact Kd.R_nil _ _ _ _ _, by repeat with_reducible first | exact HB.out | apply bA_ | apply bN_ | apply bD_ | refine bS_ ?_ (Aside0.out ‹_›)⟩
def laws_FnExactTrieOfMachine.f (k : Nat) (l0_0 : List S90) : Option Bool := (some true : Option Bool)
structure laws_FnExactTrieOfMachine.All (k : Nat) (l : List S90) (tx tx2 : List S72) (r1 r1m : List S96) (r2 : Bool) (kx m : Int) : Prop where
 hto : laws_toMachine.f k l = some tx
 sp : spec_TrieOfMachine.f k tx = some (r1, r2)
 im : impl_TrieOfMachine.f k tx = some (r1, r2)
 eqm : laws_eqTrie.f k r1 r1 = some true
 eqt : laws_eqMachine.f k tx tx = some true
 mkt : laws_markMachine.f tx 1 = some (kx, tx2)
 kpos : ¬ kx < 0
 mkm : laws_markTrie.f k r1 1 = some (m, r1m)
 hem : laws_heldTrie.f k r1m 1 = some m
 mpos : ¬ m < 0
def laws_FnExactTrieOfMachine.Pure : Prop := ∀ (l : List S90), l.length ≤ 9223372036854775807 → (∀ x ∈ l, x.f1.length ≤ 9223372036854775807) → ∃ k0 c, laws_szMachine.f k0 l 1048576 = some c ∧ (c < 0 ∨ (¬ c < 0 ∧ ∃ k tx tx2 r1 r1m r2 kx m, laws_FnExactTrieOfMachine.All k l tx tx2 r1 r1m r2 kx m))
structure laws_FnExactTrieOfMachine.I4 (w W : World) (A0 : Option Addr) (n0 c0 b4 : Nat) (vW : Value) (lw : List S96) : Prop where
 h1 : W.heap[w.heap.size]? = some (.cells #[.slice A0 n0 c0] 24 (0, 0))
 h4 : W.heap[b4]? = some (.cells #[vW] 28 (0, 0))
 hW : Kd.R k96 96 W w.heap.size (fun k => k < b4) vW lw
 hB : Below w.heap.size w W
 lo : w.heap.size < b4
structure laws_FnExactTrieOfMachine.I7 (w W : World) (A0 : Option Addr) (n0 c0 b4 b6 b7 : Nat) (okG : Nat → Prop) (vW vG : Value) (lw lg : List S96) : Prop where
 i4 : laws_FnExactTrieOfMachine.I4 w W A0 n0 c0 b4 vW lw
 h7 : W.heap[b7]? = some (.cells #[vG] 28 (0, 0))
 hG : Kd.R k96 96 W w.heap.size okG vG lg
 lo : b4 < b6 ∧ b6 < b7
section
variable {w W W1 : World} {A0 : Option Addr} {n0 c0 b4 b6 b7 : Nat} {okG S : Nat → Prop} {vW vG : Value} {lw lg : List S96}
theorem laws_FnExactTrieOfMachine.I4.below (h : laws_FnExactTrieOfMachine.I4 w W A0 n0 c0 b4 vW lw) (hb : Below W.heap.size W W1) : laws_FnExactTrieOfMachine.I4 w W1 A0 n0 c0 b4 vW lw :=
 ⟨bB_ h.h1 hb, bB_ h.h4 hb, kB_ h.hW hb, bT_ h.hB hb, h.lo⟩
theorem laws_FnExactTrieOfMachine.I4.kept (h : laws_FnExactTrieOfMachine.I4 w W A0 n0 c0 b4 vW lw) (hk : Kept W W1 S) (hb : Below w.heap.size w W1) (hS : ∀ k, S k → b4 < k) : laws_FnExactTrieOfMachine.I4 w W1 A0 n0 c0 b4 vW lw :=
 ⟨blk_kept h.h1 hk (fun z => by have := hS _ z; have := h.lo; omega), blk_kept h.h4 hk (fun z => by have := hS _ z; omega), Kd.R_kept h.hW hk (fun k hk z => by have := hS _ z; omega), hb, h.lo⟩
theorem laws_FnExactTrieOfMachine.I7.below (h : laws_FnExactTrieOfMachine.I7 w W A0 n0 c0 b4 b6 b7 okG vW vG lw lg) (hb : Below W.heap.size W W1) : laws_FnExactTrieOfMachine.I7 w W1 A0 n0 c0 b4 b6 b7 okG vW vG lw lg :=
 ⟨h.i4.below hb, bB_ h.h7 hb, kB_ h.hG hb, h.lo⟩
theorem laws_FnExactTrieOfMachine.I7.kept (h : laws_FnExactTrieOfMachine.I7 w W A0 n0 c0 b4 b6 b7 (fun k => b6 < k ∧ k < b7) vW vG lw lg) (hk : Kept W W1 S) (hb : Below w.heap.size w W1) (hS : ∀ k, S k → b4 < k ∧ k < b6) : laws_FnExactTrieOfMachine.I7 w W1 A0 n0 c0 b4 b6 b7 (fun k => b6 < k ∧ k < b7) vW vG lw lg :=
 ⟨h.i4.kept hk hb (fun k z => (hS k z).1), blk_kept h.h7 hk (fun z => by have := hS _ z; have := h.lo; omega), Kd.R_kept h.hG hk (fun k hk z => by have := hS _ z; omega), h.lo⟩
end
theorem laws_FnExactTrieOfMachine.C_below {w W : World} {A : Option Addr} {n : Nat} {l : List S90} (h : Kd.C k90 w A n l) (hb : Below w.heap.size w W) : Kd.C k90 W A n l := k4_ h hb
theorem laws_FnExactTrieOfMachine.walk (P : laws_FnExactTrieOfMachine.Pure) (w : World) (A0 : Option Addr) (c0 : Nat) (l0_0 : List S90) (hr0 : Kd.C k90 w A0 l0_0.length l0_0) (hc0 : l0_0.length ≤ c0) :
  Calls Tryz.prog 3 #[.agg #[.slice A0 l0_0.length c0]] w fun e w' => e = .returned (.bool true) ∧ Below w.heap.size w w' := by
 obtain ⟨k0, c, hz, hP⟩ := P l0_0 hr0.2.1 (by
  intro x hx
  obtain ⟨i, hi, rfl⟩ := List.getElem_of_mem hx
  obtain ⟨_, _, _, _, _, _, _, h9⟩ := at_T90 hr0 (i : Int) (by omega) (by omega)
  have h8 := h9.2.1
  unfold rd_T90 at h8
  rw [Int.toNat_natCast, List.getD_eq_getElem?_getD, List.getElem?_eq_getElem hi] at h8
  exact h8)
 have hu24 := Tryz.underlying24
 have hu30 := Tryz.underlying33
 have hu39 := Tryz.underlying28
 have HZ := aM_ (fun (W : World) (hb : Below w.heap.size w W) => laws_szMachine.calls k0 A0 c0 l0_0 1048576 c W (laws_FnExactTrieOfMachine.C_below hr0 hb) hc0 hz)
 have HR := aM_ hr0
 have HC := aM_ hc0
 clear hr0 hc0 hz P
 have h1n : (w.alloc (.cells #[.slice A0 l0_0.length c0] 24 (0, 0))).heap[w.heap.size]? = some (.cells #[.slice A0 l0_0.length c0] 24 (0, 0)) := blk_new _ _
 have hbn : Below w.heap.size w (w.alloc (.cells #[.slice A0 l0_0.length c0] 24 (0, 0))) := (Below.refl w.heap.size w).alloc (Nat.le_refl _) _
 have H1 := aM_ (And.intro h1n hbn)
 clear h1n hbn
 rcases hP with hneg | ⟨hneg, k, tx, tx2, r1, r1m, r2, kx, m, hA⟩
 ·
  have c3 : decide (c < 0) = true := dT_ hneg
  clear hneg
  go_enter Tryz.func3, Tryz.ntmps3
  go_wp2_with fail
  refine (HZ.out _ H1.out.2).mono ?_
  rintro e w1 ⟨rfl, hb⟩
  have HB := aM_ (bT_ H1.out.2 hb)
  clear hb
  go_wp2_with fail
  go_ret
  exact ⟨rfl, HB.out⟩
 have c3 : decide (c < 0) = false := dF_ hneg
 have HA := aM_ hA
 clear hneg hA
 go_enter Tryz.func3, Tryz.ntmps3
 go_wp2_with fail
 refine (HZ.out _ H1.out.2).mono ?_
 rintro e w1 ⟨rfl, hb⟩
 have HB := aM_ (And.intro (bB_ H1.out.1 hb) (bT_ H1.out.2 hb))
 clear hb H1 HZ
 have h1c : w1.cell? ⟨w.heap.size, 0, none⟩ = some (.slice A0 l0_0.length c0) := (bC_ HB.out.1 0).trans rfl
 go_wp2_with fail
 refine (laws_toMachine.calls k _ _ l0_0 tx _ (laws_FnExactTrieOfMachine.C_below HR.out HB.out.2) HC.out HA.out.hto).mono ?_
 rintro e w2 ⟨v0, rfl, ho, hb⟩
 have HB2 := aM_ (And.intro (bB_ HB.out.1 hb) (bT_ HB.out.2 hb))
 obtain ⟨A1, c1, e1⟩ := Kd.S_slice ho
 subst e1
 have HO := aM_ ho
 clear ho hb HB h1c
 go_wp2_with fail
 refine (spec_TrieOfMachine.calls k _ _ tx r1 r2 _ (Kd.S_reads' HO.out).2.2 (Kd.S_reads' HO.out).2.1 HA.out.sp).mono ?_
 rintro e w3 ⟨vW, rfl, hs, hb⟩
 have HB3 := aM_ (And.intro (bB_ HB2.out.1 hb) (bT_ HB2.out.2 hb))
 obtain ⟨A2, c2, e2⟩ := kS_ hs
 subst e2
 have HS := aM_ (show Kd.R k96 96 w3 w.heap.size (fun k => k < w3.heap.size) (.slice A2 r1.length c2) r1 from kM_ (Kd.R_bound (k5_ hs (bZ_ HB2.out.2))) (fun k hk => hk.2.2.1))
 clear hs hb HB2 HO
 have h4 : laws_FnExactTrieOfMachine.I4 w (w3.alloc (.cells #[.slice A2 r1.length c2] 28 (0, 0))) A0 l0_0.length c0 w3.heap.size (.slice A2 r1.length c2) r1 := ⟨b3_ HB3.out.1 _, blk_new _ _, k1_ HS.out _, bA_ HB3.out.2 _, bL_ HB3.out.1⟩
 have H4 := aM_ h4
 have h1c : (w3.alloc (.cells #[.slice A2 r1.length c2] 28 (0, 0))).cell? ⟨w.heap.size, 0, none⟩ = some (.slice A0 l0_0.length c0) := (bC_ H4.out.h1 0).trans rfl
 clear h4 HS
 go_wp2_with fail
 refine (laws_toMachine.calls k _ _ l0_0 tx _ (laws_FnExactTrieOfMachine.C_below HR.out H4.out.hB) HC.out HA.out.hto).mono ?_
 rintro e w4 ⟨vX, rfl, ho, hb⟩
 have h4 := H4.out.below hb
 have H5 := aM_ h4
 obtain ⟨A3, c3, e3⟩ := Kd.S_slice ho
 subst e3
 have HX := aM_ (show Kd.S k72 72 w4 w.heap.size (fun k => w3.heap.size < k ∧ k < w4.heap.size) (.slice A3 tx.length c3) tx from Kd.S_lower (Kd.S_mono (Kd.S_bound ho) (fun k hk => ⟨by have := hk.2.1; simp at this; omega, hk.2.2.1⟩)) (bZ_ H4.out.hB))
 clear ho hb h4 H4 h1c HB3
 have h6 : (w4.alloc (.cells #[.slice A3 tx.length c3] 33 (0, 0))).heap[w4.heap.size]? = some (.cells #[.slice A3 tx.length c3] 33 (0, 0)) := blk_new _ _
 have H6 := aM_ h6
 have h6c : (w4.alloc (.cells #[.slice A3 tx.length c3] 33 (0, 0))).cell? ⟨w4.heap.size, 0, none⟩ = some (.slice A3 tx.length c3) := (bC_ H6.out 0).trans rfl
 clear h6
 have HX6 := aM_ (Kd.S_alloc HX.out (.cells #[.slice A3 tx.length c3] 33 (0, 0)))
 have H56 := aM_ (H5.out.below ((Below.refl w4.heap.size w4).alloc (Nat.le_refl _) (.cells #[.slice A3 tx.length c3] 33 (0, 0))))
 have HLT := aM_ (show w3.heap.size < w4.heap.size from bL_ H5.out.h4)
 clear HX H5
 go_wp2_with fail
 refine (impl_TrieOfMachine.calls k _ _ tx r1 r2 _ (Kd.S_reads' HX6.out).2.2 (Kd.S_reads' HX6.out).2.1 HA.out.im).mono ?_
 rintro e w5 ⟨vG, rfl, hs, hb⟩
 obtain ⟨A4, c4, e4⟩ := kS_ hs
 subst e4
 have hbs := bZ_ hb
 have HL5 := aM_ (show w4.heap.size < w5.heap.size by simp at hbs; omega)
 have HG := aM_ (show Kd.R k96 96 w5 w.heap.size (fun k => w4.heap.size < k ∧ k < w5.heap.size) (.slice A4 r1.length c4) r1 from k5_ (kM_ (Kd.R_bound hs) (fun k hk => ⟨by have := hk.2.1; simp at this; omega, hk.2.2.1⟩)) (bZ_ H56.out.hB))
 have HX7 := aM_ (Kd.S_alloc (Kd.S_below HX6.out hb) (.cells #[.slice A4 r1.length c4] 28 (0, 0)))
 have H6b := aM_ (b3_ (bB_ H6.out hb) (.cells #[.slice A4 r1.length c4] 28 (0, 0)))
 have h7 : laws_FnExactTrieOfMachine.I7 w (w5.alloc (.cells #[.slice A4 r1.length c4] 28 (0, 0))) A0 l0_0.length c0 w3.heap.size w4.heap.size w5.heap.size (fun k => w4.heap.size < k ∧ k < w5.heap.size) (.slice A2 r1.length c2) (.slice A4 r1.length c4) r1 r1 := ⟨(H56.out.below hb).below ((Below.refl w5.heap.size w5).alloc (Nat.le_refl _) _), blk_new _ _, k1_ HG.out _, HLT.out, HL5.out⟩
 have H7 := aM_ h7
 clear h7 hs hb hbs HX6 H56 H6 HG h6c
 have h7c : (w5.alloc (.cells #[.slice A4 r1.length c4] 28 (0, 0))).cell? ⟨w5.heap.size, 0, none⟩ = some (.slice A4 r1.length c4) := (bC_ H7.out.h7 0).trans rfl
 have h4c : (w5.alloc (.cells #[.slice A4 r1.length c4] 28 (0, 0))).cell? ⟨w3.heap.size, 0, none⟩ = some (.slice A2 r1.length c2) := (bC_ H7.out.i4.h4 0).trans rfl
 have er2 : (r2 != r2) = false := by simp
 go_wp2_with fail
 refine (laws_eqTrie.calls k _ _ r1 _ _ r1 true _ (kR_ H7.out.hG).2.2 (kR_ H7.out.hG).2.1 (kR_ H7.out.i4.hW).2.2 (kR_ H7.out.i4.hW).2.1 HA.out.eqm).mono ?_
 rintro e w6 ⟨rfl, hb⟩
 have H8 := aM_ (H7.out.below hb)
 have HX8 := aM_ (Kd.S_below HX7.out hb)
 have H6c := b5_ H6b hb
 clear hb H7 HX7 H6b h7c h4c
 go_wp2_with fail
 have H9 := aM_ (H8.out.below (bD_ (Below.refl w6.heap.size w6)))
 have HX9 := aM_ (Kd.S_drew HX8.out)
 have H6d := aM_ (b1_ H6c.out)
 clear H8 HX8 H6c
 refine start_ (n := 5) (S := fun w' => w'.cell? ⟨w4.heap.size, 0, none⟩ = some (.slice A3 tx.length c3) ∧ w'.cell? ⟨w.heap.size, 0, none⟩ = some (.slice A0 l0_0.length c0)) (ds := []) #[fy, fy, fy, fy, fy] (by kernel_rfl) rfl rfl ⟨(bC_ H6d.out 0).trans rfl, (bC_ H9.out.i4.h1 0).trans rfl⟩ (fun hHeld => ?_)
 generalize w6.drew = w7 at H9 HX9 H6d hHeld ⊢
 refine take_ (i := 0) (N := some 41) (v := ?_) (a' := ?_) #[ty, fy, fy, fy, fy] rfl rfl (by kernel_rfl) (fun _ _ _ h => h) (Or.inl ⟨by rfl, ?_⟩) hHeld ?_ ?_; rotate_left; (rintro w' ⟨s0, s1⟩; go_simp; with_reducible rfl); rotate_left; (simp only [Act.put, sA_, sB_, sC_, i6_, i3_]; rfl)
 refine take_ (i := 1) (N := some 42) (v := ?_) (a' := ?_) #[ty, ty, fy, fy, fy] rfl rfl (by kernel_rfl) (fun _ _ _ h => h) (Or.inl ⟨by rfl, ?_⟩) hHeld ?_ ?_; rotate_left; (rintro w' ⟨s0, s1⟩; go_simp; with_reducible rfl); rotate_left; (simp only [Act.put, sA_, sB_, sC_, i6_, i3_]; rfl)
 refine one_ (i := 2) (N := some 43) #[ty, ty, ty, fy, fy] rfl rfl (by kernel_rfl) (by decide) (fun K hK => ?_)
 refine goes_ Tryz.func15 (by kernel_rfl) rfl #[.agg #[.slice A0 l0_0.length c0]] (by rfl) rfl rfl (by (try simp only [sD_, sE_, sF_]); first | done | rfl) ?_
 refine (laws_toMachine.calls k _ _ l0_0 tx _ (laws_FnExactTrieOfMachine.C_below HR.out H9.out.i4.hB) HC.out HA.out.hto).mono ?_
 rintro e w8 ⟨vY, rfl, ho, hb⟩
 refine ⟨_, rfl, ?_⟩
 obtain ⟨A5, c5, e5⟩ := Kd.S_slice ho
 subst e5
 have HY := aM_ ho
 have H10 := aM_ (H9.out.below hb)
 have HX10 := aM_ (Kd.S_below HX9.out hb)
 have H6e := b5_ H6d hb
 clear ho hb H9 HX9 H6d hHeld
 refine hK.out _ _ ⟨(bC_ H6e.out 0).trans rfl, (bC_ H10.out.i4.h1 0).trans rfl⟩ (fun hHeld => ?_)
 clear hK K
 refine norm_ (by show Act.put _ (some 43) _ = _; simp only [Act.put, sA_, sB_, sC_, i6_, i3_]; rfl) ?_
 refine one_ (i := 3) (N := some 44) #[ty, ty, ty, ty, fy] rfl rfl (by kernel_rfl) (by decide) (fun K hK => ?_)
 refine goes_ Tryz.func18 (by kernel_rfl) rfl #[.agg #[.slice A3 tx.length c3], .agg #[.slice A5 tx.length c5]] (by rfl) rfl rfl (by (try simp only [sD_, sE_, sF_]); first | done | rfl) ?_
 refine (laws_eqMachine.calls k _ _ tx _ _ tx true _ (Kd.S_reads' HX10.out).2.2 (Kd.S_reads' HX10.out).2.1 (Kd.S_reads' HY.out).2.2 (Kd.S_reads' HY.out).2.1 HA.out.eqt).mono ?_
 rintro e w9 ⟨rfl, hb⟩
 refine ⟨_, rfl, ?_⟩
 have H11 := aM_ (H10.out.below hb)
 have HX11 := aM_ (Kd.S_below HX10.out hb)
 have H6f := b5_ H6e hb
 clear hb H10 HX10 H6e hHeld HY
 refine hK.out _ _ ⟨(bC_ H6f.out 0).trans rfl, (bC_ H11.out.i4.h1 0).trans rfl⟩ (fun hHeld => ?_)
 clear hK K
 refine norm_ (by show Act.put _ (some 44) _ = _; simp only [Act.put, sA_, sB_, sC_, i6_, i3_]; rfl) ?_
 refine pure_ (i := 4) (N := some 45) (v := ?_) (a' := ?_) #[ty, ty, ty, ty, ty] rfl rfl (by kernel_rfl) (fun _ _ _ h => h) (Or.inl ⟨by rfl, ?_⟩) ?_ ?_; rotate_left; (intro w'; go_simp; with_reducible rfl); rotate_left; (simp only [Act.put, sA_, sB_, sC_, i6_, i3_]; rfl)
 refine done_ (by kernel_rfl) ?_
 clear hHeld
 have h6c : w9.cell? ⟨w4.heap.size, 0, none⟩ = some (.slice A3 tx.length c3) := (bC_ H6f.out 0).trans rfl
 go_wp2_with fail
 refine (laws_markMachine.calls (fun k => w3.heap.size < k ∧ k < w4.heap.size) (.slice A3 tx.length c3) tx 1 kx tx2 w w9 H11.out.i4.hB HX11.out HA.out.mkt).mono ?_
 rintro e w10 ⟨rfl, _, hb, hk⟩
 have H12 := aM_ (H11.out.kept hk hb (fun k z => z))
 clear hb hk H11 HX11 H6f h6c
 have ck : decide (kx < 0) = false := dF_ HA.out.kpos
 have h7c : w10.cell? ⟨w5.heap.size, 0, none⟩ = some (.slice A4 r1.length c4) := (bC_ H12.out.h7 0).trans rfl
 have h4c : w10.cell? ⟨w3.heap.size, 0, none⟩ = some (.slice A2 r1.length c2) := (bC_ H12.out.i4.h4 0).trans rfl
 go_wp2_with fail
 refine (laws_eqTrie.calls k _ _ r1 _ _ r1 true _ (kR_ H12.out.hG).2.2 (kR_ H12.out.hG).2.1 (kR_ H12.out.i4.hW).2.2 (kR_ H12.out.i4.hW).2.1 HA.out.eqm).mono ?_
 rintro e w11 ⟨rfl, hb⟩
 have H13 := aM_ (H12.out.below hb)
 clear hb H12 h7c h4c
 have h7c : w11.cell? ⟨w5.heap.size, 0, none⟩ = some (.slice A4 r1.length c4) := (bC_ H13.out.h7 0).trans rfl
 go_wp2_with fail
 refine (laws_markTrie.calls k (fun k => w4.heap.size < k ∧ k < w5.heap.size) (.slice A4 r1.length c4) r1 1 m r1m w w11 H13.out.i4.hB H13.out.hG HA.out.mkm).mono ?_
 rintro e w12 ⟨rfl, hg, hb, hk⟩
 have hlen : r1m.length = r1.length := ((kR_ hg).1).symm
 have h14 : laws_FnExactTrieOfMachine.I7 w w12 A0 l0_0.length c0 w3.heap.size w4.heap.size w5.heap.size (fun k_ => ((w4.heap.size < k_ ∧ k_ < w5.heap.size) ∨ w11.heap.size ≤ k_)) (.slice A2 r1.length c2) (.slice A4 r1.length c4) r1 r1m := ⟨H13.out.i4.kept hk hb (fun k z => by have := H13.out.lo; omega), blk_kept H13.out.h7 hk (fun z => by omega), hg, H13.out.lo⟩
 have H14 := aM_ h14
 have HLN := aM_ hlen
 clear h14 hg hb hk hlen H13 h7c
 have h7c : w12.cell? ⟨w5.heap.size, 0, none⟩ = some (.slice A4 r1.length c4) := (bC_ H14.out.h7 0).trans rfl
 go_wp2_with fail
 have hh := fun (W : World) (hC : Kd.C k96 W A4 r1m.length r1m) (hc : r1m.length ≤ c4) => laws_heldTrie.calls k A4 c4 r1m 1 m W hC hc HA.out.hem
 rw [HLN.out] at hh
 have HH := aM_ hh
 clear hh
 refine (HH.out w12 (by rw [← HLN.out]; exact (kR_ H14.out.hG).2.2) (kR_ H14.out.hG).2.1).mono ?_
 rintro e w13 ⟨rfl, hb⟩
 have H15 := aM_ (H14.out.below hb)
 clear hb H14 h7c
 have cm : decide (m < 0) = false := dF_ HA.out.mpos
 have cmm : (m != m) = false := by simp
 have h1c : w13.cell? ⟨w.heap.size, 0, none⟩ = some (.slice A0 l0_0.length c0) := (bC_ H15.out.i4.h1 0).trans rfl
 go_wp2_with fail
 refine (laws_toMachine.calls k _ _ l0_0 tx _ (laws_FnExactTrieOfMachine.C_below HR.out H15.out.i4.hB) HC.out HA.out.hto).mono ?_
 rintro e w14 ⟨v6, rfl, ho, hb⟩
 obtain ⟨A6, c6, e6⟩ := Kd.S_slice ho
 subst e6
 have HO6 := aM_ ho
 have H16 := aM_ (H15.out.below hb)
 clear ho hb H15 h1c
 go_wp2_with fail
 refine (impl_TrieOfMachine.calls k _ _ tx r1 r2 _ (Kd.S_reads' HO6.out).2.2 (Kd.S_reads' HO6.out).2.1 HA.out.im).mono ?_
 rintro e w15 ⟨v7, rfl, hs, hb⟩
 obtain ⟨A7, c7, e7⟩ := kS_ hs
 subst e7
 have HS7 := aM_ (k1_ hs (.cells #[.slice A7 r1.length c7] 28 (0, 0)))
 have H17 := aM_ ((H16.out.below hb).below ((Below.refl w15.heap.size w15).alloc (Nat.le_refl _) (.cells #[.slice A7 r1.length c7] 28 (0, 0))))
 have hn : (w15.alloc (.cells #[.slice A7 r1.length c7] 28 (0, 0))).heap[w15.heap.size]? = some (.cells #[.slice A7 r1.length c7] 28 (0, 0)) := blk_new _ _
 have h12c : (w15.alloc (.cells #[.slice A7 r1.length c7] 28 (0, 0))).cell? ⟨w15.heap.size, 0, none⟩ = some (.slice A7 r1.length c7) := (bC_ hn 0).trans rfl
 have h4c : (w15.alloc (.cells #[.slice A7 r1.length c7] 28 (0, 0))).cell? ⟨w3.heap.size, 0, none⟩ = some (.slice A2 r1.length c2) := (bC_ H17.out.i4.h4 0).trans rfl
 clear hs hb hn H16 HO6
 go_wp2_with fail
 refine (laws_eqTrie.calls k _ _ r1 _ _ r1 true _ (kR_ HS7.out).2.2 (kR_ HS7.out).2.1 (kR_ H17.out.i4.hW).2.2 (kR_ H17.out.i4.hW).2.1 HA.out.eqm).mono ?_
 rintro e w16 ⟨rfl, hb⟩
 have H18 := aM_ (H17.out.below hb)
 clear hb H17 HS7 h12c h4c
 have h7c : w16.cell? ⟨w5.heap.size, 0, none⟩ = some (.slice A4 r1.length c4) := (bC_ H18.out.h7 0).trans rfl
 go_wp2_with fail
 refine (HH.out w16 (by rw [← HLN.out]; exact (kR_ H18.out.hG).2.2) (kR_ H18.out.hG).2.1).mono ?_
 rintro e w17 ⟨rfl, hb⟩
 have H19 := aM_ (H18.out.below hb)
 clear hb H18 h7c
 go_wp2_with fail
 go_ret
 exact ⟨rfl, H19.out.i4.hB⟩
end Go.Proofs.YtnnkedeohfbkeaaGreatDoor.P
namespace Go.Proofs.YtnnkedeohfbkeaaGreatDoor.L
open Go.RowKit Go.Proofs.YtnnkedeohfbkeaaGreatDoor.P Go.Proofs.YtnnkedeohfbkeaaGreatDoor.M Go.Proofs.YtnnkedeohfbkeaaGreatDoorW.PrintWords Go.Proofs.YtnnkedeohfbkeaaGreatDoorW.PrintLast Go.Proofs.YtnnkedeohfbkeaaGreatDoorW.PrintMore
theorem eqNode_self (a b : Int) (c : Bool) : laws_eqNode.f a b c a b c = some true := by
 unfold laws_eqNode.f
 rw [if_pos rfl, if_pos rfl, if_neg (by simp)]
theorem eqNodeS_loop (N : List Nd) (hN : N.length ≤ 4611686018427387903) : ∀ (d i : Nat), i + d = N.length → Ev (fun k => laws_eqNodeS.l0 k N N (i : Int)) true := by
 intro d
 induction d with
 | zero => intro i h; exact Ev.step (fun k => laws_eqNodeS.l0.eq_2 ..) (Ev.ifF (by omega) (Ev.now _))
 | succ d ih =>
  intro i h
  refine Ev.step (fun k => laws_eqNodeS.l0.eq_2 ..) (Ev.ifT (by omega) (Ev.ifT (by omega) (Ev.ifT (by omega) ?_)))
  rw [eqNode_self]
  refine Ev.some_bind (Ev.ifT rfl ?_)
  rw [wrap64_succ i (by omega)]
  exact ih (i + 1) (by omega)
theorem eqTrie_ev (N : List Nd) (hN : N.length ≤ 4611686018427387903) : Ev (fun k => laws_eqTrie.f k N N) true := by
 unfold laws_eqTrie.f laws_eqNodeS.f
 exact Ev.bind (f := fun k t => if t = true then some true else some false) (Ev.ifT rfl (eqNodeS_loop N hN N.length 0 (by omega))) (Ev.ifT rfl (Ev.now _))
def mkNode (j : Nat) : Nd := ⟨3 * (j : Int) + 1, 3 * (j : Int) + 2, true⟩
def marksN (n : Nat) (l : List Nd) : List Nd := (List.range n).map mkNode ++ l.drop n
theorem marksN_length (n : Nat) (l : List Nd) (h : n ≤ l.length) : (marksN n l).length = l.length := by simp [marksN]; omega
theorem marksN_set (n : Nat) (l : List Nd) (h : n < l.length) : (marksN n l).set n (mkNode n) = marksN (n + 1) l := by
 unfold marksN
 rw [List.set_append_right _ _ (by simp), show ((List.range n).map mkNode).length = n from by simp, Nat.sub_self, drop_cons_getD z96 h, List.set_cons_zero, List.range_succ, List.map_append, List.append_assoc]
 rfl
theorem rdN_set (l : List Nd) (n : Nat) (h : n < l.length) (v : Nd) : rd_T96 (l.set n v) (n : Int) = v := by
 rw [rd_get _ n (by rw [List.length_set]; exact h), List.getElem_set_self]
theorem three_mod (n : Nat) (h : n ≤ 1000000000) : (Int.tmod (wrap64 ((wrap64 ((3 * (n : Int) + 1) + 1)) + 1)) 3 == 0) = true := by
 rw [wrap64_id (x := 3 * (n : Int) + 1 + 1) (by omega) (by omega), wrap64_id (by omega) (by omega), beq_iff_eq, Int.tmod_eq_emod_of_nonneg (by omega)]
 omega
theorem markNodeS_loop (l : List Nd) (hl : l.length ≤ 1000000000) : ∀ (d n : Nat), n + d = l.length → Ev (fun k => laws_markNodeS.l0 k (marksN n l) (3 * (n : Int) + 1) (n : Int)) (3 * (l.length : Int) + 1, marksN l.length l) := by
 intro d
 induction d with
 | zero =>
  intro n hn
  refine Ev.step (fun k => laws_markNodeS.l0.eq_2 ..) (Ev.ifF (by rw [marksN_length n l (by omega)]; omega) ?_)
  rw [show n = l.length from by omega]; exact Ev.now _
 | succ d ih =>
  intro n hn
  have h1 : n < (marksN n l).length := by rw [marksN_length n l (by omega)]; omega
  refine Ev.step (fun k => laws_markNodeS.l0.eq_2 ..) (Ev.ifT (by omega) (Ev.ifT (by omega) (Ev.some_bind (Ev.some_bind ?_))))
  have := ih (n + 1) (by omega)
  rw [← marksN_set n l (by omega)] at this
  rw [Int.toNat_natCast]
  rw [rdN_set _ n h1, rdN_set _ n (by rw [List.length_set]; exact h1), List.set_set, List.set_set, three_mod n (by omega)]
  rw [show wrap64 ((wrap64 ((wrap64 (3 * (n : Int) + 1 + 1)) + 1)) + 1) = 3 * ((n + 1 : Nat) : Int) + 1 from by rw [wrap64_id (x := 3 * (n : Int) + 1 + 1) (by omega) (by omega), wrap64_id (x := 3 * (n : Int) + 1 + 1 + 1) (by omega) (by omega), wrap64_id (by omega) (by omega)]; omega, wrap64_succ n (by omega), show wrap64 (3 * (n : Int) + 1 + 1) = 3 * (n : Int) + 2 from by rw [wrap64_id (by omega) (by omega)]; omega]
  exact this
theorem markTrie_ev (l : List Nd) (hl : l.length ≤ 1000000000) : Ev (fun k => laws_markTrie.f k l 1) (3 * (l.length : Int) + 1, marksN l.length l) := by
 have := markNodeS_loop l hl l.length 0 (by omega)
 unfold laws_markTrie.f laws_markNodeS.f
 exact Ev.bind this (Ev.now _)
theorem marksN_rd (n : Nat) (l : List Nd) (j : Nat) (h : j < n) (h2 : n ≤ l.length) : rd_T96 (marksN n l) (j : Int) = mkNode j := by
 rw [rd_get _ j (by rw [marksN_length n l h2]; omega)]
 unfold marksN
 rw [List.getElem_append_left (by simpa using h)]
 simp
theorem heldNodeS_loop (l : List Nd) (hl : l.length ≤ 1000000000) : ∀ (d n : Nat), n + d = l.length → Ev (fun k => laws_heldNodeS.l0 k (marksN l.length l) (3 * (n : Int) + 1) (n : Int)) (3 * (l.length : Int) + 1) := by
 intro d
 induction d with
 | zero =>
  intro n hn
  refine Ev.step (fun k => laws_heldNodeS.l0.eq_2 ..) (Ev.ifF (by rw [marksN_length _ l (by omega)]; omega) ?_)
  rw [show n = l.length from by omega]; exact Ev.now _
 | succ d ih =>
  intro n hn
  have hw : wrap64 (3 * (n : Int) + 1 + 1) = 3 * (n : Int) + 2 := by rw [wrap64_id (by omega) (by omega)]; omega
  have h3 := three_mod n (by omega)
  refine Ev.step (fun k => laws_heldNodeS.l0.eq_2 ..) (Ev.ifT (by rw [marksN_length _ l (by omega)]; omega) (Ev.ifT (by omega) ?_))
  rw [marksN_rd _ l n (by omega) (Nat.le_refl _), h3]
  refine Ev.ifT rfl (Ev.ifT (by rw [hw]; rfl) (Ev.ifF (by simp [mkNode]) ?_))
  rw [hw, show wrap64 ((wrap64 (3 * (n : Int) + 2 + 1)) + 1) = 3 * ((n + 1 : Nat) : Int) + 1 from by rw [wrap64_id (x := 3 * (n : Int) + 2 + 1) (by omega) (by omega), wrap64_id (by omega) (by omega)]; omega, wrap64_succ n (by omega)]
  exact ih (n + 1) (by omega)
theorem heldTrie_ev (l : List Nd) (hl : l.length ≤ 1000000000) : Ev (fun k => laws_heldTrie.f k (marksN l.length l) 1) (3 * (l.length : Int) + 1) := by
 have := heldNodeS_loop l hl l.length 0 (by omega)
 unfold laws_heldTrie.f laws_heldNodeS.f
 exact Ev.bind this (Ev.ifF (by omega) (Ev.now _))
end Go.Proofs.YtnnkedeohfbkeaaGreatDoor.L
namespace Go.Proofs.YtnnkedeohfbkeaaGreatDoor.Pure
open Go.RowKit Go.Proofs.YtnnkedeohfbkeaaGreatDoor.P Go.Proofs.YtnnkedeohfbkeaaGreatDoor.M Go.Proofs.YtnnkedeohfbkeaaGreatDoorW.PrintWords Go.Proofs.YtnnkedeohfbkeaaGreatDoorW.PrintLast Go.Proofs.YtnnkedeohfbkeaaGreatDoorW.PrintMore
open Go.Proofs.YtnnkedeohfbkeaaGreatDoor.L
open Mach
theorem both (m : List Stt) (hx : ∀ x ∈ m, x.f1.length ≤ 1048576) : ∃ (r1 : List Nd) (r2 : Bool), Ev (fun k => spec_TrieOfMachine.f k m) (r1, r2) ∧ Ev (fun k => impl_TrieOfMachine.f k m) (r1, r2) ∧ r1.length ≤ 1000000 := by
 unfold spec_TrieOfMachine.f impl_TrieOfMachine.f
 rcases mach_both m hx with ⟨ws, h, rfl, h1, h2⟩ | ⟨h1, h2⟩
 ·
  exact ⟨trN (preL ws) ws, true, Ev.bind h1 (Ev.ifT rfl (Ev.bind (l7Words_ev h) (Ev.bind (l2Of_ev h) (Ev.now _)))), Ev.bind h2 (Ev.now _), by rw [trN_length]; have := h.pre; omega⟩
 exact ⟨[], false, Ev.bind h1 (Ev.ifF Bool.false_ne_true (Ev.now _)), Ev.bind h2 (Ev.now _), by simp⟩
theorem FnExactTrieOfMachine : laws_FnExactTrieOfMachine.Pure := by
 intro l hl hx
 obtain ⟨c, ⟨k0, hc⟩, hr⟩ := szMachine_ev l hl hx
 refine ⟨k0, c, hc k0 (Nat.le_refl _), ?_⟩
 rcases hr with hneg | ⟨h0, h1, h2⟩
 ·
  exact .inl hneg
 refine .inr ⟨by omega, ?_⟩
 obtain ⟨r1, r2, b1, b2, b3⟩ := both (toM l) (toM_edges h2)
 obtain ⟨k1, e1⟩ := toMachine_ev l h1 h2
 obtain ⟨k2, e2⟩ := b1
 obtain ⟨k3, e3⟩ := b2
 obtain ⟨k4, e4⟩ := eqTrie_ev r1 (by omega)
 obtain ⟨k5, e5⟩ := MMk.eqMachine_ev (toM l) (by rw [toM_length]; omega) (fun x hx => by have := toM_edges h2 x hx; omega)
 obtain ⟨k6, e6⟩ := markTrie_ev r1 (by omega)
 obtain ⟨k7, e7⟩ := heldTrie_ev r1 (by omega)
 let k := k1 + k2 + k3 + k4 + k5 + k6 + k7
 obtain ⟨m1, m2⟩ := MMk.mark_big (l := toM l) (by rw [toM_length]; omega) (toM_edges h2)
 exact ⟨k, toM l, _, r1, _, r2, _, _, ⟨e1 k (by omega), e2 k (by omega), e3 k (by omega), e4 k (by omega), e5 k (by omega), m1, by omega, e6 k (by omega), e7 k (by omega), by omega⟩⟩
end Go.Proofs.YtnnkedeohfbkeaaGreatDoor.Pure
namespace Go.Proofs.YtnnkedeohfbkeaaGreatDoor.fnExactTrieOfMachine
open Go.ChangeShapes Go.WideShapes Go.ChangeAt Go.RowKit Go.Proofs.YtnnkedeohfbkeaaGreatDoor.P
open Go.ChangeMaps (open_string shut_string)
def laidL : List (String × DataW Unit) := [("unicode/utf8.acceptRanges", Rows.laid_unicode_utf8_acceptRanges), ("unicode/utf8.first", Rows.laid_unicode_utf8_first)]
theorem own : ownKnob Tryz.prog.godebug = none := by kernel_rfl
theorem laidOut : laidOutB Tryz.prog = true := by kernel_rfl
theorem lifted (os : Os) (started : os.Started) (H : Type) (enc : TypeId × Value → H) :
    ReturnsInHanded {} Tryz.checked os 3 .any (fun w args => (Rows.fnExactTrieOfMachineSpec.pre enc Tryz.prog Tryz.f3 [] false w args ∧ laidMetH Tryz.prog laidL w) ∧ sizedMet enc Tryz.prog Tryz.f3 (OpenSpec.ofChange Rows.fnExactTrieOfMachineSpec) false w args) (Rows.fnExactTrieOfMachineSpec.post enc Tryz.prog Tryz.f3 false true false false) := by
  refine returnsInHanded_of_change_and (C := Tryz.checked) (X := fun w _ => laidMetH Tryz.prog laidL w) (fun _ _ _ hh h => h.of_heap hh) own started (by kernel_rfl) Tryz.func3
    (ChangeSpec.witness_shaped (enc := enc) (C := Tryz.checked) (os := os) (X := fun w _ => laidMetH Tryz.prog laidL w) false (World.laidAll Tryz.prog os laidL) #[.agg #[.slice none 0 0]] 8 (World.laidAll_os _ _ _) (World.shaped_of_ZipB (by kernel_rfl) (by kernel_rfl)) (by kernel_rfl) (by kernel_rfl) (by kernel_rfl)
      (by rw [MakeChecks.laidMetH_plain _ _ _ (by kernel_rfl)]; exact laidMet_laidAll _ (by kernel_rfl) (by kernel_rfl))) ?_
  intro W base args ds gs before hval0 hW hcnd hsz0 hL_ _
  have hsz : (DataW.weightsEach Tryz.prog (Tryz.f3.params.toList ++ Rows.fnExactTrieOfMachineSpec.plain.varTypes Tryz.prog) (ds ++ gs)).all (· ≤ reachBytes) = true := hsz0
  have hval : ∀ (j : Nat) t v, Tryz.f3.params[j]? = some t → args[j]? = some v → Value.okWide Tryz.prog W .any base t v := hval0
  have hW' := hW
  obtain ⟨p, q, hA0, hV, rfl, hfz, hnd⟩ := hW
  have hA : DataW.TrodAll enc Tryz.prog W 0 (fun _ => true) true Tryz.f3.params.toList args.toList ds p := hA0
  rw [Tryz.params3] at hA hval hsz
  obtain ⟨v0, vs0, d0, ds0, p0, q0, hargs, rfl, rfl, h0, r0⟩ := trodAll_cons hA
  obtain ⟨rfl, rfl, rfl⟩ := trodAll_nil r0
  obtain rfl : args = #[v0] := by cases args; simp_all
  obtain ⟨rfl, rfl⟩ := trodVars_none hV
  have k0 := h0
  have lt0 : ∀ x ∈ p0, x.block < W.heap.size := by obtain ⟨m, hm⟩ := k0; exact DataW.trod_lt m _ _ _ hm
  obtain ⟨A0, c0, l0, ev0, hc0, hr0⟩ := OM.machine (hval 0 24 v0 rfl rfl) h0
  subst ev0
  clear hA0 hval0 hsz0 hsz
  refine (laws_FnExactTrieOfMachine.walk Pure.FnExactTrieOfMachine W A0 c0 l0 hr0 hc0).mono fun e W' ⟨he, bel⟩ => ?_
  subst he
  exact ⟨_, rfl, _, _, _, [], _, [], hW', trodAll_mk1 (shut_bool Tryz.underlying4 _), (trodAll_cons_mk (Below.trod laidOut (by kernel_rfl) (of_decide_eq_true (by kernel_rfl)) k0 bel lt0) trodAll_mk0), rfl, bel.frame _, fun h => by cases h⟩
theorem over : Rows.fnExactTrieOfMachineRow.holds Tryz.pinned (OpenSpec.ofChange Rows.fnExactTrieOfMachineSpec) :=
  OpenClaim.holds_of_wide 3 Tryz.f3 rfl rfl rfl rfl rfl rfl rfl ⟨rfl, rfl, rfl, rfl, rfl⟩ rfl rfl rfl rfl rfl (by kernel_rfl) Tryz.func3 (by kernel_rfl)
    (of_decide_eq_true (by kernel_rfl)) (by unfold Func.isWrapper; first | (rw [if_pos (by decide +kernel)]; kernel_rfl) | (rw [if_neg (by decide +kernel)]; exact ⟨rfl, rfl⟩))
    (fun os started H enc _ => lifted os started H enc)
theorem proved : Rows.FnExactTrieOfMachineSaid := over
end Go.Proofs.YtnnkedeohfbkeaaGreatDoor.fnExactTrieOfMachine
namespace Go.Proofs.YtnnkedeohfbkeaaGreatDoor
theorem fnExactTrieOfMachine_holds : Rows.FnExactTrieOfMachineSaid := fnExactTrieOfMachine.proved
theorem fnExactTrieOfMachine_card : Rows.FnExactTrieOfMachineCardSaid :=
  Claim7.holds_tied_plain_at .later [] [.data, .pinned] true (true, "d24746f385e5a6b2389916c9b9ccdfc43770af261716950c3f87901a77ac8579") false
    fnExactTrieOfMachine_holds (fun _ h => by cases h) (by kernel_rfl) (fun _ h => by cases h) fnExactTrieOfMachine_row_tie rfl ⟨rfl, rfl⟩ (by kernel_rfl) rfl
    (fun f fn hf hfn => by
      obtain rfl : f = 3 := Option.some.inj ((show Tryz.prog.funcNamed "loop.example/g01243/laws.FnExactTrieOfMachine" = some 3 by kernel_rfl).symm.trans hf) |>.symm
      obtain rfl : fn = Tryz.f3 := (Option.some.inj (Tryz.func3.symm.trans hfn)).symm
      exact ⟨by kernel_rfl, fun j t ht => by
        rw [Tryz.params3] at ht
        have hm : t ∈ [24] := by simpa using Array.mem_of_getElem? ht
        have hall : ([24].all fun u => !Tryz.prog.wantsStandIn u) = true := by kernel_rfl
        exact (show Tryz.prog.wantsStandIn t = false by simpa using List.all_eq_true.1 hall t hm)⟩)
    (by kernel_rfl)
end Go.Proofs.YtnnkedeohfbkeaaGreatDoor
