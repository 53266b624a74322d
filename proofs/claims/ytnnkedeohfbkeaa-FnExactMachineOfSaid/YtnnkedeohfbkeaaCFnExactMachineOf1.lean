/-
  Part 2 of the proof that FnExactMachineOf returns true for every input: the functions that it reaches, each with its contract, and the law.
  Conditions: those of the given statement, no others.
-/
import Derived.Test.YtnnkedeohfbkeaaCFnExactMachineOfW0
import Derived.Shelf.Abstract
import Derived.Maps.OwnOps
import Derived.Maps.Views
import Derived.Test.YtnnkedeohfbkeaaProg
import Derived.Ground.NamesProg
import Derived.Shelf.Sort.Plain
import Derived.Shelf.Slices.In.SortNone
import Derived.Shelf.Slices.CompactS
import Derived.RangeFuncBox
import Derived.RangeFuncLeaves
import Derived.OwnWalkIn
import Derived.TacticsInMore
import Derived.LoopNIn
import Derived.LoopIn
import Derived.Maps.AppendAt
import Derived.Sort.OwnSorted
import Derived.Lib.OwnBridge
import Derived.Test.YtnnkedeohfbkeaaCFnExactMachineOf0
set_option linter.unusedVariables false
set_option linter.unusedSimpArgs false
set_option maxHeartbeats 8000000
set_option maxRecDepth 100000
namespace Go.Proofs.Ytnnkedeohfbkeaa.P
open Go.RowKit Go.Proofs.YtnnkedeohfbkeaaW.PrintWords Go.Proofs.YtnnkedeohfbkeaaW.PrintLast Go.Proofs.YtnnkedeohfbkeaaW.PrintMore
open Go.Proofs.YtnnkedeohfbkeaaW.PrintWords renaming blk_frozen → bF_, blk_cell → bC_, below_set → bS_, blk_below → bB_, below_step → bT_, pw_below_drewN → bN_, below_size → bZ_, below_drew1 → bD_, below_alloc → bA_, blk_far → bR_, gate_callee → gC_, gate_dst → gD_, box_event → bE_, blk_drew → b1_, blk_put → bP_, blk_drewN → b2_, blk_alloc → b3_, blk_lt → bL_, cell_far → cF_
open Go.Proofs.YtnnkedeohfbkeaaW.PrintLast renaming any_of → aO_, i64_w → i6_, i32_w → i3_, take_ofW → tW_
open Go.Proofs.YtnnkedeohfbkeaaW.PrintWords.Kd renaming R_below → kB_, R_mono → kM_, R_far → kF_, R_reads' → kR_, R_types → kT_, R_slice → kS_, R_celln → kC_, R_alloc → k1_, R_drewN → k2_, R_drew → k3_, C_below → k4_, R_lower → k5_, R_ne → k6_, own_blk → k7_
open Go.Proofs.YtnnkedeohfbkeaaW.PrintWords.LeO renaming none → l0_, bind → l1_, ite → l2_, refl → l3_
open World renaming block_lt_of_cell? → wB_
open _root_.Option renaming bind_eq_some_iff → oB_
open _root_.ByteArray renaming empty → eB_
open List renaming setIfInBounds_toArray → sA_, set_cons_zero → sB_, set_cons_succ → sC_, map_toArray → sD_, map_cons → sE_, map_nil → sF_, length_drop → sG_, length_take → sH_
open Bool renaming true → ty, false → fy
open Aside0 renaming mk → aM_
attribute [local go_sem] max2_int min2_int max_two min_two max_three min_three max_four min_four
mutual
def spec_l7Machine.l0 : Nat → List (List Int) → List Int → List Int → Int → Int → List (S65) → Option ((List (S77)))
 | 0, _, _, _, _, _, _ => none
 | k + 1, x3, x4, x5, x6, x7, x414000 => if x7 < (x4.length : Int) then (if 0 ≤ x7 then (if x7 < (x5.length : Int) then (spec_l7Machine.l0 k x3 x4 (x5.set (x7 : Int).toNat (-1)) x6 (wrap64 (x7 + 1)) x414000) else (none)) else (none)) else (spec_l7Machine.l1 k x3 x4 x5 x6 0 x414000)
def spec_l7Machine.l1 : Nat → List (List Int) → List Int → List Int → Int → Int → List (S65) → Option ((List (S77)))
 | 0, _, _, _, _, _, _ => none
 | k + 1, x3, x4, x5, x6, x8, x414000 => if x8 < (x4.length : Int) then (if 0 ≤ x8 then (if 0 ≤ (rd x4 x8) then (if (rd x4 x8) < (x5.length : Int) then (if (rd x5 (rd x4 x8)) < 0 then (spec_l7Machine.l1 k x3 x4 (x5.set ((rd x4 x8) : Int).toNat x6) (wrap64 (x6 + 1)) (wrap64 (x8 + 1)) x414000) else (spec_l7Machine.l1 k x3 x4 x5 x6 (wrap64 (x8 + 1)) x414000)) else (none)) else (none)) else (none)) else (spec_l7Machine.l2 k x3 x4 x5 0 x414000 (([] : List (S77))))
def spec_l7Machine.l2 : Nat → List (List Int) → List Int → List Int → Int → List (S65) → List (S77) → Option ((List (S77)))
 | 0, _, _, _, _, _, _ => none
 | k + 1, x3, x4, x5, x10, x414000, x433000 => if x10 < (x4.length : Int) then (if 0 ≤ x10 then (if 0 ≤ (rd x4 x10) then (if (rd x4 x10) < (x5.length : Int) then (if (rd x5 (rd x4 x10)) = (x433000.length : Int) then (if x10 < (x414000.length : Int) then (spec_l7Machine.l3 k x3 x4 x5 x10 0 x414000 x433000 ((rd_T65 x414000 x10).f2) (([] : List (S78)))) else (none)) else (spec_l7Machine.l2 k x3 x4 x5 (wrap64 (x10 + 1)) x414000 x433000)) else (none)) else (none)) else (none)) else (some x433000)
def spec_l7Machine.l3 : Nat → List (List Int) → List Int → List Int → Int → Int → List (S65) → List (S77) → Bool → List (S78) → Option ((List (S77)))
 | 0, _, _, _, _, _, _, _, _, _ => none
 | k + 1, x3, x4, x5, x10, x12, x414000, x433000, x440000, x440001 => if 0 ≤ x10 then (if x10 < (x3.length : Int) then (if x12 < ((rd_L7 x3 x10).length : Int) then (if 0 ≤ x12 then (if 0 ≤ (rd (rd_L7 x3 x10) x12) then (if (rd (rd_L7 x3 x10) x12) < (x414000.length : Int) then (if (rd (rd_L7 x3 x10) x12) < (x4.length : Int) then (if 0 ≤ (rd x4 (rd (rd_L7 x3 x10) x12)) then (if (rd x4 (rd (rd_L7 x3 x10) x12)) < (x5.length : Int) then (if x440001.length < 8796093022208 then (spec_l7Machine.l3 k x3 x4 x5 x10 (wrap64 (x12 + 1)) x414000 x433000 x440000 (x440001 ++ [(⟨(rd_T65 x414000 (rd (rd_L7 x3 x10) x12)).f0, rd x5 (rd x4 (rd (rd_L7 x3 x10) x12))⟩ : S78)])) else (none)) else (none)) else (none)) else (none)) else (none)) else (none)) else (none)) else (if x433000.length < 4398046511104 then (spec_l7Machine.l2 k x3 x4 x5 (wrap64 (x10 + 1)) x414000 (x433000 ++ [(⟨x440000, x440001⟩ : S77)])) else (none))) else (none)) else (none)
end
def spec_l7Machine.f (k : Nat) (l0_0 : List (S65)) : Option ((List (S77))) := (spec_l7Kids.f k l0_0).bind fun t415 => ((spec_l7Ends.f k l0_0).bind fun t418 => (if 0 ≤ (t418.length : Int) then (if ((t418.length : Int) : Int).toNat ≤ 35184372088832 then (spec_l7Machine.l0 k t415 t418 (List.replicate ((t418.length : Int) : Int).toNat 0) 0 0 l0_0) else (none)) else (none)))
theorem spec_l7Machine.mono_l : ∀ k, (∀ y0 y1 y2 y3 y4 y5, LeO (spec_l7Machine.l0 k y0 y1 y2 y3 y4 y5) (spec_l7Machine.l0 (k + 1) y0 y1 y2 y3 y4 y5)) ∧ (∀ y0 y1 y2 y3 y4 y5, LeO (spec_l7Machine.l1 k y0 y1 y2 y3 y4 y5) (spec_l7Machine.l1 (k + 1) y0 y1 y2 y3 y4 y5)) ∧ (∀ y0 y1 y2 y3 y4 y5, LeO (spec_l7Machine.l2 k y0 y1 y2 y3 y4 y5) (spec_l7Machine.l2 (k + 1) y0 y1 y2 y3 y4 y5)) ∧ (∀ y0 y1 y2 y3 y4 y5 y6 y7 y8, LeO (spec_l7Machine.l3 k y0 y1 y2 y3 y4 y5 y6 y7 y8) (spec_l7Machine.l3 (k + 1) y0 y1 y2 y3 y4 y5 y6 y7 y8))
 | 0 => ⟨fun _ _ _ _ _ _ r h => by simp [spec_l7Machine.l0] at h, fun _ _ _ _ _ _ r h => by simp [spec_l7Machine.l1] at h, fun _ _ _ _ _ _ r h => by simp [spec_l7Machine.l2] at h, fun _ _ _ _ _ _ _ _ _ r h => by simp [spec_l7Machine.l3] at h⟩
 | k + 1 => by
  obtain ⟨ih0, ih1, ih2, ih3⟩ := spec_l7Machine.mono_l k
  refine ⟨?_, ?_, ?_, ?_⟩
  ·
   intro y0 y1 y2 y3 y4 y5
   unfold spec_l7Machine.l0
   repeat' first
   | (with_reducible exact ih0 _ _ _ _ _ _)
   | (with_reducible exact ih1 _ _ _ _ _ _)
   | (with_reducible exact ih2 _ _ _ _ _ _)
   | (with_reducible exact ih3 _ _ _ _ _ _ _ _ _)
   | (with_reducible exact spec_l7Ends.mono _ _)
   | (with_reducible exact spec_l7Kids.mono _ _)
   | (with_reducible exact l3_ _)
   | (with_reducible exact l0_ _)
   | (with_reducible refine l2_ ?_ ?_)
   | (with_reducible refine l1_ ?_ (fun _ => ?_))
   | exact ih0 _ _ _ _ _ _
   | exact ih1 _ _ _ _ _ _
   | exact ih2 _ _ _ _ _ _
   | exact ih3 _ _ _ _ _ _ _ _ _
   | exact spec_l7Ends.mono _ _
   | exact spec_l7Kids.mono _ _
   | exact l0_ _
   | refine l2_ ?_ ?_
   | refine l1_ ?_ (fun _ => ?_)
  ·
   intro y0 y1 y2 y3 y4 y5
   unfold spec_l7Machine.l1
   repeat' first
   | (with_reducible exact ih0 _ _ _ _ _ _)
   | (with_reducible exact ih1 _ _ _ _ _ _)
   | (with_reducible exact ih2 _ _ _ _ _ _)
   | (with_reducible exact ih3 _ _ _ _ _ _ _ _ _)
   | (with_reducible exact spec_l7Ends.mono _ _)
   | (with_reducible exact spec_l7Kids.mono _ _)
   | (with_reducible exact l3_ _)
   | (with_reducible exact l0_ _)
   | (with_reducible refine l2_ ?_ ?_)
   | (with_reducible refine l1_ ?_ (fun _ => ?_))
   | exact ih0 _ _ _ _ _ _
   | exact ih1 _ _ _ _ _ _
   | exact ih2 _ _ _ _ _ _
   | exact ih3 _ _ _ _ _ _ _ _ _
   | exact spec_l7Ends.mono _ _
   | exact spec_l7Kids.mono _ _
   | exact l0_ _
   | refine l2_ ?_ ?_
   | refine l1_ ?_ (fun _ => ?_)
  ·
   intro y0 y1 y2 y3 y4 y5
   unfold spec_l7Machine.l2
   repeat' first
   | (with_reducible exact ih0 _ _ _ _ _ _)
   | (with_reducible exact ih1 _ _ _ _ _ _)
   | (with_reducible exact ih2 _ _ _ _ _ _)
   | (with_reducible exact ih3 _ _ _ _ _ _ _ _ _)
   | (with_reducible exact spec_l7Ends.mono _ _)
   | (with_reducible exact spec_l7Kids.mono _ _)
   | (with_reducible exact l3_ _)
   | (with_reducible exact l0_ _)
   | (with_reducible refine l2_ ?_ ?_)
   | (with_reducible refine l1_ ?_ (fun _ => ?_))
   | exact ih0 _ _ _ _ _ _
   | exact ih1 _ _ _ _ _ _
   | exact ih2 _ _ _ _ _ _
   | exact ih3 _ _ _ _ _ _ _ _ _
   | exact spec_l7Ends.mono _ _
   | exact spec_l7Kids.mono _ _
   | exact l0_ _
   | refine l2_ ?_ ?_
   | refine l1_ ?_ (fun _ => ?_)
  ·
   intro y0 y1 y2 y3 y4 y5 y6 y7 y8
   unfold spec_l7Machine.l3
   repeat' first
   | (with_reducible exact ih0 _ _ _ _ _ _)
   | (with_reducible exact ih1 _ _ _ _ _ _)
   | (with_reducible exact ih2 _ _ _ _ _ _)
   | (with_reducible exact ih3 _ _ _ _ _ _ _ _ _)
   | (with_reducible exact spec_l7Ends.mono _ _)
   | (with_reducible exact spec_l7Kids.mono _ _)
   | (with_reducible exact l3_ _)
   | (with_reducible exact l0_ _)
   | (with_reducible refine l2_ ?_ ?_)
   | (with_reducible refine l1_ ?_ (fun _ => ?_))
   | exact ih0 _ _ _ _ _ _
   | exact ih1 _ _ _ _ _ _
   | exact ih2 _ _ _ _ _ _
   | exact ih3 _ _ _ _ _ _ _ _ _
   | exact spec_l7Ends.mono _ _
   | exact spec_l7Kids.mono _ _
   | exact l0_ _
   | refine l2_ ?_ ?_
   | refine l1_ ?_ (fun _ => ?_)
theorem spec_l7Machine.mono : ∀ a0 k, LeO (spec_l7Machine.f k a0) (spec_l7Machine.f (k + 1) a0) := by
 intro a0 k
 obtain ⟨ih0, ih1, ih2, ih3⟩ := spec_l7Machine.mono_l k
 unfold spec_l7Machine.f
 repeat' first
   | (with_reducible exact ih0 _ _ _ _ _ _)
   | (with_reducible exact ih1 _ _ _ _ _ _)
   | (with_reducible exact ih2 _ _ _ _ _ _)
   | (with_reducible exact ih3 _ _ _ _ _ _ _ _ _)
   | (with_reducible exact spec_l7Ends.mono _ _)
   | (with_reducible exact spec_l7Kids.mono _ _)
   | (with_reducible exact l3_ _)
   | (with_reducible exact l0_ _)
   | (with_reducible refine l2_ ?_ ?_)
   | (with_reducible refine l1_ ?_ (fun _ => ?_))
   | exact ih0 _ _ _ _ _ _
   | exact ih1 _ _ _ _ _ _
   | exact ih2 _ _ _ _ _ _
   | exact ih3 _ _ _ _ _ _ _ _ _
   | exact spec_l7Ends.mono _ _
   | exact spec_l7Kids.mono _ _
   | exact l0_ _
   | refine l2_ ?_ ?_
   | refine l1_ ?_ (fun _ => ?_)
def spec_l7Machine.T17 : Bool × List (List Nat × List Nat) := (true, [([], []), ([], []), ([], []), ([1, 2], [1, 2]), ([3], [3]), ([0, 4], [0, 4]), ([5], [5]), ([], []), ([7], [7]), ([8], [8]), ([6, 9], [6, 9])])
def spec_l7Machine.B17 : List Nat := [0, 0, 0, 6, 14, 31, 63, 0, 128, 384, 1023]
theorem spec_l7Machine.tab17 : rtab .any (opsOf Try.f27 17) = spec_l7Machine.T17 := by kernel_rfl
theorem spec_l7Machine.bits17 : waitsOk spec_l7Machine.T17.2 spec_l7Machine.B17 = true := by kernel_rfl
def spec_l7Machine.T22 : Bool × List (List Nat × List Nat) := (true, [([], []), ([0], [0]), ([], []), ([2], [2]), ([], []), ([], []), ([4, 5], [4, 5]), ([6], [6]), ([], []), ([7, 8], [7, 8]), ([9], [9]), ([3, 10], [3, 10]), ([11], [11]), ([12], [12]), ([], []), ([], []), ([], []), ([], []), ([16, 17], [16, 17]), ([18], [18]), ([], []), ([19, 20], [19, 20]), ([21], [21]), ([15, 22], [15, 22]), ([23], [23]), ([14, 24], [14, 24]), ([25], [25]), ([13, 26], [13, 26]), ([27], [27]), ([1, 28], [1, 28]), ([0, 1, 2, 3, 4, 5, 6, 7, 8, 9, 10, 11, 12, 13, 14, 15, 16, 17, 18, 19, 20, 21, 22, 23, 24, 25, 26, 27, 28, 29], []), ([30, 29, 29, 0, 1, 2, 3, 4, 5, 6, 7, 8, 9, 10, 11, 12, 13, 14, 15, 16, 17, 18, 19, 20, 21, 22, 23, 24, 25, 26, 27, 28, 29], [29, 30])])
def spec_l7Machine.B22 : List Nat := [0, 1, 0, 4, 0, 0, 48, 112, 0, 496, 1008, 2044, 4092, 8188, 0, 0, 0, 0, 196608, 458752, 0, 2031616, 4128768, 8355840, 16744448, 33538048, 67092480, 134217724, 268435452, 536870911, 1073741823, 2147483647]
theorem spec_l7Machine.tab22 : rtab .any (opsOf Try.f27 22) = spec_l7Machine.T22 := by kernel_rfl
theorem spec_l7Machine.bits22 : waitsOk spec_l7Machine.T22.2 spec_l7Machine.B22 = true := by kernel_rfl
theorem spec_l7Machine.calls (k : Nat) (A0_0 : Option Addr) (c0_0 : Nat) (l0_0 : List (S65)) (r : List (S77)) (w : World) (hr0_0 : Kd.C k65 w A0_0 l0_0.length l0_0) (hc0_0 : l0_0.length ≤ c0_0) (h : spec_l7Machine.f k l0_0 = some r) :
  Calls Try.prog 27 #[.agg #[.slice A0_0 l0_0.length c0_0]] w fun e w' => ∃ v0_ : Value, e = .returned (.agg #[v0_]) ∧ Kd.S k77 77 w' w.heap.size (fun _ => True) v0_ r ∧ Below w.heap.size w w' := by
 have hu30 := Try.underlying30
 have hu39 := Try.underlying39
 have hu77 := Try.underlying77
 have hu78 := Try.underlying78
 have HR0_0 := aM_ hr0_0
 have HC0_0 := aM_ hc0_0
 clear hr0_0 hc0_0
 have HB := aM_ (Below.refl w.heap.size w)
 have H : ((spec_l7Kids.f k l0_0).bind fun t415 => ((spec_l7Ends.f k l0_0).bind fun t418 => (if 0 ≤ (t418.length : Int) then (if ((t418.length : Int) : Int).toNat ≤ 35184372088832 then (spec_l7Machine.l0 k t415 t418 (List.replicate ((t418.length : Int) : Int).toNat 0) 0 0 l0_0) else (none)) else (none)))) = some r := h
 clear h
 replace H := oB_.mp H
 obtain ⟨t415, A20, H⟩ := H
 try dsimp only at H
 have A2 := aM_ A20
 clear A20
 replace H := oB_.mp H
 obtain ⟨t418, A30, H⟩ := H
 try dsimp only at H
 have A3 := aM_ A30
 clear A30
 by_cases c4 : 0 ≤ (t418.length : Int)
 rotate_left
 ·
  rw [if_neg c4] at H
  exact absurd H (by simp)
 rw [if_pos c4] at H
 have c4b0 := eq_true c4
 have c4b1 := decide_eq_true c4
 clear c4
 by_cases c5 : ((t418.length : Int) : Int).toNat ≤ 35184372088832
 rotate_left
 ·
  rw [if_neg c5] at H
  exact absurd H (by simp)
 rw [if_pos c5] at H
 have c5b0 := eq_true c5
 have c5b1 := decide_eq_true c5
 clear c5
 obtain ⟨y421, hy421⟩ : ∃ y_ : List Int, y_ = (List.replicate ((t418.length : Int) : Int).toNat 0) := ⟨_, rfl⟩
 replace H : (spec_l7Machine.l0 k t415 t418 y421 0 0 l0_0) = some r := by first | (rw [hy421]; with_reducible exact H) | (have H2_ := (Option.bind_some _ _).symm.trans H; rw [hy421]; with_reducible exact H2_) | (have H2_ := (Option.bind_some _ _).symm.trans H; with_reducible exact H2_) | with_reducible exact H | (rw [hy421]; exact H) | exact H
 have Ny421 := aM_ hy421
 clear hy421
 have H' := aM_ H
 clear H
 go_enter Try.func27, Try.ntmps27
 try go_wp2_with (first | ((with_reducible refine gD_ (N := 1) rfl ?_); refine bE_ ?hg (N := 1) ?hd (cs := #[.slice A0_0 l0_0.length c0_0]) (t := 30) ?hr ?_; (case hd => rfl); (case hg => rfl); (case hr => (go_simp; done)); intro gb413 hg w6 hbox hb; have BK413 := aM_ (hbox); have GW413 := aM_ ((by rw [hg]; exact (bZ_ HB.out) : w.heap.size ≤ gb413)); have GE413 := GW413; replace HB := aM_ (bT_ HB.out hb); clear hb hbox hg) | ((with_reducible refine gD_ (N := 2) rfl ?_); refine bE_ ?hg (N := 2) ?hd (cs := #[.slice none 0 0]) (t := 39) ?hr ?_; (case hd => rfl); (case hg => rfl); (case hr => (go_simp; done)); intro gb414 hg w7 hbox hb; have BK414 := aM_ (hbox); have GW414 := aM_ ((by rw [hg]; exact (bZ_ HB.out) : w.heap.size ≤ gb414)); have GE414 := GW414; replace HB := aM_ (bT_ HB.out hb); have NB413_414 := aM_ ((by rw [hg]; exact Nat.ne_of_lt (bL_ BK413.out) : gb413 ≠ gb414)); have NB414_413 := aM_ NB413_414.out.symm; replace BK413 := aM_ (bB_ BK413.out hb); clear hb hbox hg))
 have n0_ := aM_ (b1_ BK413.out)
 have n1_ := aM_ (b1_ BK414.out)
 have n2_ := aM_ (bD_ HB.out)
 clear BK413
 clear BK414
 clear HB
 have BK413 := n0_
 have BK414 := n1_
 have HB := n2_
 clear n0_ n1_ n2_
 refine start_ (n := 6) (S := fun w' => w'.cell? ⟨gb413, 0, none⟩ = some (.slice A0_0 l0_0.length c0_0)) (ds := []) #[fy, fy, fy, fy, fy, fy] (by kernel_rfl) rfl rfl ((bC_ BK413.out 0).trans rfl) (fun hHeld => ?_)
 generalize w7.drew = w8 at BK413 BK414 HB hHeld ⊢
 refine take_ (i := 0) (N := some 13) (v := ?_) (a' := ?_) #[ty, fy, fy, fy, fy, fy] rfl rfl (by kernel_rfl) (fun _ _ _ h => h) (Or.inl ⟨by rfl, ?_⟩) hHeld ?_ ?_; rotate_left; (intro w' s0; go_simp; with_reducible rfl); rotate_left; (simp only [Act.put, sA_, sB_, sC_, i6_, i3_]; rfl)
 refine take_ (i := 2) (N := some 15) (v := ?_) (a' := ?_) #[ty, fy, ty, fy, fy, fy] rfl rfl (by kernel_rfl) (fun _ _ _ h => h) (Or.inl ⟨by rfl, ?_⟩) hHeld ?_ ?_; rotate_left; (intro w' s0; go_simp; with_reducible rfl); rotate_left; (simp only [Act.put, sA_, sB_, sC_, i6_, i3_]; rfl)
 refine one_ (i := 1) (N := some 14) #[ty, ty, ty, fy, fy, fy] rfl rfl (by kernel_rfl) (by decide) (fun K hK => ?_)
 refine goes_ Try.func35 (by kernel_rfl) rfl #[.agg #[.slice A0_0 l0_0.length c0_0]] (by rfl) rfl rfl (by (try simp only [sD_, sE_, sF_]); rfl) ?_
 with_reducible refine (spec_l7Kids.calls k _ _ l0_0 t415 _ ?side1 ?side2 A2.out).mono ?_
 (case side1 => repeat (first | exact (k4_ HR0_0.out HB.out) | (with_reducible refine Kd.C_alloc ?_ _) | (with_reducible refine Kd.C_drewN ?_ _) | (with_reducible refine Kd.C_drew ?_)))
 (case side2 => exact HC0_0.out)
 rintro e w9 ⟨v416, rfl, ho0, hb⟩
 refine ⟨_, rfl, ?_⟩
 have n0_ := aM_ (Kd.S_lower ho0 (bZ_ HB.out))
 have n1_ := aM_ (bB_ BK413.out hb)
 have n2_ := aM_ (bB_ BK414.out hb)
 have n3_ := aM_ (bT_ HB.out hb)
 clear BK413
 clear BK414
 clear HB
 have HO417 := n0_
 have BK413 := n1_
 have BK414 := n2_
 have HB := n3_
 clear n0_ n1_ n2_ n3_
 (try clear hb)
 (try clear ho0)
 refine hK.out _ _ ((bC_ BK413.out 0).trans rfl) (fun hHeld => ?_)
 clear hK K
 refine norm_ (a' := ?_) ?_ ?_; rotate_left; (show Act.put _ (some 14) _ = _; simp only [Act.put, sA_, sB_, sC_, i6_, i3_]; rfl)
 refine one_ (i := 3) (N := some 16) #[ty, ty, ty, ty, fy, fy] rfl rfl (by kernel_rfl) (by decide) (fun K hK => ?_)
 refine goes_ Try.func21 (by kernel_rfl) rfl #[.agg #[.slice A0_0 l0_0.length c0_0]] (by rfl) rfl rfl (by (try simp only [sD_, sE_, sF_]); rfl) ?_
 with_reducible refine (spec_l7Ends.calls k _ _ l0_0 t418 _ ?side1 ?side2 A3.out).mono ?_
 (case side1 => repeat (first | exact (k4_ HR0_0.out HB.out) | (with_reducible refine Kd.C_alloc ?_ _) | (with_reducible refine Kd.C_drewN ?_ _) | (with_reducible refine Kd.C_drew ?_)))
 (case side2 => exact HC0_0.out)
 rintro e w10 ⟨v419, rfl, ho0, hb⟩
 refine ⟨_, rfl, ?_⟩
 have n0_ := aM_ (Kd.S_elder' (by (with_reducible repeat (first | apply Kd.S_alloc | apply Kd.S_drewN | apply Kd.S_drew)); exact HO417.out) (Kd.R_base ho0) hb)
 have n1_ := aM_ (k5_ ho0 (bZ_ HB.out))
 have n2_ := aM_ (bB_ BK413.out hb)
 have n3_ := aM_ (bB_ BK414.out hb)
 have n4_ := aM_ (bT_ HB.out hb)
 clear HO417
 clear BK413
 clear BK414
 clear HB
 have HO417 := n0_
 have HO420 := n1_
 have BK413 := n2_
 have BK414 := n3_
 have HB := n4_
 clear n0_ n1_ n2_ n3_ n4_
 (try clear hb)
 (try clear ho0)
 refine hK.out _ _ ((bC_ BK413.out 0).trans rfl) (fun hHeld => ?_)
 clear hK K
 refine norm_ (a' := ?_) ?_ ?_; rotate_left; (show Act.put _ (some 16) _ = _; simp only [Act.put, sA_, sB_, sC_, i6_, i3_]; rfl)
 refine pure_ (i := 4) (N := some 3) (v := ?_) (a' := ?_) #[ty, ty, ty, ty, ty, fy] rfl rfl (by kernel_rfl) (fun _ _ _ h => h) (Or.inl ⟨by rfl, ?_⟩) ?_ ?_; rotate_left; (intro w'; go_simp; with_reducible rfl); rotate_left; (simp only [Act.put, sA_, sB_, sC_, i6_, i3_]; rfl)
 refine pure_ (i := 5) (N := some 4) (v := ?_) (a' := ?_) #[ty, ty, ty, ty, ty, ty] rfl rfl (by kernel_rfl) (fun _ _ _ h => h) (Or.inl ⟨by rfl, ?_⟩) ?_ ?_; rotate_left; (intro w'; go_simp; with_reducible rfl); rotate_left; (simp only [Act.put, sA_, sB_, sC_, i6_, i3_]; rfl)
 refine done_ (by kernel_rfl) ?_
 obtain ⟨Ao11, co11, eo11⟩ := kS_ HO420.out
 subst eo11
 try go_wp2_with (first | ((with_reducible refine gD_ (N := 19) rfl ?_); refine Kd.R_make (Kd.int .i64) _ 3 rfl (N := 19) rfl 47 _ _ rfl (t418.length : Int) rfl rfl Try.underlying47 (.int .i64 0) 8 info3 rfl (by decide) (by omega) 0 (ok := fun _ => True) (okp := fun _ => True) rfl (fun _ hk => hk) trivial (of_decide_eq_true (by (with_reducible assumption))) (Nat.le_trans (Nat.mul_le_mul_right _ (of_decide_eq_true (by (with_reducible assumption)) : (t418.length : Int).toNat ≤ 35184372088832)) (by omega)) (Below.refl _ _) (Nat.le_refl _) ?_; intro v422 w12 ho13 hb hg_ hnew_; clear hg_ hnew_; (rw [← Ny421.out] at ho13); replace HO417 := aM_ (Kd.S_elder' (by (with_reducible repeat (first | apply Kd.S_alloc | apply Kd.S_drewN | apply Kd.S_drew)); exact HO417.out) (Kd.R_base ho13) hb); have HO423 := aM_ (k5_ (Kd.R_new' ho13 (Kd.R_lt HO420.out)) (bZ_ HB.out)); replace HO420 := aM_ (Kd.R_elder' HO420.out (Kd.R_base ho13) hb); replace BK413 := aM_ (bB_ BK413.out hb); replace BK414 := aM_ (bB_ BK414.out hb); replace HB := aM_ (bT_ HB.out hb); clear hb ho13))
 go_loopg [7] k (fun kq v7 w' => ∃ (x5_1 : List Int) (x7_1 : Int), v7 = .int .i64 x7_1 ∧ Aside0 (spec_l7Machine.l0 kq t415 t418 x5_1 0 x7_1 l0_0 = some r) ∧ Aside0 (kq ≤ k) ∧ Aside0 (Kd.S (Kd.slice 3 (Kd.int .i64)) 47 w' w.heap.size (fun k_ => some k_ ≠ ((.slice Ao11 t418.length co11) : Value).ownBlock ∧ some k_ ≠ (v422 : Value).ownBlock) v416 t415) ∧ Aside0 (Kd.R (Kd.int .i64) 3 w' w.heap.size (fun k_ => some k_ ≠ (v422 : Value).ownBlock) (.slice Ao11 t418.length co11) t418) ∧ Aside0 (Kd.R (Kd.int .i64) 3 w' w.heap.size (fun k_ => some k_ ≠ ((.slice Ao11 t418.length co11) : Value).ownBlock) v422 x5_1) ∧ Aside0 (w'.heap[gb413]? = some (.cells #[(.slice A0_0 l0_0.length c0_0)] 30 (0, 0))) ∧ Aside0 (w'.heap[gb414]? = some (.cells #[(.slice none 0 0)] 39 (0, 0))) ∧ Aside0 (Below w.heap.size w w'))
 case atStart => exact ⟨(y421), (0), (by rfl), H', ⟨Nat.le_refl _⟩, ⟨by (with_reducible repeat (first | apply Kd.S_alloc | apply Kd.S_drewN | apply Kd.S_drew)); exact Kd.S_mono HO417.out (fun _ hk => ⟨hk.1.2, hk.2⟩)⟩, ⟨by exact kM_ HO420.out (fun _ hk => hk.2)⟩, ⟨by exact kM_ HO423.out (fun _ hk => hk.2)⟩, ⟨BK413.out⟩, ⟨BK414.out⟩, ⟨HB.out⟩⟩
 case round =>
  clear H'
  try clear p2
  try clear c4b0
  try clear c4b1
  try clear c5b0
  try clear c5b1
  obtain ⟨x5_1, x7_1, rfl, HA, HK1, HO_3, HO_4, HO_5, BK413, BK414, HB⟩ := hrel
  cases gk with
  | zero => exact absurd HA.out (by simp [spec_l7Machine.l0])
  | succ k1 =>
   have H := HA.out
   clear HA
   simp only [spec_l7Machine.l0] at H
   by_cases c14 : x7_1 < (t418.length : Int)
   ·
    rw [if_pos c14] at H
    have c14b0 := decide_eq_true c14
    clear c14
    by_cases c15 : 0 ≤ x7_1
    ·
     rw [if_pos c15] at H
     have c15b0 := decide_eq_true c15
     clear c15
     by_cases c16 : x7_1 < (x5_1.length : Int)
     ·
      rw [if_pos c16] at H
      have c16b0 := decide_eq_true c16
      clear c16
      obtain ⟨y424, hy424⟩ : ∃ y_ : List Int, y_ = (x5_1.set (x7_1 : Int).toNat (-1)) := ⟨_, rfl⟩
      replace H : (spec_l7Machine.l0 k1 t415 t418 y424 0 (wrap64 (x7_1 + 1)) l0_0) = some r := by first | (rw [hy424]; with_reducible exact H) | (have H2_ := (Option.bind_some _ _).symm.trans H; rw [hy424]; with_reducible exact H2_) | (have H2_ := (Option.bind_some _ _).symm.trans H; with_reducible exact H2_) | with_reducible exact H | (rw [hy424]; exact H) | exact H
      have Ny424 := aM_ hy424
      clear hy424
      have H' := aM_ H
      clear H
      have p17 : 0 ≤ (x7_1 : Int) := of_decide_eq_true (by (with_reducible assumption))
      have q17 : (x7_1 : Int) < ((x5_1.length : Int) : Int) := of_decide_eq_true (by (with_reducible assumption))
      obtain ⟨go17, co17, eo17, gb17, gl17, cl17, HG17⟩ := Kd.R_form HO_5.out (by omega)
      (cases eo17)
      have GB17 := aM_ gb17
      have GG17 := aM_ HG17
      clear gb17 gl17 HG17
      obtain ⟨hx17_0, hf17_0⟩ := kC_ 0 HO_5.out (x7_1 : Int) p17 q17
      (try simp only [Int.toNat_natCast] at hx17_0 hf17_0)
      replace p17 := eq_true p17
      replace q17 := eq_true q17
      have HP18 := Kd.R_putg HO_5.out (x7_1 : Int) (-1)
      go_wp2_with (first | ((with_reducible refine gate_store (t := 3) (p := 28) rfl ?_); refine store_event (t := 3) (p := 28) (v := ?vo_w19) (w1 := (wr.setCell ⟨go17, (x7_1 : Int).toNat, none⟩ (.int .i64 (-1)))) ?hg ?ho ?hn ?hr ?_; (case ho => rfl); (case hg => rfl); (case hn => rfl); (case hr => (go_simp; done)); intro w19 hw; have hg : wr.grownBy w19 (some go17) := (by rw [hw]; exact HP18.2); have hp_ : Kd.R (Kd.int .i64) 3 w19 w.heap.size (fun k_ => some k_ ≠ (.slice Ao11 t418.length co11 : Value).ownBlock) (.slice (some ⟨go17, 0, none⟩) x5_1.length co17) y424 := (by rw [hw, Ny424.out]; exact HP18.1); clear HP18; replace HO_3 := aM_ (Kd.S_after (v := (.slice (some ⟨go17, 0, none⟩) x5_1.length co17)) (v1 := (.slice (some ⟨go17, 0, none⟩) x5_1.length co17)) (ok := (fun k_ => some k_ ≠ (.slice Ao11 t418.length co11 : Value).ownBlock)) (by (with_reducible repeat (first | apply Kd.S_alloc | apply Kd.S_drewN | apply Kd.S_drew)); exact HO_3.out) hg (.inl rfl)); replace HO_4 := aM_ (Kd.R_after (v := (.slice (some ⟨go17, 0, none⟩) x5_1.length co17)) (v1 := (.slice (some ⟨go17, 0, none⟩) x5_1.length co17)) (ok := (fun _ => True)) (by exact kM_ HO_4.out (fun _ hk => ⟨trivial, hk⟩)) hg (.inl rfl)); replace BK413 := aM_ (blk_grown (g := gb413) (o := .cells #[.slice A0_0 l0_0.length c0_0] 30 (0, 0)) BK413.out hg (k6_ HO_5.out BK413.out (by decide))); replace BK414 := aM_ (blk_grown (g := gb414) (o := .cells #[.slice none 0 0] 39 (0, 0)) BK414.out hg (k6_ HO_5.out BK414.out (by decide))); replace HO_5 := aM_ (hp_); replace HB := aM_ ((by rw [hw]; exact bS_ (HB.out) GB17.out : Below w.heap.size w w19)); clear hg hw hp_))
      go_roundg k1
      case measure => have := HK1.out; omega
      case rel => exact ⟨(y424), (wrap64 (x7_1 + 1)), (by rfl), H', ⟨by have := HK1.out; omega⟩, ⟨by (with_reducible repeat (first | apply Kd.S_alloc | apply Kd.S_drewN | apply Kd.S_drew)); exact HO_3.out⟩, ⟨by exact kM_ HO_4.out (fun _ hk => hk.2)⟩, ⟨HO_5.out⟩, ⟨BK413.out⟩, ⟨BK414.out⟩, ⟨HB.out⟩⟩
     ·
      rw [if_neg c16] at H
      exact absurd H (by simp)
    ·
     rw [if_neg c15] at H
     exact absurd H (by simp)
   ·
    rw [if_neg c14] at H
    have c14b0 := decide_eq_false c14
    clear c14
    have H' := aM_ H
    clear H
    go_wp2
    go_loopg [6, 8] k1 (fun kq v6 v8 w' => ∃ (x5_2 : List Int) (x6_2 : Int) (x8_2 : Int), v6 = .int .i64 x6_2 ∧ v8 = .int .i64 x8_2 ∧ Aside0 (spec_l7Machine.l1 kq t415 t418 x5_2 x6_2 x8_2 l0_0 = some r) ∧ Aside0 (kq ≤ k1) ∧ Aside0 (Kd.S (Kd.slice 3 (Kd.int .i64)) 47 w' w.heap.size (fun k_ => some k_ ≠ ((.slice Ao11 t418.length co11) : Value).ownBlock ∧ some k_ ≠ (v422 : Value).ownBlock) v416 t415) ∧ Aside0 (Kd.R (Kd.int .i64) 3 w' w.heap.size (fun k_ => some k_ ≠ (v422 : Value).ownBlock) (.slice Ao11 t418.length co11) t418) ∧ Aside0 (Kd.R (Kd.int .i64) 3 w' w.heap.size (fun k_ => some k_ ≠ ((.slice Ao11 t418.length co11) : Value).ownBlock) v422 x5_2) ∧ Aside0 (w'.heap[gb413]? = some (.cells #[(.slice A0_0 l0_0.length c0_0)] 30 (0, 0))) ∧ Aside0 (w'.heap[gb414]? = some (.cells #[(.slice none 0 0)] 39 (0, 0))) ∧ Aside0 (Below w.heap.size w w'))
    case atStart => exact ⟨(x5_1), (0), (0), (by rfl), (by rfl), H', ⟨Nat.le_refl _⟩, ⟨by (with_reducible repeat (first | apply Kd.S_alloc | apply Kd.S_drewN | apply Kd.S_drew)); exact HO_3.out⟩, ⟨HO_4.out⟩, ⟨HO_5.out⟩, ⟨BK413.out⟩, ⟨BK414.out⟩, ⟨HB.out⟩⟩
    case round =>
     clear H'
     try clear p1
     try clear q1
     try clear hx1
     try clear hf1
     try clear p2
     try clear c4b0
     try clear c4b1
     try clear c5b0
     try clear c5b1
     try clear p6
     try clear c14b0
     try clear c15b0
     try clear c16b0
     try clear p17
     try clear q17
     try clear hx17
     try clear hf17
     try clear hx17_0
     try clear p17
     try clear p2
     try clear q17
     obtain ⟨x5_2, x6_2, x8_2, rfl, rfl, HA, HK2, HO_3, HO_4, HO_5, BK413, BK414, HB⟩ := hrel
     cases gk with
     | zero => exact absurd HA.out (by simp [spec_l7Machine.l1])
     | succ k2 =>
      have H := HA.out
      clear HA
      simp only [spec_l7Machine.l1] at H
      by_cases c20 : x8_2 < (t418.length : Int)
      ·
       rw [if_pos c20] at H
       have c20b0 := decide_eq_true c20
       clear c20
       by_cases c21 : 0 ≤ x8_2
       ·
        rw [if_pos c21] at H
        have c21b0 := decide_eq_true c21
        clear c21
        by_cases c22 : 0 ≤ (rd t418 x8_2)
        ·
         rw [if_pos c22] at H
         have c22b0 := decide_eq_true c22
         clear c22
         by_cases c23 : (rd t418 x8_2) < (x5_2.length : Int)
         ·
          rw [if_pos c23] at H
          have c23b0 := decide_eq_true c23
          clear c23
          by_cases c24 : (rd x5_2 (rd t418 x8_2)) < 0
          ·
           rw [if_pos c24] at H
           have c24b0 := decide_eq_true c24
           clear c24
           obtain ⟨y428, hy428⟩ : ∃ y_ : List Int, y_ = (x5_2.set ((rd t418 x8_2) : Int).toNat x6_2) := ⟨_, rfl⟩
           replace H : (spec_l7Machine.l1 k2 t415 t418 y428 (wrap64 (x6_2 + 1)) (wrap64 (x8_2 + 1)) l0_0) = some r := by first | (rw [hy428]; with_reducible exact H) | (have H2_ := (Option.bind_some _ _).symm.trans H; rw [hy428]; with_reducible exact H2_) | (have H2_ := (Option.bind_some _ _).symm.trans H; with_reducible exact H2_) | with_reducible exact H | (rw [hy428]; exact H) | exact H
           have Ny428 := aM_ hy428
           clear hy428
           have H' := aM_ H
           clear H
           have p425 : 0 ≤ (x8_2 : Int) := of_decide_eq_true (by (with_reducible assumption))
           have q425 : x8_2 < (t418.length : Int) := of_decide_eq_true (by (with_reducible assumption))
           obtain ⟨ad425, e425, hx425_0⟩ := Kd.at_int (kR_ HO_4.out).2.2 x8_2 p425 q425
           cases e425
           replace p425 := eq_true p425
           replace q425 := eq_true q425
           obtain ⟨Ao26, co26, eo26⟩ := kS_ HO_5.out
           subst eo26
           have p426 : 0 ≤ ((rd t418 x8_2) : Int) := of_decide_eq_true (by (with_reducible assumption))
           have q426 : (rd t418 x8_2) < (x5_2.length : Int) := of_decide_eq_true (by (with_reducible assumption))
           obtain ⟨ad426, e426, hx426_0⟩ := Kd.at_int (kR_ HO_5.out).2.2 (rd t418 x8_2) p426 q426
           cases e426
           replace p426 := eq_true p426
           replace q426 := eq_true q426
           have p427 : 0 ≤ (x8_2 : Int) := of_decide_eq_true (by (with_reducible assumption))
           have q427 : x8_2 < (t418.length : Int) := of_decide_eq_true (by (with_reducible assumption))
           obtain ⟨ad427, e427, hx427_0⟩ := Kd.at_int (kR_ HO_4.out).2.2 x8_2 p427 q427
           obtain rfl : ad425 = ad427 := (by injection e427)
           replace p427 := eq_true p427
           replace q427 := eq_true q427
           have p25 : 0 ≤ ((rd t418 x8_2) : Int) := of_decide_eq_true (by (with_reducible assumption))
           have q25 : ((rd t418 x8_2) : Int) < ((x5_2.length : Int) : Int) := of_decide_eq_true (by (with_reducible assumption))
           obtain ⟨go25, co25, eo25, gb25, gl25, cl25, HG25⟩ := Kd.R_form HO_5.out (by omega)
           (cases eo25)
           have GB25 := aM_ gb25
           have GG25 := aM_ HG25
           clear gb25 gl25 HG25
           (simp only [add_plain] at hx426_0)
           (try simp only [Int.toNat_natCast] at hx426_0)
           obtain ⟨hx25_0, hf25_0⟩ := kC_ 0 HO_5.out ((rd t418 x8_2) : Int) p25 q25
           (try simp only [Int.toNat_natCast] at hx25_0 hf25_0)
           replace p25 := eq_true p25
           replace q25 := eq_true q25
           have HP27 := Kd.R_putg HO_5.out ((rd t418 x8_2) : Int) x6_2
           go_wp2_with (first | ((with_reducible refine gate_store (t := 3) (p := 49) rfl ?_); refine store_event (t := 3) (p := 49) (v := ?vo_w28) (w1 := (wr.setCell ⟨go25, ((rd t418 x8_2) : Int).toNat, none⟩ (.int .i64 x6_2))) ?hg ?ho ?hn ?hr ?_; (case ho => rfl); (case hg => rfl); (case hn => rfl); (case hr => (go_simp; done)); intro w28 hw; have hg : wr.grownBy w28 (some go25) := (by rw [hw]; exact HP27.2); have hp_ : Kd.R (Kd.int .i64) 3 w28 w.heap.size (fun k_ => some k_ ≠ (.slice (some ad425) t418.length co11 : Value).ownBlock) (.slice (some ⟨go25, 0, none⟩) x5_2.length co26) y428 := (by rw [hw, Ny428.out]; exact HP27.1); clear HP27; replace HO_3 := aM_ (Kd.S_after (v := (.slice (some ⟨go25, 0, none⟩) x5_2.length co26)) (v1 := (.slice (some ⟨go25, 0, none⟩) x5_2.length co26)) (ok := (fun k_ => some k_ ≠ (.slice (some ad425) t418.length co11 : Value).ownBlock)) (by (with_reducible repeat (first | apply Kd.S_alloc | apply Kd.S_drewN | apply Kd.S_drew)); exact HO_3.out) hg (.inl rfl)); replace HO_4 := aM_ (Kd.R_after (v := (.slice (some ⟨go25, 0, none⟩) x5_2.length co26)) (v1 := (.slice (some ⟨go25, 0, none⟩) x5_2.length co26)) (ok := (fun _ => True)) (by exact kM_ HO_4.out (fun _ hk => ⟨trivial, hk⟩)) hg (.inl rfl)); replace BK413 := aM_ (blk_grown (g := gb413) (o := .cells #[.slice A0_0 l0_0.length c0_0] 30 (0, 0)) BK413.out hg (k6_ HO_5.out BK413.out (by decide))); replace BK414 := aM_ (blk_grown (g := gb414) (o := .cells #[.slice none 0 0] 39 (0, 0)) BK414.out hg (k6_ HO_5.out BK414.out (by decide))); replace HO_5 := aM_ (hp_); replace HB := aM_ ((by rw [hw]; exact bS_ (HB.out) GB25.out : Below w.heap.size w w28)); clear hg hw hp_))
           go_roundg k2
           case measure => have := HK1.out; have := HK2.out; omega
           case rel => exact ⟨(y428), (wrap64 (x6_2 + 1)), (wrap64 (x8_2 + 1)), (by rfl), (by rfl), H', ⟨by have := HK1.out; have := HK2.out; omega⟩, ⟨by (with_reducible repeat (first | apply Kd.S_alloc | apply Kd.S_drewN | apply Kd.S_drew)); exact HO_3.out⟩, ⟨by exact kM_ HO_4.out (fun _ hk => hk.2)⟩, ⟨HO_5.out⟩, ⟨BK413.out⟩, ⟨BK414.out⟩, ⟨HB.out⟩⟩
          ·
           rw [if_neg c24] at H
           have c24b0 := decide_eq_false c24
           clear c24
           have H' := aM_ H
           clear H
           have p425 : 0 ≤ (x8_2 : Int) := of_decide_eq_true (by (with_reducible assumption))
           have q425 : x8_2 < (t418.length : Int) := of_decide_eq_true (by (with_reducible assumption))
           obtain ⟨ad425, e425, hx425_0⟩ := Kd.at_int (kR_ HO_4.out).2.2 x8_2 p425 q425
           cases e425
           replace p425 := eq_true p425
           replace q425 := eq_true q425
           obtain ⟨Ao29, co29, eo29⟩ := kS_ HO_5.out
           subst eo29
           have p426 : 0 ≤ ((rd t418 x8_2) : Int) := of_decide_eq_true (by (with_reducible assumption))
           have q426 : (rd t418 x8_2) < (x5_2.length : Int) := of_decide_eq_true (by (with_reducible assumption))
           obtain ⟨ad426, e426, hx426_0⟩ := Kd.at_int (kR_ HO_5.out).2.2 (rd t418 x8_2) p426 q426
           cases e426
           replace p426 := eq_true p426
           replace q426 := eq_true q426
           go_wp2
           go_roundg k2
           case measure => have := HK1.out; have := HK2.out; omega
           case rel => exact ⟨(x5_2), (x6_2), (wrap64 (x8_2 + 1)), (by rfl), (by rfl), H', ⟨by have := HK1.out; have := HK2.out; omega⟩, ⟨by (with_reducible repeat (first | apply Kd.S_alloc | apply Kd.S_drewN | apply Kd.S_drew)); exact HO_3.out⟩, ⟨HO_4.out⟩, ⟨HO_5.out⟩, ⟨BK413.out⟩, ⟨BK414.out⟩, ⟨HB.out⟩⟩
         ·
          rw [if_neg c23] at H
          exact absurd H (by simp)
        ·
         rw [if_neg c22] at H
         exact absurd H (by simp)
       ·
        rw [if_neg c21] at H
        exact absurd H (by simp)
      ·
       rw [if_neg c20] at H
       have c20b0 := decide_eq_false c20
       clear c20
       obtain ⟨y429, hy429⟩ : ∃ y_ : List (S77), y_ = (([] : List (S77))) := ⟨_, rfl⟩
       replace H : (spec_l7Machine.l2 k2 t415 t418 x5_2 0 l0_0 y429) = some r := by first | (rw [hy429]; with_reducible exact H) | (have H2_ := (Option.bind_some _ _).symm.trans H; rw [hy429]; with_reducible exact H2_) | (have H2_ := (Option.bind_some _ _).symm.trans H; with_reducible exact H2_) | with_reducible exact H | (rw [hy429]; exact H) | exact H
       have Ny429 := aM_ hy429
       clear hy429
       have H' := aM_ H
       clear H
       go_wp2_with (first | ((with_reducible refine gD_ (N := 52) rfl ?_); refine Kd.S_lit k77 _ 77 ?hg (N := 52) ?hd (xs := ([] : List (S77))) (inner := []) (ok := fun _ => True) (okp := fun _ => True) ?hr ?hp (fun _ hk => hk) trivial (Below.refl _ _) (Nat.le_refl _) (by simp) ?_; (case hd => rfl); (case hg => rfl); (case hr => (go_simp; done)); (case hp => exact (Reps.none _ _)); intro v430 w30 ho31 hb hg_ hnew_; clear hg_ hnew_; (rw [← Ny429.out] at ho31); replace HO_3 := aM_ (Kd.S_below (by (with_reducible repeat (first | apply Kd.S_alloc | apply Kd.S_drewN | apply Kd.S_drew)); exact HO_3.out) hb); replace HO_4 := aM_ (kB_ HO_4.out hb); replace HO_5 := aM_ (kB_ HO_5.out hb); have HO431 := aM_ (Kd.S_lower ho31 (bZ_ HB.out)); replace BK413 := aM_ (bB_ BK413.out hb); replace BK414 := aM_ (bB_ BK414.out hb); replace HB := aM_ (bT_ HB.out hb); clear hb ho31; obtain ⟨Ao32, co32, eo32⟩ := Kd.S_slice HO431.out; subst eo32) | ((with_reducible refine gD_ (N := 9) rfl ?_); refine bE_ ?hg (N := 9) ?hd (cs := #[.slice none 0 0]) (t := 39) ?hr ?_; (case hd => rfl); (case hg => rfl); (case hr => (go_simp; done)); intro gb432 hg w33 hbox hb; replace HO_3 := aM_ (Kd.S_below (by (with_reducible repeat (first | apply Kd.S_alloc | apply Kd.S_drewN | apply Kd.S_drew)); exact HO_3.out) hb); replace HO_4 := aM_ (kB_ HO_4.out hb); replace HO_5 := aM_ (kB_ HO_5.out hb); replace HO431 := aM_ (Kd.S_below (by (with_reducible repeat (first | apply Kd.S_alloc | apply Kd.S_drewN | apply Kd.S_drew)); exact HO431.out) hb); have BK432 := aM_ (hbox); have GW432 := aM_ ((by rw [hg]; exact (bZ_ HB.out) : w.heap.size ≤ gb432)); have GE432 := GW432; replace HB := aM_ (bT_ HB.out hb); have NB413_432 := aM_ ((by rw [hg]; exact Nat.ne_of_lt (bL_ BK413.out) : gb413 ≠ gb432)); have NB432_413 := aM_ NB413_432.out.symm; replace BK413 := aM_ (bB_ BK413.out hb); have NB414_432 := aM_ ((by rw [hg]; exact Nat.ne_of_lt (bL_ BK414.out) : gb414 ≠ gb432)); have NB432_414 := aM_ NB414_432.out.symm; replace BK414 := aM_ (bB_ BK414.out hb); clear hb hbox hg; have hnb34 := NB432_413.out; have hnc34 := NB413_432.out; have hnb35 := NB432_414.out; have hnc35 := NB414_432.out; have hcz36_0 : w33.cell? ⟨gb432, 0, none⟩ = some (.slice none 0 0) := (bC_ BK432.out 0).trans rfl; have hfz36_0 := bF_ BK432.out 0))
       go_loopg [10] k2 (fun kq v10 w' => ∃ (x10_3 : Int) (x433000_3 : List (S77)) (u433000 : Value), v10 = .int .i64 x10_3 ∧ Aside0 (spec_l7Machine.l2 kq t415 t418 x5_2 x10_3 l0_0 x433000_3 = some r) ∧ Aside0 (kq ≤ k2) ∧ Aside0 (Kd.S (Kd.slice 3 (Kd.int .i64)) 47 w' w.heap.size (fun k_ => some k_ ≠ ((.slice Ao11 t418.length co11) : Value).ownBlock ∧ some k_ ≠ (v422 : Value).ownBlock) v416 t415) ∧ Aside0 (Kd.R (Kd.int .i64) 3 w' w.heap.size (fun k_ => some k_ ≠ (v422 : Value).ownBlock) (.slice Ao11 t418.length co11) t418) ∧ Aside0 (Kd.R (Kd.int .i64) 3 w' w.heap.size (fun k_ => some k_ ≠ ((.slice Ao11 t418.length co11) : Value).ownBlock) v422 x5_2) ∧ Aside0 (Kd.S k77 77 w' w.heap.size (fun _ => True) u433000 x433000_3) ∧ Aside0 (w'.heap[gb413]? = some (.cells #[(.slice A0_0 l0_0.length c0_0)] 30 (0, 0))) ∧ Aside0 (w'.heap[gb414]? = some (.cells #[(.slice none 0 0)] 39 (0, 0))) ∧ Aside0 (w'.heap[gb432]? = some (.cells #[u433000] 39 (0, 0))) ∧ Aside0 (Below w.heap.size w w'))
       case atStart => exact ⟨(0), (y429), (.slice Ao32 y429.length co32), (by rfl), H', ⟨Nat.le_refl _⟩, ⟨by (with_reducible repeat (first | apply Kd.S_alloc | apply Kd.S_drewN | apply Kd.S_drew)); exact Kd.S_mono (Kd.S_far (p := ⟨gb432, 0, none⟩) (Kd.S_types HO_3.out BK432.out (by decide)) (fun _ hk => hk.2) (.slice Ao32 y429.length co32)) (fun _ hk => ⟨hk.1.1, hk.1.2⟩)⟩, ⟨by exact kM_ (kF_ (p := ⟨gb432, 0, none⟩) (kT_ HO_4.out BK432.out (by decide)) (fun _ hk => hk.2) (.slice Ao32 y429.length co32)) (fun _ hk => hk.1)⟩, ⟨by exact kM_ (kF_ (p := ⟨gb432, 0, none⟩) (kT_ HO_5.out BK432.out (by decide)) (fun _ hk => hk.2) (.slice Ao32 y429.length co32)) (fun _ hk => hk.1)⟩, ⟨by (with_reducible repeat (first | apply Kd.S_alloc | apply Kd.S_drewN | apply Kd.S_drew)); exact Kd.S_mono (Kd.S_far (p := ⟨gb432, 0, none⟩) (Kd.S_types HO431.out BK432.out (by decide)) (fun _ hk => hk.2) (.slice Ao32 y429.length co32)) (fun _ hk => trivial)⟩, ⟨by refine bR_ ?_ NB413_432.out _; exact BK413.out⟩, ⟨by refine bR_ ?_ NB414_432.out _; exact BK414.out⟩, ⟨by refine bP_ (cs := #[.slice none 0 0]) ?_ 0 _ rfl; exact BK432.out⟩, ⟨by repeat (first | (with_reducible first | exact HB.out | apply bA_ | apply bN_ | apply bD_ | refine bS_ ?_ GE413.out | refine bS_ ?_ GE414.out | refine bS_ ?_ GE432.out) | exact HB.out)⟩⟩
       case round =>
        clear H'
        try clear p1
        try clear q1
        try clear hx1
        try clear hf1
        try clear p2
        try clear q2
        try clear hx2
        try clear hf2
        try clear c4b0
        try clear c4b1
        try clear p4
        try clear q4
        try clear hx4
        try clear c5b0
        try clear c5b1
        try clear p6
        try clear c14b0
        try clear c15b0
        try clear c16b0
        try clear p17
        try clear q17
        try clear hx17
        try clear hf17
        try clear c20b0
        try clear c21b0
        try clear c22b0
        try clear c23b0
        try clear c24b0
        try clear p25
        try clear q25
        try clear hx25
        try clear hf25
        try clear hcz36_0
        try clear hfz36_0
        try clear hx17_0
        try clear hx25_0
        try clear hx425_0
        try clear hx426_0
        try clear hx427_0
        try clear p1
        try clear p17
        try clear p2
        try clear p25
        try clear p425
        try clear p426
        try clear p427
        try clear p6
        try clear q1
        try clear q17
        try clear q25
        try clear q425
        try clear q426
        try clear q427
        obtain ⟨x10_3, x433000_3, u433000, rfl, HA, HK3, HO_3, HO_4, HO_5, HO_433000, BK413, BK414, BK432, HB⟩ := hrel
        cases gk with
        | zero => exact absurd HA.out (by simp [spec_l7Machine.l2])
        | succ k3 =>
         have H := HA.out
         clear HA
         simp only [spec_l7Machine.l2] at H
         by_cases c37 : x10_3 < (t418.length : Int)
         ·
          rw [if_pos c37] at H
          have c37b0 := decide_eq_true c37
          clear c37
          by_cases c38 : 0 ≤ x10_3
          ·
           rw [if_pos c38] at H
           have c38b0 := decide_eq_true c38
           clear c38
           by_cases c39 : 0 ≤ (rd t418 x10_3)
           ·
            rw [if_pos c39] at H
            have c39b0 := decide_eq_true c39
            clear c39
            by_cases c40 : (rd t418 x10_3) < (x5_2.length : Int)
            ·
             rw [if_pos c40] at H
             have c40b0 := decide_eq_true c40
             clear c40
             by_cases c41 : (rd x5_2 (rd t418 x10_3)) = (x433000_3.length : Int)
             ·
              rw [if_pos c41] at H
              have c41b0 : ((rd x5_2 (rd t418 x10_3)) == (x433000_3.length : Int)) = true := beq_iff_eq.mpr c41
              have c41b1 : ((rd x5_2 (rd t418 x10_3)) != (x433000_3.length : Int)) = false := bne_eq_false_iff_eq.mpr c41
              clear c41
              by_cases c42 : x10_3 < (l0_0.length : Int)
              ·
               rw [if_pos c42] at H
               have c42b0 := decide_eq_true c42
               clear c42
               obtain ⟨y436, hy436⟩ : ∃ y_ : List (S78), y_ = (([] : List (S78))) := ⟨_, rfl⟩
               replace H : (spec_l7Machine.l3 k3 t415 t418 x5_2 x10_3 0 l0_0 x433000_3 ((rd_T65 l0_0 x10_3).f2) y436) = some r := by first | (rw [hy436]; with_reducible exact H) | (have H2_ := (Option.bind_some _ _).symm.trans H; rw [hy436]; with_reducible exact H2_) | (have H2_ := (Option.bind_some _ _).symm.trans H; with_reducible exact H2_) | with_reducible exact H | (rw [hy436]; exact H) | exact H
               have Ny436 := aM_ hy436
               clear hy436
               have H' := aM_ H
               clear H
               try go_wp2
               have n0_ := aM_ (Kd.S_drew HO_3.out)
               have n1_ := aM_ (k3_ HO_4.out)
               have n2_ := aM_ (k3_ HO_5.out)
               have n3_ := aM_ (Kd.S_drew HO_433000.out)
               have n4_ := aM_ (b1_ BK413.out)
               have n5_ := aM_ (b1_ BK414.out)
               have n6_ := aM_ (b1_ BK432.out)
               have n7_ := aM_ (bD_ HB.out)
               clear HO_3
               clear HO_4
               clear HO_5
               clear HO_433000
               clear BK413
               clear BK414
               clear BK432
               clear HB
               have HO_3 := n0_
               have HO_4 := n1_
               have HO_5 := n2_
               have HO_433000 := n3_
               have BK413 := n4_
               have BK414 := n5_
               have BK432 := n6_
               have HB := n7_
               clear n0_ n1_ n2_ n3_ n4_ n5_ n6_ n7_
               have p433 : 0 ≤ (x10_3 : Int) := of_decide_eq_true (by (with_reducible assumption))
               have q433 : x10_3 < (t418.length : Int) := of_decide_eq_true (by (with_reducible assumption))
               obtain ⟨ad433, e433, hx433_0⟩ := Kd.at_int (kR_ HO_4.out).2.2 x10_3 p433 q433
               cases e433
               replace p433 := eq_true p433
               replace q433 := eq_true q433
               obtain ⟨Ao44, co44, eo44⟩ := kS_ HO_5.out
               (subst eo44)
               have p434 : 0 ≤ ((rd t418 x10_3) : Int) := of_decide_eq_true (by (with_reducible assumption))
               have q434 : (rd t418 x10_3) < (x5_2.length : Int) := of_decide_eq_true (by (with_reducible assumption))
               obtain ⟨ad434, e434, hx434_0⟩ := Kd.at_int (kR_ HO_5.out).2.2 (rd t418 x10_3) p434 q434
               cases e434
               replace p434 := eq_true p434
               replace q434 := eq_true q434
               obtain ⟨Ao45, co45, eo45⟩ := Kd.S_slice HO_433000.out
               (subst eo45)
               refine start_ (n := 11) (S := fun w' => w'.cell? ⟨gb432, 0, none⟩ = some (.slice Ao45 x433000_3.length co45) ∧ w'.cell? (ad433.add (x10_3).toNat) = some (.int .i64 (rd t418 x10_3)) ∧ w'.cell? (ad434.add ((rd t418 x10_3)).toNat) = some (.int .i64 (rd x5_2 (rd t418 x10_3)))) (ds := []) #[fy, fy, fy, fy, fy, fy, fy, fy, fy, fy, fy] (by kernel_rfl) rfl rfl ⟨(bC_ BK432.out 0).trans rfl, hx433_0, hx434_0⟩ (fun hHeld => ?_); refine with_tabW spec_l7Machine.tab17 spec_l7Machine.bits17 (fun HT_ HW_ => ?_)
               generalize wr.drew = w43 at HO_3 HO_4 HO_5 HO_433000 BK413 BK414 BK432 HB hx433_0 hx434_0 hHeld ⊢
               refine pure_ (i := 0) (N := some 60) (v := ?_) (a' := ?_) #[ty, fy, fy, fy, fy, fy, fy, fy, fy, fy, fy] rfl rfl (aO_ HT_.out (by kernel_rfl)) (fun _ _ _ h => h) (Or.inl ⟨by rfl, ?_⟩) ?_ ?_; rotate_left; (intro w'; go_simp; with_reducible rfl); rotate_left; (simp only [Act.put, sA_, sB_, sC_, i6_, i3_]; rfl)
               refine pure_ (i := 1) (N := some 61) (v := ?_) (a' := ?_) #[ty, ty, fy, fy, fy, fy, fy, fy, fy, fy, fy] rfl rfl (aO_ HT_.out (by kernel_rfl)) (fun _ _ _ h => h) (Or.inl ⟨by rfl, ?_⟩) ?_ ?_; rotate_left; (intro w'; go_simp; with_reducible rfl); rotate_left; (simp only [Act.put, sA_, sB_, sC_, i6_, i3_]; rfl)
               refine pure_ (i := 2) (N := some 62) (v := ?_) (a' := ?_) #[ty, ty, ty, fy, fy, fy, fy, fy, fy, fy, fy] rfl rfl (aO_ HT_.out (by kernel_rfl)) (fun _ _ _ h => h) (Or.inl ⟨by rfl, ?_⟩) ?_ ?_; rotate_left; (intro w'; go_simp; with_reducible rfl); rotate_left; (simp only [Act.put, sA_, sB_, sC_, i6_, i3_]; rfl)
               refine pure_ (i := 3) (N := some 63) (v := ?_) (a' := ?_) #[ty, ty, ty, ty, fy, fy, fy, fy, fy, fy, fy] rfl rfl (aO_ HT_.out (by kernel_rfl)) (fun _ _ _ h => h) (Or.inl ⟨by rfl, ?_⟩) ?_ ?_; rotate_left; (intro w'; go_simp; with_reducible rfl); rotate_left; (simp only [Act.put, sA_, sB_, sC_, i6_, i3_]; rfl)
               refine pure_ (i := 7) (N := some 67) (v := ?_) (a' := ?_) #[ty, ty, ty, ty, fy, fy, fy, ty, fy, fy, fy] rfl rfl (aO_ HT_.out (by kernel_rfl)) (fun _ _ _ h => h) (Or.inl ⟨by rfl, ?_⟩) ?_ ?_; rotate_left; (intro w'; go_simp; with_reducible rfl); rotate_left; (simp only [Act.put, sA_, sB_, sC_, i6_, i3_]; rfl)
               refine take_ (i := 4) (N := some 64) (v := ?_) (a' := ?_) #[ty, ty, ty, ty, ty, fy, fy, ty, fy, fy, fy] rfl rfl (tW_ HT_.out HW_.out (by kernel_rfl)) (fun _ _ _ h => h) (Or.inl ⟨by rfl, ?_⟩) hHeld ?_ ?_; rotate_left; (rintro w' ⟨s0, s1, s2⟩; go_simp; with_reducible rfl); rotate_left; (simp only [Act.put, sA_, sB_, sC_, i6_, i3_]; rfl)
               refine pure_ (i := 5) (N := some 65) (v := ?_) (a' := ?_) #[ty, ty, ty, ty, ty, ty, fy, ty, fy, fy, fy] rfl rfl (aO_ HT_.out (by kernel_rfl)) (fun _ _ _ h => h) (Or.inl ⟨by rfl, ?_⟩) ?_ ?_; rotate_left; (intro w'; go_simp; with_reducible rfl); rotate_left; (simp only [Act.put, sA_, sB_, sC_, i6_, i3_]; rfl)
               refine take_ (i := 6) (N := some 66) (v := ?_) (a' := ?_) #[ty, ty, ty, ty, ty, ty, ty, ty, fy, fy, fy] rfl rfl (tW_ HT_.out HW_.out (by kernel_rfl)) (fun _ _ _ h => h) (Or.inl ⟨by rfl, ?_⟩) hHeld ?_ ?_; rotate_left; (rintro w' ⟨s0, s1, s2⟩; go_simp; with_reducible rfl); rotate_left; (simp only [Act.put, sA_, sB_, sC_, i6_, i3_]; rfl)
               refine take_ (i := 8) (N := some 68) (v := ?_) (a' := ?_) #[ty, ty, ty, ty, ty, ty, ty, ty, ty, fy, fy] rfl rfl (tW_ HT_.out HW_.out (by kernel_rfl)) (fun _ _ _ h => h) (Or.inl ⟨by rfl, ?_⟩) hHeld ?_ ?_; rotate_left; (rintro w' ⟨s0, s1, s2⟩; go_simp; with_reducible rfl); rotate_left; (simp only [Act.put, sA_, sB_, sC_, i6_, i3_]; rfl)
               refine pure_ (i := 9) (N := some 69) (v := ?_) (a' := ?_) #[ty, ty, ty, ty, ty, ty, ty, ty, ty, ty, fy] rfl rfl (aO_ HT_.out (by kernel_rfl)) (fun _ _ _ h => h) (Or.inl ⟨by rfl, ?_⟩) ?_ ?_; rotate_left; (intro w'; go_simp; with_reducible rfl); rotate_left; (simp only [Act.put, sA_, sB_, sC_, i6_, i3_]; rfl)
               refine pure_ (i := 10) (N := some 70) (v := ?_) (a' := ?_) #[ty, ty, ty, ty, ty, ty, ty, ty, ty, ty, ty] rfl rfl (aO_ HT_.out (by kernel_rfl)) (fun _ _ _ h => h) (Or.inl ⟨by rfl, ?_⟩) ?_ ?_; rotate_left; (intro w'; go_simp; with_reducible rfl); rotate_left; (simp only [Act.put, sA_, sB_, sC_, i6_, i3_]; rfl)
               refine done_ (done_of HT_.out (by kernel_rfl)) ?_
               have hnb46 := NB413_414.out
               have hnc46 := NB414_413.out
               have hnb47 := NB413_432.out
               have hnc47 := NB432_413.out
               have hcz48_0 : w43.cell? ⟨gb413, 0, none⟩ = some (.slice A0_0 l0_0.length c0_0) := (bC_ BK413.out 0).trans rfl
               have hfz48_0 := bF_ BK413.out 0
               have p435 : 0 ≤ (x10_3 : Int) := of_decide_eq_true (by (with_reducible assumption))
               have q435 : x10_3 < (l0_0.length : Int) := of_decide_eq_true (by (with_reducible assumption))
               obtain ⟨ad435, e435, hx435_0, hx435_1, hx435_2⟩ := at_T65 HR0_0.out x10_3 p435 q435
               cases e435
               replace hx435_0 := (HB.out.cell (wB_ w _ hx435_0)).trans hx435_0
               replace hx435_1 := (HB.out.cell (wB_ w _ hx435_1)).trans hx435_1
               replace hx435_2 := (HB.out.cell (wB_ w _ hx435_2)).trans hx435_2
               replace p435 := eq_true p435
               replace q435 := eq_true q435
               try go_wp2_with (first | ((with_reducible refine gD_ (N := 77) rfl ?_); refine Kd.R_lit k78 _ 78 ?hg (N := 77) ?hd (xs := ([] : List (S78))) (inner := []) (ok := fun _ => True) (okp := fun _ => True) ?hr ?hp (fun _ hk => hk) trivial (Below.refl _ _) (Nat.le_refl _) (by simp) ?_; (case hd => rfl); (case hg => rfl); (case hr => (go_simp; done)); (case hp => exact (Reps.none _ _)); intro v437 w49 ho50 hb hg_ hnew_; clear hg_ hnew_; (rw [← Ny436.out] at ho50); replace HO_3 := aM_ (Kd.S_below (by (with_reducible repeat (first | apply Kd.S_alloc | apply Kd.S_drewN | apply Kd.S_drew)); exact HO_3.out) hb); replace HO_4 := aM_ (kB_ HO_4.out hb); replace HO_5 := aM_ (kB_ HO_5.out hb); replace HO_433000 := aM_ (Kd.S_elder' (by (with_reducible repeat (first | apply Kd.S_alloc | apply Kd.S_drewN | apply Kd.S_drew)); exact HO_433000.out) (Kd.R_base ho50) hb); have HO438 := aM_ (k5_ ho50 (bZ_ HB.out)); replace BK413 := aM_ (bB_ BK413.out hb); replace BK414 := aM_ (bB_ BK414.out hb); replace BK432 := aM_ (bB_ BK432.out hb); replace HB := aM_ (bT_ HB.out hb); clear hb ho50; obtain ⟨Ao51, co51, eo51⟩ := kS_ HO438.out; subst eo51) | ((with_reducible refine gD_ (N := 11) rfl ?_); refine bE_ ?hg (N := 11) ?hd (cs := #[.bool false, .slice none 0 0]) (t := 77) ?hr ?_; (case hd => rfl); (case hg => rfl); (case hr => (go_simp; done)); intro gb439 hg w52 hbox hb; replace HO_3 := aM_ (Kd.S_below (by (with_reducible repeat (first | apply Kd.S_alloc | apply Kd.S_drewN | apply Kd.S_drew)); exact HO_3.out) hb); replace HO_4 := aM_ (kB_ HO_4.out hb); replace HO_5 := aM_ (kB_ HO_5.out hb); replace HO_433000 := aM_ (Kd.S_below (Kd.S_elderB (by (with_reducible repeat (first | apply Kd.S_alloc | apply Kd.S_drewN | apply Kd.S_drew)); exact HO_433000.out) gb439 (Nat.le_of_eq hg.symm)) hb); replace HO438 := aM_ (kB_ HO438.out hb); have BK439 := aM_ (hbox); have GW439 := aM_ ((by rw [hg]; exact (bZ_ HB.out) : w.heap.size ≤ gb439)); have GE439 := GW439; replace HB := aM_ (bT_ HB.out hb); have NB413_439 := aM_ ((by rw [hg]; exact Nat.ne_of_lt (bL_ BK413.out) : gb413 ≠ gb439)); have NB439_413 := aM_ NB413_439.out.symm; replace BK413 := aM_ (bB_ BK413.out hb); have NB414_439 := aM_ ((by rw [hg]; exact Nat.ne_of_lt (bL_ BK414.out) : gb414 ≠ gb439)); have NB439_414 := aM_ NB414_439.out.symm; replace BK414 := aM_ (bB_ BK414.out hb); have NB432_439 := aM_ ((by rw [hg]; exact Nat.ne_of_lt (bL_ BK432.out) : gb432 ≠ gb439)); have NB439_432 := aM_ NB432_439.out.symm; replace BK432 := aM_ (bB_ BK432.out hb); clear hb hbox hg; have hnb53 := NB439_413.out; have hnc53 := NB413_439.out; have hnb54 := NB439_414.out; have hnc54 := NB414_439.out; have hnb55 := NB439_432.out; have hnc55 := NB432_439.out; have hcz56_0 : w52.cell? ⟨gb439, 0, none⟩ = some (.bool false) := (bC_ BK439.out 0).trans rfl; have hcz56_1 : w52.cell? ⟨gb439, 1, none⟩ = some (.slice none 0 0) := (bC_ BK439.out 1).trans rfl; have hfz56_0 := bF_ BK439.out 0; have hfz56_1 := bF_ BK439.out 1))
               go_loopg [12] k3 (fun kq v12 w' => ∃ (x12_4 : Int) (x440001_4 : List (S78)) (u440001 : Value), v12 = .int .i64 x12_4 ∧ Aside0 (spec_l7Machine.l3 kq t415 t418 x5_2 x10_3 x12_4 l0_0 x433000_3 ((rd_T65 l0_0 x10_3).f2) x440001_4 = some r) ∧ Aside0 (kq ≤ k3) ∧ Aside0 (Kd.S (Kd.slice 3 (Kd.int .i64)) 47 w' w.heap.size (fun k_ => some k_ ≠ ((.slice (some ad433) t418.length co11) : Value).ownBlock ∧ some k_ ≠ ((.slice (some ad434) x5_2.length co44) : Value).ownBlock) v416 t415) ∧ Aside0 (Kd.R (Kd.int .i64) 3 w' w.heap.size (fun k_ => some k_ ≠ ((.slice (some ad434) x5_2.length co44) : Value).ownBlock) (.slice (some ad433) t418.length co11) t418) ∧ Aside0 (Kd.R (Kd.int .i64) 3 w' w.heap.size (fun k_ => some k_ ≠ ((.slice (some ad433) t418.length co11) : Value).ownBlock) (.slice (some ad434) x5_2.length co44) x5_2) ∧ Aside0 (Kd.S k77 77 w' w.heap.size (fun k_ => some k_ ≠ (u440001 : Value).ownBlock ∧ k_ ≠ gb439) (.slice Ao45 x433000_3.length co45) x433000_3) ∧ Aside0 (Kd.R k78 78 w' w.heap.size (fun _ => True) u440001 x440001_4) ∧ Aside0 (w'.heap[gb413]? = some (.cells #[(.slice (some ad435) l0_0.length c0_0)] 30 (0, 0))) ∧ Aside0 (w'.heap[gb414]? = some (.cells #[(.slice none 0 0)] 39 (0, 0))) ∧ Aside0 (w'.heap[gb432]? = some (.cells #[(.slice Ao45 x433000_3.length co45)] 39 (0, 0))) ∧ Aside0 (w'.heap[gb439]? = some (.cells #[.bool ((rd_T65 l0_0 x10_3).f2), u440001] 77 (0, 0))) ∧ Aside0 (Below w.heap.size w w'))
               case atStart => exact ⟨(0), (y436), (.slice Ao51 y436.length co51), (by rfl), H', ⟨Nat.le_refl _⟩, ⟨by (with_reducible repeat (first | apply Kd.S_alloc | apply Kd.S_drewN | apply Kd.S_drew)); exact Kd.S_mono (Kd.S_far (p := ⟨gb439, 1, none⟩) (Kd.S_far (p := ⟨gb439, 0, none⟩) (Kd.S_types HO_3.out BK439.out (by decide)) (fun _ hk => hk.2) (.bool ((rd_T65 l0_0 x10_3).f2))) (fun _ hk => hk.2) (.slice Ao51 y436.length co51)) (fun _ hk => ⟨hk.1.1, hk.1.2⟩)⟩, ⟨by exact kM_ (kF_ (p := ⟨gb439, 1, none⟩) (kF_ (p := ⟨gb439, 0, none⟩) (kT_ HO_4.out BK439.out (by decide)) (fun _ hk => hk.2) (.bool ((rd_T65 l0_0 x10_3).f2))) (fun _ hk => hk.2) (.slice Ao51 y436.length co51)) (fun _ hk => hk.1)⟩, ⟨by exact kM_ (kF_ (p := ⟨gb439, 1, none⟩) (kF_ (p := ⟨gb439, 0, none⟩) (kT_ HO_5.out BK439.out (by decide)) (fun _ hk => hk.2) (.bool ((rd_T65 l0_0 x10_3).f2))) (fun _ hk => hk.2) (.slice Ao51 y436.length co51)) (fun _ hk => hk.1)⟩, ⟨by (with_reducible repeat (first | apply Kd.S_alloc | apply Kd.S_drewN | apply Kd.S_drew)); exact Kd.S_mono (Kd.S_far (p := ⟨gb439, 1, none⟩) (Kd.S_far (p := ⟨gb439, 0, none⟩) (Kd.S_mono HO_433000.out (fun k_ hk => (⟨hk, hk.2⟩ : _ ∧ k_ ≠ gb439))) (fun _ hk => hk.2) (.bool ((rd_T65 l0_0 x10_3).f2))) (fun _ hk => hk.2) (.slice Ao51 y436.length co51)) (fun _ hk => ⟨hk.1.1.2, hk.1.2⟩)⟩, ⟨by exact kM_ (kF_ (p := ⟨gb439, 1, none⟩) (kF_ (p := ⟨gb439, 0, none⟩) (kT_ HO438.out BK439.out (by decide)) (fun _ hk => hk.2) (.bool ((rd_T65 l0_0 x10_3).f2))) (fun _ hk => hk.2) (.slice Ao51 y436.length co51)) (fun _ hk => trivial)⟩, ⟨by refine bR_ ?_ NB413_439.out _; refine bR_ ?_ NB413_439.out _; exact BK413.out⟩, ⟨by refine bR_ ?_ NB414_439.out _; refine bR_ ?_ NB414_439.out _; exact BK414.out⟩, ⟨by refine bR_ ?_ NB432_439.out _; refine bR_ ?_ NB432_439.out _; exact BK432.out⟩, ⟨by refine bP_ (cs := #[.bool ((rd_T65 l0_0 x10_3).f2), .slice none 0 0]) ?_ 1 _ rfl; refine bP_ (cs := #[.bool false, .slice none 0 0]) ?_ 0 _ rfl; exact BK439.out⟩, ⟨by repeat (first | (with_reducible first | exact HB.out | apply bA_ | apply bN_ | apply bD_ | refine bS_ ?_ GE413.out | refine bS_ ?_ GE414.out | refine bS_ ?_ GE432.out | refine bS_ ?_ GE439.out) | exact HB.out)⟩⟩
               case round =>
                clear H'
                try clear p1
                try clear q1
                try clear hx1
                try clear hf1
                try clear p2
                try clear q2
                try clear hx2
                try clear hf2
                try clear c4b0
                try clear c4b1
                try clear p4
                try clear q4
                try clear hx4
                try clear c5b0
                try clear c5b1
                try clear p6
                try clear c14b0
                try clear c15b0
                try clear c16b0
                try clear p17
                try clear q17
                try clear hx17
                try clear hf17
                try clear c20b0
                try clear c21b0
                try clear c22b0
                try clear c23b0
                try clear c24b0
                try clear p25
                try clear q25
                try clear hx25
                try clear hf25
                try clear c37b0
                try clear c38b0
                try clear c39b0
                try clear c40b0
                try clear c41b0
                try clear c41b1
                try clear c42b0
                try clear p42
                try clear q42
                try clear hx42
                try clear p43
                try clear q43
                try clear hx43
                try clear hcz36_0
                try clear hcz48_0
                try clear hcz56_0
                try clear hcz56_1
                try clear hfz36_0
                try clear hfz48_0
                try clear hfz56_0
                try clear hfz56_1
                try clear hx17_0
                try clear hx25_0
                try clear hx425_0
                try clear hx426_0
                try clear hx427_0
                try clear hx433_0
                try clear hx434_0
                try clear hx435_0
                try clear hx435_1
                try clear hx435_2
                try clear p1
                try clear p17
                try clear p2
                try clear p25
                try clear p4
                try clear p425
                try clear p426
                try clear p427
                try clear p433
                try clear p434
                try clear p435
                try clear p6
                try clear q1
                try clear q17
                try clear q2
                try clear q25
                try clear q4
                try clear q425
                try clear q426
                try clear q427
                try clear q433
                try clear q434
                try clear q435
                obtain ⟨x12_4, x440001_4, u440001, rfl, HA, HK4, HO_3, HO_4, HO_5, HO_433000, HO_440001, BK413, BK414, BK432, BK439, HB⟩ := hrel
                cases gk with
                | zero => exact absurd HA.out (by simp [spec_l7Machine.l3])
                | succ k4 =>
                 have H := HA.out
                 clear HA
                 simp only [spec_l7Machine.l3] at H
                 by_cases c57 : 0 ≤ x10_3
                 ·
                  rw [if_pos c57] at H
                  have c57b0 := decide_eq_true c57
                  clear c57
                  by_cases c58 : x10_3 < (t415.length : Int)
                  ·
                   rw [if_pos c58] at H
                   have c58b0 := decide_eq_true c58
                   clear c58
                   by_cases c59 : x12_4 < ((rd_L7 t415 x10_3).length : Int)
                   ·
                    rw [if_pos c59] at H
                    have c59b0 := decide_eq_true c59
                    clear c59
                    by_cases c60 : 0 ≤ x12_4
                    ·
                     rw [if_pos c60] at H
                     have c60b0 := decide_eq_true c60
                     clear c60
                     by_cases c61 : 0 ≤ (rd (rd_L7 t415 x10_3) x12_4)
                     ·
                      rw [if_pos c61] at H
                      have c61b0 := decide_eq_true c61
                      clear c61
                      by_cases c62 : (rd (rd_L7 t415 x10_3) x12_4) < (l0_0.length : Int)
                      ·
                       rw [if_pos c62] at H
                       have c62b0 := decide_eq_true c62
                       clear c62
                       by_cases c63 : (rd (rd_L7 t415 x10_3) x12_4) < (t418.length : Int)
                       ·
                        rw [if_pos c63] at H
                        have c63b0 := decide_eq_true c63
                        clear c63
                        by_cases c64 : 0 ≤ (rd t418 (rd (rd_L7 t415 x10_3) x12_4))
                        ·
                         rw [if_pos c64] at H
                         have c64b0 := decide_eq_true c64
                         clear c64
                         by_cases c65 : (rd t418 (rd (rd_L7 t415 x10_3) x12_4)) < (x5_2.length : Int)
                         ·
                          rw [if_pos c65] at H
                          have c65b0 := decide_eq_true c65
                          clear c65
                          by_cases c66 : x440001_4.length < 8796093022208
                          ·
                           rw [if_pos c66] at H
                           have LMc66 := aM_ c66
                           clear c66
                           obtain ⟨y448, hy448⟩ : ∃ y_ : List (S78), y_ = (x440001_4 ++ [(⟨(rd_T65 l0_0 (rd (rd_L7 t415 x10_3) x12_4)).f0, rd x5_2 (rd t418 (rd (rd_L7 t415 x10_3) x12_4))⟩ : S78)]) := ⟨_, rfl⟩
                           replace H : (spec_l7Machine.l3 k4 t415 t418 x5_2 x10_3 (wrap64 (x12_4 + 1)) l0_0 x433000_3 ((rd_T65 l0_0 x10_3).f2) y448) = some r := by first | (rw [hy448]; with_reducible exact H) | (have H2_ := (Option.bind_some _ _).symm.trans H; rw [hy448]; with_reducible exact H2_) | (have H2_ := (Option.bind_some _ _).symm.trans H; with_reducible exact H2_) | with_reducible exact H | (rw [hy448]; exact H) | exact H
                           have Ny448 := aM_ hy448
                           clear hy448
                           have H' := aM_ H
                           clear H
                           obtain ⟨Ao67, co67, eo67⟩ := Kd.S_slice HO_3.out
                           subst eo67
                           have p440 : 0 ≤ (x10_3 : Int) := of_decide_eq_true (by (with_reducible assumption))
                           have q440 : x10_3 < (t415.length : Int) := of_decide_eq_true (by (with_reducible assumption))
                           obtain ⟨ad440, A440_0, c440_0, e440, hx440_0, hl440_0, hi440_0⟩ := at_L7 (Kd.S_reads' HO_3.out).2.2 x10_3 p440 q440
                           cases e440
                           obtain ⟨ce440, hce440, hMe440, hcc440⟩ := Kd.S_get HO_3.out [] x10_3 p440 (by exact q440)
                           obtain ⟨ve440_0, rfl, ge440_0⟩ := hMe440
                           have hv440_0 := hcc440 0 _ rfl
                           rw [Nat.add_zero, show ((Kd.slice 3 (Kd.int .i64))).sz = 1 from rfl, Nat.mul_one] at hv440_0
                           replace hv440_0 := Option.some.inj (hv440_0.symm.trans hx440_0)
                           rw [hv440_0] at ge440_0
                           have HL440_0 := aM_ (show Kd.R (Kd.int .i64) 3 _ _ _ _ (rd_L7 t415 x10_3) from ge440_0)
                           clear hv440_0 ge440_0
                           clear hcc440 hce440
                           have HR440_0 := aM_ hi440_0
                           have HC440_0 := aM_ hl440_0
                           clear hi440_0 hl440_0
                           replace p440 := eq_true p440
                           replace q440 := eq_true q440
                           try go_wp2
                           have n0_ := aM_ (Kd.S_drew HO_3.out)
                           have n1_ := aM_ (k3_ HO_4.out)
                           have n2_ := aM_ (k3_ HO_5.out)
                           have n3_ := aM_ (Kd.S_drew HO_433000.out)
                           have n4_ := aM_ (k3_ HO_440001.out)
                           have n5_ := aM_ (k3_ HL440_0.out)
                           have n6_ := aM_ (b1_ BK413.out)
                           have n7_ := aM_ (b1_ BK414.out)
                           have n8_ := aM_ (b1_ BK432.out)
                           have n9_ := aM_ (b1_ BK439.out)
                           have n10_ := aM_ (Kd.C_drew HR440_0.out)
                           have n11_ := aM_ (bD_ HB.out)
                           clear HO_3
                           clear HO_4
                           clear HO_5
                           clear HO_433000
                           clear HO_440001
                           clear HL440_0
                           clear BK413
                           clear BK414
                           clear BK432
                           clear BK439
                           clear HR440_0
                           clear HB
                           have HO_3 := n0_
                           have HO_4 := n1_
                           have HO_5 := n2_
                           have HO_433000 := n3_
                           have HO_440001 := n4_
                           have HL440_0 := n5_
                           have BK413 := n6_
                           have BK414 := n7_
                           have BK432 := n8_
                           have BK439 := n9_
                           have HR440_0 := n10_
                           have HB := n11_
                           clear n0_ n1_ n2_ n3_ n4_ n5_ n6_ n7_ n8_ n9_ n10_ n11_
                           have p441 : 0 ≤ (x10_3 : Int) := of_decide_eq_true (by (with_reducible assumption))
                           have q441 : x10_3 < (t415.length : Int) := of_decide_eq_true (by (with_reducible assumption))
                           obtain ⟨ad441, A441_0, c441_0, e441, hx441_0, hl441_0, hi441_0⟩ := at_L7 (Kd.S_reads' HO_3.out).2.2 x10_3 p441 q441
                           obtain rfl : ad440 = ad441 := (by injection e441)
                           obtain ⟨ce441, hce441, hMe441, hcc441⟩ := Kd.S_get HO_3.out [] x10_3 p441 (by exact q441)
                           obtain ⟨ve441_0, rfl, ge441_0⟩ := hMe441
                           have hv441_0 := hcc441 0 _ rfl
                           rw [Nat.add_zero, show ((Kd.slice 3 (Kd.int .i64))).sz = 1 from rfl, Nat.mul_one] at hv441_0
                           replace hv441_0 := Option.some.inj (hv441_0.symm.trans hx441_0)
                           rw [hv441_0] at ge441_0
                           have HL441_0 := aM_ (show Kd.R (Kd.int .i64) 3 _ _ _ _ (rd_L7 t415 x10_3) from ge441_0)
                           clear hv441_0 ge441_0
                           clear hcc441 hce441
                           have HR441_0 := aM_ hi441_0
                           have HC441_0 := aM_ hl441_0
                           clear hi441_0 hl441_0
                           replace p441 := eq_true p441
                           replace q441 := eq_true q441
                           have p442 : 0 ≤ (x12_4 : Int) := of_decide_eq_true (by (with_reducible assumption))
                           have q442 : x12_4 < ((rd_L7 t415 x10_3).length : Int) := of_decide_eq_true (by (with_reducible assumption))
                           obtain ⟨ad442, e442, hx442_0⟩ := Kd.at_int (by repeat (first | (with_reducible exact HR441_0.out) | (with_reducible refine Kd.C_alloc ?_ _) | (with_reducible refine Kd.C_drewN ?_ _) | (with_reducible refine Kd.C_drew ?_) | exact HR441_0.out)) x12_4 p442 q442
                           cases e442
                           replace p442 := eq_true p442
                           replace q442 := eq_true q442
                           have p443 : 0 ≤ ((rd (rd_L7 t415 x10_3) x12_4) : Int) := of_decide_eq_true (by (with_reducible assumption))
                           have q443 : (rd (rd_L7 t415 x10_3) x12_4) < (l0_0.length : Int) := of_decide_eq_true (by (with_reducible assumption))
                           obtain ⟨ad443, e443, hx443_0, hx443_1, hx443_2⟩ := at_T65 HR0_0.out (rd (rd_L7 t415 x10_3) x12_4) p443 q443
                           have hw443_2 := hx443_2
                           have hw443_1 := hx443_1
                           have hw443_0 := hx443_0
                           obtain rfl : ad435 = ad443 := (by injection e443)
                           replace hx443_0 := (HB.out.cell (wB_ w _ hx443_0)).trans hx443_0
                           replace hx443_1 := (HB.out.cell (wB_ w _ hx443_1)).trans hx443_1
                           replace hx443_2 := (HB.out.cell (wB_ w _ hx443_2)).trans hx443_2
                           replace p443 := eq_true p443
                           replace q443 := eq_true q443
                           have p444 : 0 ≤ (x10_3 : Int) := of_decide_eq_true (by (with_reducible assumption))
                           have q444 : x10_3 < (t415.length : Int) := of_decide_eq_true (by (with_reducible assumption))
                           obtain ⟨ad444, A444_0, c444_0, e444, hx444_0, hl444_0, hi444_0⟩ := at_L7 (Kd.S_reads' HO_3.out).2.2 x10_3 p444 q444
                           obtain rfl : ad440 = ad444 := (by injection e444)
                           obtain ⟨ce444, hce444, hMe444, hcc444⟩ := Kd.S_get HO_3.out [] x10_3 p444 (by exact q444)
                           obtain ⟨ve444_0, rfl, ge444_0⟩ := hMe444
                           have hv444_0 := hcc444 0 _ rfl
                           rw [Nat.add_zero, show ((Kd.slice 3 (Kd.int .i64))).sz = 1 from rfl, Nat.mul_one] at hv444_0
                           replace hv444_0 := Option.some.inj (hv444_0.symm.trans hx444_0)
                           rw [hv444_0] at ge444_0
                           have HL444_0 := aM_ (show Kd.R (Kd.int .i64) 3 _ _ _ _ (rd_L7 t415 x10_3) from ge444_0)
                           clear hv444_0 ge444_0
                           clear hcc444 hce444
                           have HR444_0 := aM_ hi444_0
                           have HC444_0 := aM_ hl444_0
                           clear hi444_0 hl444_0
                           replace p444 := eq_true p444
                           replace q444 := eq_true q444
                           have ea_ := Option.some.inj (hx441_0.symm.trans hx444_0)
                           injection ea_ with ea_ en_ ec_
                           subst ea_
                           subst ec_
                           clear en_
                           have p445 : 0 ≤ (x12_4 : Int) := of_decide_eq_true (by (with_reducible assumption))
                           have q445 : x12_4 < ((rd_L7 t415 x10_3).length : Int) := of_decide_eq_true (by (with_reducible assumption))
                           obtain ⟨ad442, e445, hx445_0⟩ := Kd.at_int (by repeat (first | (with_reducible exact HR444_0.out) | (with_reducible refine Kd.C_alloc ?_ _) | (with_reducible refine Kd.C_drewN ?_ _) | (with_reducible refine Kd.C_drew ?_) | exact HR444_0.out)) x12_4 p445 q445
                           cases e445
                           replace p445 := eq_true p445
                           replace q445 := eq_true q445
                           have p446 : 0 ≤ ((rd (rd_L7 t415 x10_3) x12_4) : Int) := of_decide_eq_true (by (with_reducible assumption))
                           have q446 : (rd (rd_L7 t415 x10_3) x12_4) < (t418.length : Int) := of_decide_eq_true (by (with_reducible assumption))
                           obtain ⟨ad446, e446, hx446_0⟩ := Kd.at_int (kR_ HO_4.out).2.2 (rd (rd_L7 t415 x10_3) x12_4) p446 q446
                           obtain rfl : ad433 = ad446 := (by injection e446)
                           replace p446 := eq_true p446
                           replace q446 := eq_true q446
                           have p447 : 0 ≤ ((rd t418 (rd (rd_L7 t415 x10_3) x12_4)) : Int) := of_decide_eq_true (by (with_reducible assumption))
                           have q447 : (rd t418 (rd (rd_L7 t415 x10_3) x12_4)) < (x5_2.length : Int) := of_decide_eq_true (by (with_reducible assumption))
                           obtain ⟨ad447, e447, hx447_0⟩ := Kd.at_int (kR_ HO_5.out).2.2 (rd t418 (rd (rd_L7 t415 x10_3) x12_4)) p447 q447
                           obtain rfl : ad434 = ad447 := (by injection e447)
                           replace p447 := eq_true p447
                           replace q447 := eq_true q447
                           refine start_ (n := 32) (S := fun w' => w'.cell? ⟨gb439, 0, none⟩ = some (.bool ((rd_T65 l0_0 x10_3).f2)) ∧ w'.cell? ⟨gb439, 1, none⟩ = some (u440001) ∧ w'.cell? ⟨gb413, 0, none⟩ = some (.slice (some ad435) l0_0.length c0_0) ∧ w'.cell? (ad440.add (x10_3).toNat) = some (.slice (some ad442) (rd_L7 t415 x10_3).length c441_0) ∧ w'.cell? (ad442.add (x12_4).toNat) = some (.int .i64 (rd (rd_L7 t415 x10_3) x12_4)) ∧ w'.cell? (ad435.add (((rd (rd_L7 t415 x10_3) x12_4)).toNat * 3)) = some (.int .i64 ((rd_T65 l0_0 (rd (rd_L7 t415 x10_3) x12_4)).f0)) ∧ w'.cell? ⟨(ad435.add (((rd (rd_L7 t415 x10_3) x12_4)).toNat * 3)).block, (ad435.add (((rd (rd_L7 t415 x10_3) x12_4)).toNat * 3)).off + 1, none⟩ = some (.int .i64 ((rd_T65 l0_0 (rd (rd_L7 t415 x10_3) x12_4)).f1)) ∧ w'.cell? ⟨(ad435.add (((rd (rd_L7 t415 x10_3) x12_4)).toNat * 3)).block, (ad435.add (((rd (rd_L7 t415 x10_3) x12_4)).toNat * 3)).off + 2, none⟩ = some (.bool ((rd_T65 l0_0 (rd (rd_L7 t415 x10_3) x12_4)).f2)) ∧ w'.cell? (ad440.add (x10_3).toNat) = some (.slice (some ad442) (rd_L7 t415 x10_3).length c441_0) ∧ w'.cell? (ad442.add (x12_4).toNat) = some (.int .i64 (rd (rd_L7 t415 x10_3) x12_4)) ∧ w'.cell? (ad433.add ((rd (rd_L7 t415 x10_3) x12_4)).toNat) = some (.int .i64 (rd t418 (rd (rd_L7 t415 x10_3) x12_4))) ∧ w'.cell? (ad434.add ((rd t418 (rd (rd_L7 t415 x10_3) x12_4))).toNat) = some (.int .i64 (rd x5_2 (rd t418 (rd (rd_L7 t415 x10_3) x12_4))))) (ds := [29, 31]) #[fy, fy, fy, fy, fy, fy, fy, fy, fy, fy, fy, fy, fy, fy, fy, fy, fy, fy, fy, fy, fy, fy, fy, fy, fy, fy, fy, fy, fy, fy, fy, fy] (by kernel_rfl) rfl rfl ⟨(bC_ BK439.out 0).trans rfl, (bC_ BK439.out 1).trans rfl, (bC_ BK413.out 0).trans rfl, hx441_0, hx442_0, ((HB.out.cell (wB_ w _ hw443_0)).trans hw443_0), ((HB.out.cell (wB_ w _ hw443_1)).trans hw443_1), ((HB.out.cell (wB_ w _ hw443_2)).trans hw443_2), hx444_0, hx445_0, hx446_0, hx447_0⟩ (fun hHeld => ?_); refine with_tabW spec_l7Machine.tab22 spec_l7Machine.bits22 (fun HT_ HW_ => ?_)
                           generalize wr.drew = w68 at HO_3 HO_4 HO_5 HO_433000 HO_440001 HL440_0 BK413 BK414 BK432 BK439 HR440_0 HB HL441_0 HL444_0 HR441_0 HR444_0 hx441_0 hx442_0 hx443_0 hx443_1 hx443_2 hx444_0 hx445_0 hx446_0 hx447_0 hHeld ⊢
                           refine pure_ (i := 0) (N := some 88) (v := ?_) (a' := ?_) #[ty, fy, fy, fy, fy, fy, fy, fy, fy, fy, fy, fy, fy, fy, fy, fy, fy, fy, fy, fy, fy, fy, fy, fy, fy, fy, fy, fy, fy, fy, fy, fy] rfl rfl (aO_ HT_.out (by kernel_rfl)) (fun _ _ _ h => h) (Or.inl ⟨by rfl, ?_⟩) ?_ ?_; rotate_left; (intro w'; go_simp; with_reducible rfl); rotate_left; (simp only [Act.put, sA_, sB_, sC_, i6_, i3_]; rfl)
                           refine pure_ (i := 2) (N := some 90) (v := ?_) (a' := ?_) #[ty, fy, ty, fy, fy, fy, fy, fy, fy, fy, fy, fy, fy, fy, fy, fy, fy, fy, fy, fy, fy, fy, fy, fy, fy, fy, fy, fy, fy, fy, fy, fy] rfl rfl (aO_ HT_.out (by kernel_rfl)) (fun _ _ _ h => h) (Or.inl ⟨by rfl, ?_⟩) ?_ ?_; rotate_left; (intro w'; go_simp; with_reducible rfl); rotate_left; (simp only [Act.put, sA_, sB_, sC_, i6_, i3_]; rfl)
                           refine pure_ (i := 4) (N := some 92) (v := ?_) (a' := ?_) #[ty, fy, ty, fy, ty, fy, fy, fy, fy, fy, fy, fy, fy, fy, fy, fy, fy, fy, fy, fy, fy, fy, fy, fy, fy, fy, fy, fy, fy, fy, fy, fy] rfl rfl (aO_ HT_.out (by kernel_rfl)) (fun _ _ _ h => h) (Or.inl ⟨by rfl, ?_⟩) ?_ ?_; rotate_left; (intro w'; go_simp; with_reducible rfl); rotate_left; (simp only [Act.put, sA_, sB_, sC_, i6_, i3_]; rfl)
                           refine pure_ (i := 5) (N := some 93) (v := ?_) (a' := ?_) #[ty, fy, ty, fy, ty, ty, fy, fy, fy, fy, fy, fy, fy, fy, fy, fy, fy, fy, fy, fy, fy, fy, fy, fy, fy, fy, fy, fy, fy, fy, fy, fy] rfl rfl (aO_ HT_.out (by kernel_rfl)) (fun _ _ _ h => h) (Or.inl ⟨by rfl, ?_⟩) ?_ ?_; rotate_left; (intro w'; go_simp; with_reducible rfl); rotate_left; (simp only [Act.put, sA_, sB_, sC_, i6_, i3_]; rfl)
                           refine pure_ (i := 6) (N := some 94) (v := ?_) (a' := ?_) #[ty, fy, ty, fy, ty, ty, ty, fy, fy, fy, fy, fy, fy, fy, fy, fy, fy, fy, fy, fy, fy, fy, fy, fy, fy, fy, fy, fy, fy, fy, fy, fy] rfl rfl (aO_ HT_.out (by kernel_rfl)) (fun _ _ _ h => h) (Or.inl ⟨by rfl, ?_⟩) ?_ ?_; rotate_left; (intro w'; go_simp; with_reducible rfl); rotate_left; (simp only [Act.put, sA_, sB_, sC_, i6_, i3_]; rfl)
                           refine pure_ (i := 8) (N := some 96) (v := ?_) (a' := ?_) #[ty, fy, ty, fy, ty, ty, ty, fy, ty, fy, fy, fy, fy, fy, fy, fy, fy, fy, fy, fy, fy, fy, fy, fy, fy, fy, fy, fy, fy, fy, fy, fy] rfl rfl (aO_ HT_.out (by kernel_rfl)) (fun _ _ _ h => h) (Or.inl ⟨by rfl, ?_⟩) ?_ ?_; rotate_left; (intro w'; go_simp; with_reducible rfl); rotate_left; (simp only [Act.put, sA_, sB_, sC_, i6_, i3_]; rfl)
                           refine pure_ (i := 14) (N := some 102) (v := ?_) (a' := ?_) #[ty, fy, ty, fy, ty, ty, ty, fy, ty, fy, fy, fy, fy, fy, ty, fy, fy, fy, fy, fy, fy, fy, fy, fy, fy, fy, fy, fy, fy, fy, fy, fy] rfl rfl (aO_ HT_.out (by kernel_rfl)) (fun _ _ _ h => h) (Or.inl ⟨by rfl, ?_⟩) ?_ ?_; rotate_left; (intro w'; go_simp; with_reducible rfl); rotate_left; (simp only [Act.put, sA_, sB_, sC_, i6_, i3_]; rfl)
                           refine pure_ (i := 15) (N := some 103) (v := ?_) (a' := ?_) #[ty, fy, ty, fy, ty, ty, ty, fy, ty, fy, fy, fy, fy, fy, ty, ty, fy, fy, fy, fy, fy, fy, fy, fy, fy, fy, fy, fy, fy, fy, fy, fy] rfl rfl (aO_ HT_.out (by kernel_rfl)) (fun _ _ _ h => h) (Or.inl ⟨by rfl, ?_⟩) ?_ ?_; rotate_left; (intro w'; go_simp; with_reducible rfl); rotate_left; (simp only [Act.put, sA_, sB_, sC_, i6_, i3_]; rfl)
                           refine pure_ (i := 16) (N := some 104) (v := ?_) (a' := ?_) #[ty, fy, ty, fy, ty, ty, ty, fy, ty, fy, fy, fy, fy, fy, ty, ty, ty, fy, fy, fy, fy, fy, fy, fy, fy, fy, fy, fy, fy, fy, fy, fy] rfl rfl (aO_ HT_.out (by kernel_rfl)) (fun _ _ _ h => h) (Or.inl ⟨by rfl, ?_⟩) ?_ ?_; rotate_left; (intro w'; go_simp; with_reducible rfl); rotate_left; (simp only [Act.put, sA_, sB_, sC_, i6_, i3_]; rfl)
                           refine pure_ (i := 17) (N := some 105) (v := ?_) (a' := ?_) #[ty, fy, ty, fy, ty, ty, ty, fy, ty, fy, fy, fy, fy, fy, ty, ty, ty, ty, fy, fy, fy, fy, fy, fy, fy, fy, fy, fy, fy, fy, fy, fy] rfl rfl (aO_ HT_.out (by kernel_rfl)) (fun _ _ _ h => h) (Or.inl ⟨by rfl, ?_⟩) ?_ ?_; rotate_left; (intro w'; go_simp; with_reducible rfl); rotate_left; (simp only [Act.put, sA_, sB_, sC_, i6_, i3_]; rfl)
                           refine pure_ (i := 18) (N := some 106) (v := ?_) (a' := ?_) #[ty, fy, ty, fy, ty, ty, ty, fy, ty, fy, fy, fy, fy, fy, ty, ty, ty, ty, ty, fy, fy, fy, fy, fy, fy, fy, fy, fy, fy, fy, fy, fy] rfl rfl (aO_ HT_.out (by kernel_rfl)) (fun _ _ _ h => h) (Or.inl ⟨by rfl, ?_⟩) ?_ ?_; rotate_left; (intro w'; go_simp; with_reducible rfl); rotate_left; (simp only [Act.put, sA_, sB_, sC_, i6_, i3_]; rfl)
                           refine pure_ (i := 20) (N := some 108) (v := ?_) (a' := ?_) #[ty, fy, ty, fy, ty, ty, ty, fy, ty, fy, fy, fy, fy, fy, ty, ty, ty, ty, ty, fy, ty, fy, fy, fy, fy, fy, fy, fy, fy, fy, fy, fy] rfl rfl (aO_ HT_.out (by kernel_rfl)) (fun _ _ _ h => h) (Or.inl ⟨by rfl, ?_⟩) ?_ ?_; rotate_left; (intro w'; go_simp; with_reducible rfl); rotate_left; (simp only [Act.put, sA_, sB_, sC_, i6_, i3_]; rfl)
                           refine take_ (i := 1) (N := some 89) (v := ?_) (a' := ?_) #[ty, ty, ty, fy, ty, ty, ty, fy, ty, fy, fy, fy, fy, fy, ty, ty, ty, ty, ty, fy, ty, fy, fy, fy, fy, fy, fy, fy, fy, fy, fy, fy] rfl rfl (tW_ HT_.out HW_.out (by kernel_rfl)) (fun _ _ _ h => h) (Or.inl ⟨by rfl, ?_⟩) hHeld ?_ ?_; rotate_left; (rintro w' ⟨s0, s1, s2, s3, s4, s5, s6, s7, s8, s9, s10, s11⟩; go_simp; with_reducible rfl); rotate_left; (simp only [Act.put, sA_, sB_, sC_, i6_, i3_]; rfl)
                           refine take_ (i := 3) (N := some 91) (v := ?_) (a' := ?_) #[ty, ty, ty, ty, ty, ty, ty, fy, ty, fy, fy, fy, fy, fy, ty, ty, ty, ty, ty, fy, ty, fy, fy, fy, fy, fy, fy, fy, fy, fy, fy, fy] rfl rfl (tW_ HT_.out HW_.out (by kernel_rfl)) (fun _ _ _ h => h) (Or.inl ⟨by rfl, ?_⟩) hHeld ?_ ?_; rotate_left; (rintro w' ⟨s0, s1, s2, s3, s4, s5, s6, s7, s8, s9, s10, s11⟩; go_simp; with_reducible rfl); rotate_left; (simp only [Act.put, sA_, sB_, sC_, i6_, i3_]; rfl)
                           refine take_ (i := 7) (N := some 95) (v := ?_) (a' := ?_) #[ty, ty, ty, ty, ty, ty, ty, ty, ty, fy, fy, fy, fy, fy, ty, ty, ty, ty, ty, fy, ty, fy, fy, fy, fy, fy, fy, fy, fy, fy, fy, fy] rfl rfl (tW_ HT_.out HW_.out (by kernel_rfl)) (fun _ _ _ h => h) (Or.inl ⟨by rfl, ?_⟩) hHeld ?_ ?_; rotate_left; (rintro w' ⟨s0, s1, s2, s3, s4, s5, s6, s7, s8, s9, s10, s11⟩; go_simp; with_reducible rfl); rotate_left; (simp only [Act.put, sA_, sB_, sC_, i6_, i3_]; rfl)
                           refine pure_ (i := 9) (N := some 97) (v := ?_) (a' := ?_) #[ty, ty, ty, ty, ty, ty, ty, ty, ty, ty, fy, fy, fy, fy, ty, ty, ty, ty, ty, fy, ty, fy, fy, fy, fy, fy, fy, fy, fy, fy, fy, fy] rfl rfl (aO_ HT_.out (by kernel_rfl)) (fun _ _ _ h => h) (Or.inl ⟨by rfl, ?_⟩) ?_ ?_; rotate_left; (intro w'; go_simp; with_reducible rfl); rotate_left; (simp only [Act.put, sA_, sB_, sC_, i6_, i3_]; rfl)
                           refine take_ (i := 10) (N := some 98) (v := ?_) (a' := ?_) #[ty, ty, ty, ty, ty, ty, ty, ty, ty, ty, ty, fy, fy, fy, ty, ty, ty, ty, ty, fy, ty, fy, fy, fy, fy, fy, fy, fy, fy, fy, fy, fy] rfl rfl (tW_ HT_.out HW_.out (by kernel_rfl)) (fun _ _ _ h => h) (Or.inl ⟨by rfl, ?_⟩) hHeld ?_ ?_; rotate_left; (rintro w' ⟨s0, s1, s2, s3, s4, s5, s6, s7, s8, s9, s10, s11⟩; go_simp; with_reducible rfl); rotate_left; (simp only [Act.put, sA_, sB_, sC_, i6_, i3_]; rfl)
                           refine pure_ (i := 11) (N := some 99) (v := ?_) (a' := ?_) #[ty, ty, ty, ty, ty, ty, ty, ty, ty, ty, ty, ty, fy, fy, ty, ty, ty, ty, ty, fy, ty, fy, fy, fy, fy, fy, fy, fy, fy, fy, fy, fy] rfl rfl (aO_ HT_.out (by kernel_rfl)) (fun _ _ _ h => h) (Or.inl ⟨by rfl, ?_⟩) ?_ ?_; rotate_left; (intro w'; go_simp; with_reducible rfl); rotate_left; (simp only [Act.put, sA_, sB_, sC_, i6_, i3_]; rfl)
                           refine pure_ (i := 12) (N := some 100) (v := ?_) (a' := ?_) #[ty, ty, ty, ty, ty, ty, ty, ty, ty, ty, ty, ty, ty, fy, ty, ty, ty, ty, ty, fy, ty, fy, fy, fy, fy, fy, fy, fy, fy, fy, fy, fy] rfl rfl (aO_ HT_.out (by kernel_rfl)) (fun _ _ _ h => h) (Or.inl ⟨by rfl, ?_⟩) ?_ ?_; rotate_left; (intro w'; go_simp; with_reducible rfl); rotate_left; (simp only [Act.put, sA_, sB_, sC_, i6_, i3_]; rfl)
                           refine take_ (i := 13) (N := some 101) (v := ?_) (a' := ?_) #[ty, ty, ty, ty, ty, ty, ty, ty, ty, ty, ty, ty, ty, ty, ty, ty, ty, ty, ty, fy, ty, fy, fy, fy, fy, fy, fy, fy, fy, fy, fy, fy] rfl rfl (tW_ HT_.out HW_.out (by kernel_rfl)) (fun _ _ _ h => h) (Or.inl ⟨by rfl, ?_⟩) hHeld ?_ ?_; rotate_left; (rintro w' ⟨s0, s1, s2, s3, s4, s5, s6, s7, s8, s9, s10, s11⟩; go_simp; with_reducible rfl); rotate_left; (simp only [Act.put, sA_, sB_, sC_, i6_, i3_]; rfl)
                           refine take_ (i := 19) (N := some 107) (v := ?_) (a' := ?_) #[ty, ty, ty, ty, ty, ty, ty, ty, ty, ty, ty, ty, ty, ty, ty, ty, ty, ty, ty, ty, ty, fy, fy, fy, fy, fy, fy, fy, fy, fy, fy, fy] rfl rfl (tW_ HT_.out HW_.out (by kernel_rfl)) (fun _ _ _ h => h) (Or.inl ⟨by rfl, ?_⟩) hHeld ?_ ?_; rotate_left; (rintro w' ⟨s0, s1, s2, s3, s4, s5, s6, s7, s8, s9, s10, s11⟩; go_simp; with_reducible rfl); rotate_left; (simp only [Act.put, sA_, sB_, sC_, i6_, i3_]; rfl)
                           refine pure_ (i := 21) (N := some 109) (v := ?_) (a' := ?_) #[ty, ty, ty, ty, ty, ty, ty, ty, ty, ty, ty, ty, ty, ty, ty, ty, ty, ty, ty, ty, ty, ty, fy, fy, fy, fy, fy, fy, fy, fy, fy, fy] rfl rfl (aO_ HT_.out (by kernel_rfl)) (fun _ _ _ h => h) (Or.inl ⟨by rfl, ?_⟩) ?_ ?_; rotate_left; (intro w'; go_simp; with_reducible rfl); rotate_left; (simp only [Act.put, sA_, sB_, sC_, i6_, i3_]; rfl)
                           refine take_ (i := 22) (N := some 110) (v := ?_) (a' := ?_) #[ty, ty, ty, ty, ty, ty, ty, ty, ty, ty, ty, ty, ty, ty, ty, ty, ty, ty, ty, ty, ty, ty, ty, fy, fy, fy, fy, fy, fy, fy, fy, fy] rfl rfl (tW_ HT_.out HW_.out (by kernel_rfl)) (fun _ _ _ h => h) (Or.inl ⟨by rfl, ?_⟩) hHeld ?_ ?_; rotate_left; (rintro w' ⟨s0, s1, s2, s3, s4, s5, s6, s7, s8, s9, s10, s11⟩; go_simp; with_reducible rfl); rotate_left; (simp only [Act.put, sA_, sB_, sC_, i6_, i3_]; rfl)
                           refine pure_ (i := 23) (N := some 111) (v := ?_) (a' := ?_) #[ty, ty, ty, ty, ty, ty, ty, ty, ty, ty, ty, ty, ty, ty, ty, ty, ty, ty, ty, ty, ty, ty, ty, ty, fy, fy, fy, fy, fy, fy, fy, fy] rfl rfl (aO_ HT_.out (by kernel_rfl)) (fun _ _ _ h => h) (Or.inl ⟨by rfl, ?_⟩) ?_ ?_; rotate_left; (intro w'; go_simp; with_reducible rfl); rotate_left; (simp only [Act.put, sA_, sB_, sC_, i6_, i3_]; rfl)
                           refine take_ (i := 24) (N := some 112) (v := ?_) (a' := ?_) #[ty, ty, ty, ty, ty, ty, ty, ty, ty, ty, ty, ty, ty, ty, ty, ty, ty, ty, ty, ty, ty, ty, ty, ty, ty, fy, fy, fy, fy, fy, fy, fy] rfl rfl (tW_ HT_.out HW_.out (by kernel_rfl)) (fun _ _ _ h => h) (Or.inl ⟨by rfl, ?_⟩) hHeld ?_ ?_; rotate_left; (rintro w' ⟨s0, s1, s2, s3, s4, s5, s6, s7, s8, s9, s10, s11⟩; go_simp; with_reducible rfl); rotate_left; (simp only [Act.put, sA_, sB_, sC_, i6_, i3_]; rfl)
                           refine pure_ (i := 25) (N := some 113) (v := ?_) (a' := ?_) #[ty, ty, ty, ty, ty, ty, ty, ty, ty, ty, ty, ty, ty, ty, ty, ty, ty, ty, ty, ty, ty, ty, ty, ty, ty, ty, fy, fy, fy, fy, fy, fy] rfl rfl (aO_ HT_.out (by kernel_rfl)) (fun _ _ _ h => h) (Or.inl ⟨by rfl, ?_⟩) ?_ ?_; rotate_left; (intro w'; go_simp; with_reducible rfl); rotate_left; (simp only [Act.put, sA_, sB_, sC_, i6_, i3_]; rfl)
                           refine take_ (i := 26) (N := some 114) (v := ?_) (a' := ?_) #[ty, ty, ty, ty, ty, ty, ty, ty, ty, ty, ty, ty, ty, ty, ty, ty, ty, ty, ty, ty, ty, ty, ty, ty, ty, ty, ty, fy, fy, fy, fy, fy] rfl rfl (tW_ HT_.out HW_.out (by kernel_rfl)) (fun _ _ _ h => h) (Or.inl ⟨by rfl, ?_⟩) hHeld ?_ ?_; rotate_left; (rintro w' ⟨s0, s1, s2, s3, s4, s5, s6, s7, s8, s9, s10, s11⟩; go_simp; with_reducible rfl); rotate_left; (simp only [Act.put, sA_, sB_, sC_, i6_, i3_]; rfl)
                           refine pure_ (i := 27) (N := some 115) (v := ?_) (a' := ?_) #[ty, ty, ty, ty, ty, ty, ty, ty, ty, ty, ty, ty, ty, ty, ty, ty, ty, ty, ty, ty, ty, ty, ty, ty, ty, ty, ty, ty, fy, fy, fy, fy] rfl rfl (aO_ HT_.out (by kernel_rfl)) (fun _ _ _ h => h) (Or.inl ⟨by rfl, ?_⟩) ?_ ?_; rotate_left; (intro w'; go_simp; with_reducible rfl); rotate_left; (simp only [Act.put, sA_, sB_, sC_, i6_, i3_]; rfl)
                           refine one_ (i := 28) (N := some 116) #[ty, ty, ty, ty, ty, ty, ty, ty, ty, ty, ty, ty, ty, ty, ty, ty, ty, ty, ty, ty, ty, ty, ty, ty, ty, ty, ty, ty, ty, fy, fy, fy] rfl rfl (one_of HT_.out (by kernel_rfl)) (by decide) (fun K hK => ?_)
                           refine value_ (w1 := ?_) (v := ?_) (by rfl) rfl ?_ ?_
                           rotate_left 2
                           ·
                            go_simp
                            constructor
                            ·
                             rfl
                            ·
                             rfl
                           refine hK.out _ _ ⟨(bC_ (b3_ BK439.out _) 0).trans rfl, (bC_ (b3_ BK439.out _) 1).trans rfl, (bC_ (b3_ BK413.out _) 0).trans rfl, (World.cell?_alloc_lt _ _ _ (wB_ _ _ (hHeld.2.2.2.1))).trans (hHeld.2.2.2.1), (World.cell?_alloc_lt _ _ _ (wB_ _ _ (hHeld.2.2.2.2.1))).trans (hHeld.2.2.2.2.1), (World.cell?_alloc_lt _ _ _ (wB_ _ _ (((HB.out.cell (wB_ w _ hw443_0)).trans hw443_0)))).trans (((HB.out.cell (wB_ w _ hw443_0)).trans hw443_0)), (World.cell?_alloc_lt _ _ _ (wB_ _ _ (((HB.out.cell (wB_ w _ hw443_1)).trans hw443_1)))).trans (((HB.out.cell (wB_ w _ hw443_1)).trans hw443_1)), (World.cell?_alloc_lt _ _ _ (wB_ _ _ (((HB.out.cell (wB_ w _ hw443_2)).trans hw443_2)))).trans (((HB.out.cell (wB_ w _ hw443_2)).trans hw443_2)), (World.cell?_alloc_lt _ _ _ (wB_ _ _ (hHeld.2.2.2.2.2.2.2.2.1))).trans (hHeld.2.2.2.2.2.2.2.2.1), (World.cell?_alloc_lt _ _ _ (wB_ _ _ (hHeld.2.2.2.2.2.2.2.2.2.1))).trans (hHeld.2.2.2.2.2.2.2.2.2.1), (World.cell?_alloc_lt _ _ _ (wB_ _ _ (hHeld.2.2.2.2.2.2.2.2.2.2.1))).trans (hHeld.2.2.2.2.2.2.2.2.2.2.1), (World.cell?_alloc_lt _ _ _ (wB_ _ _ (hHeld.2.2.2.2.2.2.2.2.2.2.2))).trans (hHeld.2.2.2.2.2.2.2.2.2.2.2)⟩ (fun hHeld => ?_)
                           clear hK K
                           refine norm_ (a' := ?_) ?_ ?_; rotate_left; (show Act.put _ (some 116) _ = _; simp only [Act.put, sA_, sB_, sC_, i6_, i3_]; rfl)
                           refine last_ (i := 29) (N := some 117) #[ty, ty, ty, ty, ty, ty, ty, ty, ty, ty, ty, ty, ty, ty, ty, ty, ty, ty, ty, ty, ty, ty, ty, ty, ty, ty, ty, ty, ty, ty, fy, fy] rfl rfl (one_of HT_.out (by kernel_rfl)) (by decide) (fun K hK => ?_)
                           refine Kd.R_append_step k78 (w0 := w) w.heap.size (by rfl) (.tmp 89) (.tmp 116) 75 78 (.agg #[(.int .i64 0), (.int .i64 0)]) 16 rfl Try.underlying75 info78 rfl (by decide) (by omega) u440001 x440001_4 (⟨(rd_T65 l0_0 (rd (rd_L7 t415 x10_3) x12_4)).f0, rd x5_2 (rd t418 (rd (rd_L7 t415 x10_3) x12_4))⟩ : S78) [.int .i64 ((rd_T65 l0_0 (rd (rd_L7 t415 x10_3) x12_4)).f0), .int .i64 (rd x5_2 (rd t418 (rd (rd_L7 t415 x10_3) x12_4)))] (fun _ => True) (fun _ => False) rfl rfl ?aP (fun _ hk => hk.elim) ?aF ?aO ?aB ?aS ?aL ?_
                           (case aP => exact k78_mkM _ _ _ (⟨(rd_T65 l0_0 (rd (rd_L7 t415 x10_3) x12_4)).f0, rd x5_2 (rd t418 (rd (rd_L7 t415 x10_3) x12_4))⟩ : S78))
                           (case aB => exact HB.out)
                           (case aF => exact (fun _ _ => trivial))
                           (case aO => exact HO_440001.out)
                           (case aS => exact (bZ_ HB.out))
                           (case aL => have := LMc66.out; omega)
                           intro v449 w69 ho hb hg hat
                           rw [← Ny448.out] at ho
                           have n0_ := aM_ (Kd.S_over' (by (with_reducible repeat (first | apply Kd.S_alloc | apply Kd.S_drewN | apply Kd.S_drew)); exact HO_3.out) (Kd.R_typed HO_440001.out) (by decide) hg)
                           have n1_ := aM_ (Kd.R_over' HO_4.out (Kd.R_typed HO_440001.out) (by decide) hg)
                           have n2_ := aM_ (Kd.R_over' HO_5.out (Kd.R_typed HO_440001.out) (by decide) hg)
                           have n3_ := aM_ (Kd.S_after (ok := (fun k_ => k_ ≠ gb439)) (by (with_reducible repeat (first | apply Kd.S_alloc | apply Kd.S_drewN | apply Kd.S_drew)); exact Kd.S_mono HO_433000.out (fun _ hk => ⟨hk.2, hk.1⟩)) hg hat)
                           have n4_ := aM_ (blk_grown (g := gb413) (o := .cells #[.slice (some ad435) l0_0.length c0_0] 30 (0, 0)) BK413.out hg (k6_ HO_440001.out BK413.out (by decide)))
                           have n5_ := aM_ (blk_grown (g := gb414) (o := .cells #[.slice none 0 0] 39 (0, 0)) BK414.out hg (k6_ HO_440001.out BK414.out (by decide)))
                           have n6_ := aM_ (blk_grown (g := gb432) (o := .cells #[.slice Ao45 x433000_3.length co45] 39 (0, 0)) BK432.out hg (k6_ HO_440001.out BK432.out (by decide)))
                           have n7_ := aM_ (blk_grown (g := gb439) (o := .cells #[.bool ((rd_T65 l0_0 x10_3).f2), u440001] 77 (0, 0)) BK439.out hg (k6_ HO_440001.out BK439.out (by decide)))
                           have n8_ := aM_ (Kd.R_over' (by exact HL440_0.out) (Kd.R_typed HO_440001.out) (by decide) hg)
                           have n9_ := aM_ (Kd.R_over' (by exact HL441_0.out) (Kd.R_typed HO_440001.out) (by decide) hg)
                           have n10_ := aM_ (Kd.R_over' (by exact HL444_0.out) (Kd.R_typed HO_440001.out) (by decide) hg)
                           have n11_ := aM_ (hb)
                           have n12_ := aM_ (ho)
                           clear HO_3
                           clear HO_4
                           clear HO_5
                           clear HO_433000
                           clear BK413
                           clear BK414
                           clear BK432
                           clear BK439
                           clear HL440_0
                           clear HL441_0
                           clear HL444_0
                           clear HB
                           clear HO_440001
                           have HO_3 := n0_
                           have HO_4 := n1_
                           have HO_5 := n2_
                           have HO_433000 := n3_
                           have BK413 := n4_
                           have BK414 := n5_
                           have BK432 := n6_
                           have BK439 := n7_
                           have HL440_0 := n8_
                           have HL441_0 := n9_
                           have HL444_0 := n10_
                           have HB := n11_
                           have HO450 := n12_
                           clear n0_ n1_ n2_ n3_ n4_ n5_ n6_ n7_ n8_ n9_ n10_ n11_ n12_
                           clear ho hb hg hat
                           obtain ⟨Ao70, co70, eo70⟩ := kS_ HO450.out
                           (subst eo70)
                           refine hK.out _ _ ?_
                           clear hK K
                           refine norm_ (a' := ?_) ?_ ?_; rotate_left; (show Act.put _ (some 117) _ = _; simp only [Act.put, sA_, sB_, sC_, i6_, i3_]; rfl)
                           refine pure_ (i := 30) (N := some 118) (v := ?_) (a' := ?_) #[ty, ty, ty, ty, ty, ty, ty, ty, ty, ty, ty, ty, ty, ty, ty, ty, ty, ty, ty, ty, ty, ty, ty, ty, ty, ty, ty, ty, ty, ty, ty, fy] rfl rfl (aO_ HT_.out (by kernel_rfl)) (fun _ _ _ h => h) (Or.inl ⟨by rfl, ?_⟩) ?_ ?_; rotate_left; (intro w'; go_simp; with_reducible rfl); rotate_left; (simp only [Act.put, sA_, sB_, sC_, i6_, i3_]; rfl)
                           refine last_ (i := 31) (N := none) #[ty, ty, ty, ty, ty, ty, ty, ty, ty, ty, ty, ty, ty, ty, ty, ty, ty, ty, ty, ty, ty, ty, ty, ty, ty, ty, ty, ty, ty, ty, ty, ty] rfl rfl (one_of HT_.out (by kernel_rfl)) (by decide) (fun K hK => ?_)
                           have hs71 : w69.cell? ⟨gb439, 1, none⟩ = some (u440001) := (bC_ BK439.out 1).trans rfl
                           have hfs71 := bF_ BK439.out 1
                           have hns71_0 := NB413_439.out
                           have hns71_1 := NB414_439.out
                           have hns71_2 := NB432_439.out
                           have hms71_0 := NB439_413.out
                           have hms71_1 := NB439_414.out
                           have hms71_2 := NB439_432.out
                           refine skip_ (w1 := ?_) (by rfl) rfl ?_ ?_
                           rotate_left
                           ·
                            go_simp
                            rfl
                           refine hK.out _ _ ?_
                           clear hK K
                           refine done_ (done_of HT_.out (by kernel_rfl)) ?_
                           try go_wp2
                           go_roundg k4
                           case measure => have := HK1.out; have := HK2.out; have := HK3.out; have := HK4.out; omega
                           case rel => exact ⟨(wrap64 (x12_4 + 1)), (y448), (.slice Ao70 y448.length co70), (by rfl), H', ⟨by have := HK1.out; have := HK2.out; have := HK3.out; have := HK4.out; omega⟩, ⟨by (with_reducible repeat (first | apply Kd.S_alloc | apply Kd.S_drewN | apply Kd.S_drew)); exact Kd.S_mono (Kd.S_far (p := ⟨gb439, 1, none⟩) (Kd.S_types HO_3.out BK439.out (by decide)) (fun _ hk => hk.2) (.slice Ao70 y448.length co70)) (fun _ hk => ⟨hk.1.1, hk.1.2⟩)⟩, ⟨by exact kM_ (kF_ (p := ⟨gb439, 1, none⟩) (kT_ HO_4.out BK439.out (by decide)) (fun _ hk => hk.2) (.slice Ao70 y448.length co70)) (fun _ hk => hk.1)⟩, ⟨by exact kM_ (kF_ (p := ⟨gb439, 1, none⟩) (kT_ HO_5.out BK439.out (by decide)) (fun _ hk => hk.2) (.slice Ao70 y448.length co70)) (fun _ hk => hk.1)⟩, ⟨by (with_reducible repeat (first | apply Kd.S_alloc | apply Kd.S_drewN | apply Kd.S_drew)); exact Kd.S_mono (Kd.S_far (p := ⟨gb439, 1, none⟩) (Kd.S_mono HO_433000.out (fun k_ hk => (⟨hk, hk.1⟩ : _ ∧ k_ ≠ gb439))) (fun _ hk => hk.2) (.slice Ao70 y448.length co70)) (fun _ hk => ⟨hk.1.2, hk.1.1⟩)⟩, ⟨by exact kM_ (kF_ (p := ⟨gb439, 1, none⟩) (kT_ HO450.out BK439.out (by decide)) (fun _ hk => hk.2) (.slice Ao70 y448.length co70)) (fun _ hk => trivial)⟩, ⟨by refine bR_ ?_ NB413_439.out _; exact BK413.out⟩, ⟨by refine bR_ ?_ NB414_439.out _; exact BK414.out⟩, ⟨by refine bR_ ?_ NB432_439.out _; exact BK432.out⟩, ⟨by refine bP_ (cs := #[.bool ((rd_T65 l0_0 x10_3).f2), u440001]) ?_ 1 _ rfl; exact BK439.out⟩, ⟨by repeat (first | (with_reducible first | exact HB.out | apply bA_ | apply bN_ | apply bD_ | refine bS_ ?_ GE413.out | refine bS_ ?_ GE414.out | refine bS_ ?_ GE432.out | refine bS_ ?_ GE439.out) | exact HB.out)⟩⟩
                          ·
                           rw [if_neg c66] at H
                           exact absurd H (by simp)
                         ·
                          rw [if_neg c65] at H
                          exact absurd H (by simp)
                        ·
                         rw [if_neg c64] at H
                         exact absurd H (by simp)
                       ·
                        rw [if_neg c63] at H
                        exact absurd H (by simp)
                      ·
                       rw [if_neg c62] at H
                       exact absurd H (by simp)
                     ·
                      rw [if_neg c61] at H
                      exact absurd H (by simp)
                    ·
                     rw [if_neg c60] at H
                     exact absurd H (by simp)
                   ·
                    rw [if_neg c59] at H
                    have c59b0 := decide_eq_false c59
                    clear c59
                    by_cases c72 : x433000_3.length < 4398046511104
                    ·
                     rw [if_pos c72] at H
                     have LMc72 := aM_ c72
                     clear c72
                     obtain ⟨y451, hy451⟩ : ∃ y_ : List (S77), y_ = (x433000_3 ++ [(⟨((rd_T65 l0_0 x10_3).f2), x440001_4⟩ : S77)]) := ⟨_, rfl⟩
                     replace H : (spec_l7Machine.l2 k4 t415 t418 x5_2 (wrap64 (x10_3 + 1)) l0_0 y451) = some r := by first | (rw [hy451]; with_reducible exact H) | (have H2_ := (Option.bind_some _ _).symm.trans H; rw [hy451]; with_reducible exact H2_) | (have H2_ := (Option.bind_some _ _).symm.trans H; with_reducible exact H2_) | with_reducible exact H | (rw [hy451]; exact H) | exact H
                     have Ny451 := aM_ hy451
                     clear hy451
                     have H' := aM_ H
                     clear H
                     obtain ⟨Ao73, co73, eo73⟩ := Kd.S_slice HO_3.out
                     subst eo73
                     have p440 : 0 ≤ (x10_3 : Int) := of_decide_eq_true (by (with_reducible assumption))
                     have q440 : x10_3 < (t415.length : Int) := of_decide_eq_true (by (with_reducible assumption))
                     obtain ⟨ad440, A440_0, c440_0, e440, hx440_0, hl440_0, hi440_0⟩ := at_L7 (Kd.S_reads' HO_3.out).2.2 x10_3 p440 q440
                     cases e440
                     obtain ⟨ce440, hce440, hMe440, hcc440⟩ := Kd.S_get HO_3.out [] x10_3 p440 (by exact q440)
                     obtain ⟨ve440_0, rfl, ge440_0⟩ := hMe440
                     have hv440_0 := hcc440 0 _ rfl
                     rw [Nat.add_zero, show ((Kd.slice 3 (Kd.int .i64))).sz = 1 from rfl, Nat.mul_one] at hv440_0
                     replace hv440_0 := Option.some.inj (hv440_0.symm.trans hx440_0)
                     rw [hv440_0] at ge440_0
                     have HL440_0 := aM_ (show Kd.R (Kd.int .i64) 3 _ _ _ _ (rd_L7 t415 x10_3) from ge440_0)
                     clear hv440_0 ge440_0
                     clear hcc440 hce440
                     have HR440_0 := aM_ hi440_0
                     have HC440_0 := aM_ hl440_0
                     clear hi440_0 hl440_0
                     replace p440 := eq_true p440
                     replace q440 := eq_true q440
                     have hnb74 := NB432_413.out
                     have hnc74 := NB413_432.out
                     have hnb75 := NB432_414.out
                     have hnc75 := NB414_432.out
                     have hnb76 := NB432_439.out
                     have hnc76 := NB439_432.out
                     have hcz77_0 : wr.cell? ⟨gb432, 0, none⟩ = some (.slice Ao45 x433000_3.length co45) := (bC_ BK432.out 0).trans rfl
                     have hfz77_0 := bF_ BK432.out 0
                     have hnb78 := NB439_413.out
                     have hnc78 := NB413_439.out
                     have hnb79 := NB439_414.out
                     have hnc79 := NB414_439.out
                     have hcz80_0 : wr.cell? ⟨gb439, 0, none⟩ = some (.bool ((rd_T65 l0_0 x10_3).f2)) := (bC_ BK439.out 0).trans rfl
                     have hcz80_1 : wr.cell? ⟨gb439, 1, none⟩ = some (u440001) := (bC_ BK439.out 1).trans rfl
                     have hfz80_0 := bF_ BK439.out 0
                     have hfz80_1 := bF_ BK439.out 1
                     obtain ⟨Ao82, co82, eo82⟩ := kS_ HO_440001.out
                     subst eo82
                     go_wp2_with (first | ((with_reducible refine gate_builtin (b := .append) (xs := #[.tmp 120, .tmp 122]) rfl ?_); at_builtin; refine Kd.S_append k77 (w0 := w) w.heap.size rfl (.tmp 120) (.tmp 122) 37 77 (.agg #[(.bool false), (.slice none 0 0)]) 32 rfl Try.underlying37 info77 rfl (by decide) (by omega) (.slice Ao45 x433000_3.length co45) x433000_3 (⟨((rd_T65 l0_0 x10_3).f2), x440001_4⟩ : S77) [.bool ((rd_T65 l0_0 x10_3).f2), .slice Ao82 x440001_4.length co82] (fun k_ => k_ ≠ gb439) (fun k_ => some k_ = (.slice Ao82 x440001_4.length co82 : Value).ownBlock) rfl rfl ?aP (fun k_ hk_ => ((kM_ (ok' := fun k_ => ((fun k_ => k_ ≠ gb439)) k_ ∧ some k_ ≠ (.slice Ao45 x433000_3.length co45 : Value).ownBlock) (kT_ (Kd.R_apart' (HO_440001.out) (Kd.S_typed HO_433000.out) (by decide)) BK439.out (by decide)) (fun k_ hk => ⟨hk.2, hk.1.2⟩))).1 k_ hk_.symm) ?aF ?aO ?aB ?aS ?aL ?_; (case aP => exact k77_mkM _ _ _ (⟨((rd_T65 l0_0 x10_3).f2), x440001_4⟩ : S77) (kM_ (Kd.R_tight rfl (kM_ (ok' := fun k_ => ((fun k_ => k_ ≠ gb439)) k_ ∧ some k_ ≠ (.slice Ao45 x433000_3.length co45 : Value).ownBlock) (kT_ (Kd.R_apart' (HO_440001.out) (Kd.S_typed HO_433000.out) (by decide)) BK439.out (by decide)) (fun k_ hk => ⟨hk.2, hk.1.2⟩))) (fun _ h_ => h_))); (case aB => exact HB.out); (case aF => exact (fun k_ hk => Kd.freshB (g := gb439) (o := .cells #[.bool ((rd_T65 l0_0 x10_3).f2), .slice Ao82 x440001_4.length co82] 77 (0, 0)) BK439.out k_ hk)); (case aO => exact (by (with_reducible repeat (first | apply Kd.S_alloc | apply Kd.S_drewN | apply Kd.S_drew)); exact Kd.S_mono HO_433000.out (fun k_ hk => ⟨hk.2, fun e_ => hk.1 e_⟩))); (case aS => exact (bZ_ HB.out)); (case aL => have := LMc72.out; omega); intro v452 w81 ho hb hg hat; rw [← Ny451.out] at ho; have n0_ := aM_ (Kd.S_over' (by (with_reducible repeat (first | apply Kd.S_alloc | apply Kd.S_drewN | apply Kd.S_drew)); exact HO_3.out) (Kd.S_typed (by (with_reducible repeat (first | apply Kd.S_alloc | apply Kd.S_drewN | apply Kd.S_drew)); exact HO_433000.out)) (by decide) hg); have n1_ := aM_ (Kd.R_over' HO_4.out (Kd.S_typed (by (with_reducible repeat (first | apply Kd.S_alloc | apply Kd.S_drewN | apply Kd.S_drew)); exact HO_433000.out)) (by decide) hg); have n2_ := aM_ (Kd.R_over' HO_5.out (Kd.S_typed (by (with_reducible repeat (first | apply Kd.S_alloc | apply Kd.S_drewN | apply Kd.S_drew)); exact HO_433000.out)) (by decide) hg); have n3_ := aM_ (blk_grown (g := gb413) (o := .cells #[.slice (some ad435) l0_0.length c0_0] 30 (0, 0)) BK413.out hg (Kd.S_ne HO_433000.out BK413.out (by decide))); have n4_ := aM_ (blk_grown (g := gb414) (o := .cells #[.slice none 0 0] 39 (0, 0)) BK414.out hg (Kd.S_ne HO_433000.out BK414.out (by decide))); have n5_ := aM_ (blk_grown (g := gb432) (o := .cells #[.slice Ao45 x433000_3.length co45] 39 (0, 0)) BK432.out hg (Kd.S_ne HO_433000.out BK432.out (by decide))); have n6_ := aM_ (blk_grown (g := gb439) (o := .cells #[.bool ((rd_T65 l0_0 x10_3).f2), .slice Ao82 x440001_4.length co82] 77 (0, 0)) BK439.out hg (Kd.S_away HO_433000.out (fun _ hk => hk.2))); have n7_ := aM_ (Kd.R_over' (by exact HL440_0.out) (Kd.S_typed (by (with_reducible repeat (first | apply Kd.S_alloc | apply Kd.S_drewN | apply Kd.S_drew)); exact HO_433000.out)) (by decide) hg); have n8_ := aM_ (hb); have n9_ := aM_ (ho); clear HO_3; clear HO_4; clear HO_5; clear BK413; clear BK414; clear BK432; clear BK439; clear HL440_0; clear HB; clear HO_433000; clear HO_440001; have HO_3 := n0_; have HO_4 := n1_; have HO_5 := n2_; have BK413 := n3_; have BK414 := n4_; have BK432 := n5_; have BK439 := n6_; have HL440_0 := n7_; have HB := n8_; have HO453 := n9_; clear n0_ n1_ n2_ n3_ n4_ n5_ n6_ n7_ n8_ n9_; clear ho hb hg hat; obtain ⟨Ao83, co83, eo83⟩ := Kd.S_slice HO453.out; subst eo83; have hcz84_0 : w81.cell? ⟨gb432, 0, none⟩ = some (.slice Ao45 x433000_3.length co45) := (bC_ BK432.out 0).trans rfl; have hfz84_0 := bF_ BK432.out 0))
                     go_roundg k4
                     case measure => have := HK1.out; have := HK2.out; have := HK3.out; have := HK4.out; omega
                     case rel => exact ⟨(wrap64 (x10_3 + 1)), (y451), (.slice Ao83 y451.length co83), (by rfl), H', ⟨by have := HK1.out; have := HK2.out; have := HK3.out; have := HK4.out; omega⟩, ⟨by (with_reducible repeat (first | apply Kd.S_alloc | apply Kd.S_drewN | apply Kd.S_drew)); exact Kd.S_mono (Kd.S_far (p := ⟨gb432, 0, none⟩) (Kd.S_types HO_3.out BK432.out (by decide)) (fun _ hk => hk.2) (.slice Ao83 y451.length co83)) (fun _ hk => ⟨hk.1.1, hk.1.2⟩)⟩, ⟨by exact kM_ (kF_ (p := ⟨gb432, 0, none⟩) (kT_ HO_4.out BK432.out (by decide)) (fun _ hk => hk.2) (.slice Ao83 y451.length co83)) (fun _ hk => hk.1)⟩, ⟨by exact kM_ (kF_ (p := ⟨gb432, 0, none⟩) (kT_ HO_5.out BK432.out (by decide)) (fun _ hk => hk.2) (.slice Ao83 y451.length co83)) (fun _ hk => hk.1)⟩, ⟨by (with_reducible repeat (first | apply Kd.S_alloc | apply Kd.S_drewN | apply Kd.S_drew)); exact Kd.S_mono (Kd.S_far (p := ⟨gb432, 0, none⟩) (Kd.S_types HO453.out BK432.out (by decide)) (fun _ hk => hk.2) (.slice Ao83 y451.length co83)) (fun _ hk => trivial)⟩, ⟨by refine bR_ ?_ NB413_432.out _; exact BK413.out⟩, ⟨by refine bR_ ?_ NB414_432.out _; exact BK414.out⟩, ⟨by refine bP_ (cs := #[.slice Ao45 x433000_3.length co45]) ?_ 0 _ rfl; exact BK432.out⟩, ⟨by repeat (first | (with_reducible first | exact HB.out | apply bA_ | apply bN_ | apply bD_ | refine bS_ ?_ GE413.out | refine bS_ ?_ GE414.out | refine bS_ ?_ GE432.out | refine bS_ ?_ GE439.out) | exact HB.out)⟩⟩
                    ·
                     rw [if_neg c72] at H
                     exact absurd H (by simp)
                  ·
                   rw [if_neg c58] at H
                   exact absurd H (by simp)
                 ·
                  rw [if_neg c57] at H
                  exact absurd H (by simp)
              ·
               rw [if_neg c42] at H
               exact absurd H (by simp)
             ·
              rw [if_neg c41] at H
              have c41b0 : ((rd x5_2 (rd t418 x10_3)) == (x433000_3.length : Int)) = false := beq_eq_false_iff_ne.mpr c41
              have c41b1 : ((rd x5_2 (rd t418 x10_3)) != (x433000_3.length : Int)) = true := bne_iff_ne.mpr c41
              have H' := aM_ H
              clear H
              try go_wp2
              have n0_ := aM_ (Kd.S_drew HO_3.out)
              have n1_ := aM_ (k3_ HO_4.out)
              have n2_ := aM_ (k3_ HO_5.out)
              have n3_ := aM_ (Kd.S_drew HO_433000.out)
              have n4_ := aM_ (b1_ BK413.out)
              have n5_ := aM_ (b1_ BK414.out)
              have n6_ := aM_ (b1_ BK432.out)
              have n7_ := aM_ (bD_ HB.out)
              clear HO_3
              clear HO_4
              clear HO_5
              clear HO_433000
              clear BK413
              clear BK414
              clear BK432
              clear HB
              have HO_3 := n0_
              have HO_4 := n1_
              have HO_5 := n2_
              have HO_433000 := n3_
              have BK413 := n4_
              have BK414 := n5_
              have BK432 := n6_
              have HB := n7_
              clear n0_ n1_ n2_ n3_ n4_ n5_ n6_ n7_
              have p433 : 0 ≤ (x10_3 : Int) := of_decide_eq_true (by (with_reducible assumption))
              have q433 : x10_3 < (t418.length : Int) := of_decide_eq_true (by (with_reducible assumption))
              obtain ⟨ad433, e433, hx433_0⟩ := Kd.at_int (kR_ HO_4.out).2.2 x10_3 p433 q433
              cases e433
              replace p433 := eq_true p433
              replace q433 := eq_true q433
              obtain ⟨Ao86, co86, eo86⟩ := kS_ HO_5.out
              (subst eo86)
              have p434 : 0 ≤ ((rd t418 x10_3) : Int) := of_decide_eq_true (by (with_reducible assumption))
              have q434 : (rd t418 x10_3) < (x5_2.length : Int) := of_decide_eq_true (by (with_reducible assumption))
              obtain ⟨ad434, e434, hx434_0⟩ := Kd.at_int (kR_ HO_5.out).2.2 (rd t418 x10_3) p434 q434
              cases e434
              replace p434 := eq_true p434
              replace q434 := eq_true q434
              obtain ⟨Ao87, co87, eo87⟩ := Kd.S_slice HO_433000.out
              (subst eo87)
              refine start_ (n := 11) (S := fun w' => w'.cell? ⟨gb432, 0, none⟩ = some (.slice Ao87 x433000_3.length co87) ∧ w'.cell? (ad433.add (x10_3).toNat) = some (.int .i64 (rd t418 x10_3)) ∧ w'.cell? (ad434.add ((rd t418 x10_3)).toNat) = some (.int .i64 (rd x5_2 (rd t418 x10_3)))) (ds := []) #[fy, fy, fy, fy, fy, fy, fy, fy, fy, fy, fy] (by kernel_rfl) rfl rfl ⟨(bC_ BK432.out 0).trans rfl, hx433_0, hx434_0⟩ (fun hHeld => ?_); refine with_tabW spec_l7Machine.tab17 spec_l7Machine.bits17 (fun HT_ HW_ => ?_)
              generalize wr.drew = w85 at HO_3 HO_4 HO_5 HO_433000 BK413 BK414 BK432 HB hx433_0 hx434_0 hHeld ⊢
              refine pure_ (i := 0) (N := some 60) (v := ?_) (a' := ?_) #[ty, fy, fy, fy, fy, fy, fy, fy, fy, fy, fy] rfl rfl (aO_ HT_.out (by kernel_rfl)) (fun _ _ _ h => h) (Or.inl ⟨by rfl, ?_⟩) ?_ ?_; rotate_left; (intro w'; go_simp; with_reducible rfl); rotate_left; (simp only [Act.put, sA_, sB_, sC_, i6_, i3_]; rfl)
              refine pure_ (i := 1) (N := some 61) (v := ?_) (a' := ?_) #[ty, ty, fy, fy, fy, fy, fy, fy, fy, fy, fy] rfl rfl (aO_ HT_.out (by kernel_rfl)) (fun _ _ _ h => h) (Or.inl ⟨by rfl, ?_⟩) ?_ ?_; rotate_left; (intro w'; go_simp; with_reducible rfl); rotate_left; (simp only [Act.put, sA_, sB_, sC_, i6_, i3_]; rfl)
              refine pure_ (i := 2) (N := some 62) (v := ?_) (a' := ?_) #[ty, ty, ty, fy, fy, fy, fy, fy, fy, fy, fy] rfl rfl (aO_ HT_.out (by kernel_rfl)) (fun _ _ _ h => h) (Or.inl ⟨by rfl, ?_⟩) ?_ ?_; rotate_left; (intro w'; go_simp; with_reducible rfl); rotate_left; (simp only [Act.put, sA_, sB_, sC_, i6_, i3_]; rfl)
              refine pure_ (i := 3) (N := some 63) (v := ?_) (a' := ?_) #[ty, ty, ty, ty, fy, fy, fy, fy, fy, fy, fy] rfl rfl (aO_ HT_.out (by kernel_rfl)) (fun _ _ _ h => h) (Or.inl ⟨by rfl, ?_⟩) ?_ ?_; rotate_left; (intro w'; go_simp; with_reducible rfl); rotate_left; (simp only [Act.put, sA_, sB_, sC_, i6_, i3_]; rfl)
              refine pure_ (i := 7) (N := some 67) (v := ?_) (a' := ?_) #[ty, ty, ty, ty, fy, fy, fy, ty, fy, fy, fy] rfl rfl (aO_ HT_.out (by kernel_rfl)) (fun _ _ _ h => h) (Or.inl ⟨by rfl, ?_⟩) ?_ ?_; rotate_left; (intro w'; go_simp; with_reducible rfl); rotate_left; (simp only [Act.put, sA_, sB_, sC_, i6_, i3_]; rfl)
              refine take_ (i := 4) (N := some 64) (v := ?_) (a' := ?_) #[ty, ty, ty, ty, ty, fy, fy, ty, fy, fy, fy] rfl rfl (tW_ HT_.out HW_.out (by kernel_rfl)) (fun _ _ _ h => h) (Or.inl ⟨by rfl, ?_⟩) hHeld ?_ ?_; rotate_left; (rintro w' ⟨s0, s1, s2⟩; go_simp; with_reducible rfl); rotate_left; (simp only [Act.put, sA_, sB_, sC_, i6_, i3_]; rfl)
              refine pure_ (i := 5) (N := some 65) (v := ?_) (a' := ?_) #[ty, ty, ty, ty, ty, ty, fy, ty, fy, fy, fy] rfl rfl (aO_ HT_.out (by kernel_rfl)) (fun _ _ _ h => h) (Or.inl ⟨by rfl, ?_⟩) ?_ ?_; rotate_left; (intro w'; go_simp; with_reducible rfl); rotate_left; (simp only [Act.put, sA_, sB_, sC_, i6_, i3_]; rfl)
              refine take_ (i := 6) (N := some 66) (v := ?_) (a' := ?_) #[ty, ty, ty, ty, ty, ty, ty, ty, fy, fy, fy] rfl rfl (tW_ HT_.out HW_.out (by kernel_rfl)) (fun _ _ _ h => h) (Or.inl ⟨by rfl, ?_⟩) hHeld ?_ ?_; rotate_left; (rintro w' ⟨s0, s1, s2⟩; go_simp; with_reducible rfl); rotate_left; (simp only [Act.put, sA_, sB_, sC_, i6_, i3_]; rfl)
              refine take_ (i := 8) (N := some 68) (v := ?_) (a' := ?_) #[ty, ty, ty, ty, ty, ty, ty, ty, ty, fy, fy] rfl rfl (tW_ HT_.out HW_.out (by kernel_rfl)) (fun _ _ _ h => h) (Or.inl ⟨by rfl, ?_⟩) hHeld ?_ ?_; rotate_left; (rintro w' ⟨s0, s1, s2⟩; go_simp; with_reducible rfl); rotate_left; (simp only [Act.put, sA_, sB_, sC_, i6_, i3_]; rfl)
              refine pure_ (i := 9) (N := some 69) (v := ?_) (a' := ?_) #[ty, ty, ty, ty, ty, ty, ty, ty, ty, ty, fy] rfl rfl (aO_ HT_.out (by kernel_rfl)) (fun _ _ _ h => h) (Or.inl ⟨by rfl, ?_⟩) ?_ ?_; rotate_left; (intro w'; go_simp; with_reducible rfl); rotate_left; (simp only [Act.put, sA_, sB_, sC_, i6_, i3_]; rfl)
              refine pure_ (i := 10) (N := some 70) (v := ?_) (a' := ?_) #[ty, ty, ty, ty, ty, ty, ty, ty, ty, ty, ty] rfl rfl (aO_ HT_.out (by kernel_rfl)) (fun _ _ _ h => h) (Or.inl ⟨by rfl, ?_⟩) ?_ ?_; rotate_left; (intro w'; go_simp; with_reducible rfl); rotate_left; (simp only [Act.put, sA_, sB_, sC_, i6_, i3_]; rfl)
              refine done_ (done_of HT_.out (by kernel_rfl)) ?_
              try go_wp2
              go_roundg k3
              case measure => have := HK1.out; have := HK2.out; have := HK3.out; omega
              case rel => exact ⟨(wrap64 (x10_3 + 1)), (x433000_3), (.slice Ao87 x433000_3.length co87), (by rfl), H', ⟨by have := HK1.out; have := HK2.out; have := HK3.out; omega⟩, ⟨by (with_reducible repeat (first | apply Kd.S_alloc | apply Kd.S_drewN | apply Kd.S_drew)); exact HO_3.out⟩, ⟨HO_4.out⟩, ⟨HO_5.out⟩, ⟨by (with_reducible repeat (first | apply Kd.S_alloc | apply Kd.S_drewN | apply Kd.S_drew)); exact HO_433000.out⟩, ⟨BK413.out⟩, ⟨BK414.out⟩, ⟨BK432.out⟩, ⟨HB.out⟩⟩
            ·
             rw [if_neg c40] at H
             exact absurd H (by simp)
           ·
            rw [if_neg c39] at H
            exact absurd H (by simp)
          ·
           rw [if_neg c38] at H
           exact absurd H (by simp)
         ·
          rw [if_neg c37] at H
          have c37b0 := decide_eq_false c37
          clear c37
          obtain rfl := Option.some.inj H
          have hnb88 := NB432_413.out
          have hnc88 := NB413_432.out
          have hnb89 := NB432_414.out
          have hnc89 := NB414_432.out
          have hcz90_0 : wr.cell? ⟨gb432, 0, none⟩ = some (u433000) := (bC_ BK432.out 0).trans rfl
          have hfz90_0 := bF_ BK432.out 0
          obtain ⟨Ao91, co91, eo91⟩ := Kd.S_slice HO_433000.out
          subst eo91
          have hnb92 := NB414_413.out
          have hnc92 := NB413_414.out
          have hcz93_0 : wr.cell? ⟨gb414, 0, none⟩ = some (.slice none 0 0) := (bC_ BK414.out 0).trans rfl
          have hfz93_0 := bF_ BK414.out 0
          go_wp2
          refine bodyPost_ret (results_cell_row rfl _ _ gb414 39 #[.slice Ao91 x433000_3.length co91] (0, 0) _ rfl (by refine bP_ (cs := #[.slice none 0 0]) ?_ 0 _ rfl; exact BK414.out) Try.underlying39 rfl (by kernel_rfl)) rfl ?_
          exact ⟨_, by rfl, by (with_reducible repeat (first | apply Kd.S_alloc | apply Kd.S_drewN | apply Kd.S_drew)); exact Kd.S_mono (Kd.S_far (p := ⟨gb414, 0, none⟩) (Kd.S_types HO_433000.out BK414.out (by decide)) (fun _ hk => hk.2) (.slice Ao91 x433000_3.length co91)) (fun _ hk => trivial), by repeat (first | (with_reducible first | exact HB.out | apply bA_ | apply bN_ | apply bD_ | refine bS_ ?_ GE413.out | refine bS_ ?_ GE414.out | refine bS_ ?_ GE432.out) | exact HB.out)⟩
end Go.Proofs.Ytnnkedeohfbkeaa.P
namespace Go.Proofs.Ytnnkedeohfbkeaa.P
open Go.RowKit Go.Proofs.YtnnkedeohfbkeaaW.PrintWords Go.Proofs.YtnnkedeohfbkeaaW.PrintLast Go.Proofs.YtnnkedeohfbkeaaW.PrintMore
attribute [local go_sem] max2_int min2_int max_two min_two max_three min_three max_four min_four
def idxByS {α : Type} (p : α → Bool) : List α → Nat → Int
 | [], _ => -1
 | x :: r, k => if p x = true then (k : Int) else idxByS p r (k + 1)
theorem idxByS_hit {α : Type} (p : α → Bool) (z : α) : ∀ (xs : List α) (k j : Nat), j < xs.length → p (xs.getD j z) = true → (∀ i, i < j → p (xs.getD i z) = false) → idxByS p xs k = ((k + j : Nat) : Int)
 | [], _, _, h, _, _ => absurd h (by simp)
 | x :: r, k, 0, _, hp, _ => by
  have : p x = true := hp
  simp [idxByS, this]
 | x :: r, k, j + 1, h, hp, hn => by
  have h0 : p x = false := hn 0 (by omega)
  have := idxByS_hit p z r (k + 1) j (by simpa using h) (by simpa using hp) (fun i hi => by simpa using hn (i + 1) (by omega))
  simp only [idxByS, h0, Bool.false_eq_true, if_false, this]
  congr 1; omega
theorem idxByS_miss {α : Type} (p : α → Bool) (z : α) : ∀ (xs : List α) (k : Nat), (∀ i, i < xs.length → p (xs.getD i z) = false) → idxByS p xs k = -1
 | [], _, _ => rfl
 | x :: r, k, hn => by
  have h0 : p x = false := hn 0 (by simp)
  simp only [idxByS, h0, Bool.false_eq_true, if_false]
  exact idxByS_miss p z r (k + 1) (fun i hi => by simpa using hn (i + 1) (by simpa using hi))
theorem idxByS_any {α : Type} (p : α → Bool) : ∀ (xs : List α) (k : Nat), decide (idxByS p xs k ≥ 0) = xs.any p
 | [], _ => rfl
 | x :: r, k => by
  cases h : p x
  ·
   simp [idxByS, h, idxByS_any p r (k + 1)]
  ·
   simp [idxByS, h]
def PredBS (P : Program) (g : Nat) (lb : Array Value) {α : Type} (enc : α → Value) (p : α → Bool) (l : List α) (w : World) : Prop :=
 ∀ (W : World) (x : α), x ∈ l → Below w.heap.size w W → Calls P g (#[enc x] ++ lb) W fun e W' => e = .returned (.bool (p x)) ∧ Below W.heap.size W W'
set_option maxHeartbeats 2000000 in
theorem IndexFuncStr.calls_n (p : ByteArray → Bool) (g : Nat) (lb : Array Value) (eg : ∀ args w, (callFunc g args).run Try.prog w = .ok (.enter g args) w) (A0 : Option Addr) (n c0 : Nat) (l0 : List ByteArray) (w : World) (hn : Aside0 (l0.length = n))
  (hr0 : Kd.C Kd.string w A0 l0.length l0) (hbig : n ≤ 9223372036854775807) (hp : PredBS Try.prog g lb Value.string p l0 w) :
  Calls Try.prog 63 #[.slice A0 n c0, .func (.func g) #[] lb] w fun e w' => e = .returned (.int .i64 (idxByS p l0 0)) ∧ Below w.heap.size w w' := by
 have HP := Aside0.mk hp
 have HR := Aside0.mk hr0
 clear hp hr0
 go_enter Try.func63, Try.ntmps63
 go_wp2
 go_loopg [5, 8] n (fun gg _ s8 wr => ∃ kk : Nat, kk ≤ n ∧ n - kk ≤ gg ∧ s8 = .int .i64 kk ∧ Aside0 (Below w.heap.size w wr) ∧ Aside0 (∀ j, j < kk → p (l0.getD j ByteArray.empty) = false))
 case atStart => exact ⟨0, Nat.zero_le _, by omega, rfl, ⟨Below.refl _ _⟩, ⟨fun j hj => absurd hj (Nat.not_lt_zero _)⟩⟩
 case round =>
  obtain ⟨kk, hkk, hg, rfl, HB, AS⟩ := hrel
  by_cases hlt : kk < n
  ·
   have hltz : (kk : Int) < (n : Int) := by omega
   obtain ⟨ad, e0, hx⟩ := Kd.at_string HR.out kk (by omega) (by have := hn.out; omega)
   cases e0
   have hxw := (HB.out.cell (World.block_lt_of_cell? w _ hx)).trans hx
   clear hx
   simp only [Int.toNat_natCast, rdOf] at hxw
   have hmem : l0.getD kk ByteArray.empty ∈ l0 := by
    rw [List.getD_eq_getElem?_getD, List.getElem?_eq_getElem (show kk < l0.length by have := hn.out; omega)]; exact List.getElem_mem _
   generalize hy : l0.getD kk ByteArray.empty = y at hxw hmem
   have BY : Aside0 (l0.getD kk ByteArray.empty = y) := ⟨hy⟩
   clear hy
   have hcall := HP.out wr y hmem HB.out
   clear hmem
   cases hq : p y with
   | true =>
    rw [hq] at hcall
    go_wp2_with fail
    refine hcall.mono ?_
    clear hcall
    rintro e w' ⟨rfl, hb0⟩
    have hb := Aside0.mk hb0
    clear hb0
    go_wp2_with fail
    go_ret
    refine ⟨?_, HB.out.trans (hb.out.mono HB.out.size)⟩
    rw [idxByS_hit p ByteArray.empty l0 0 kk (by have := hn.out; omega) (by rw [BY.out]; exact hq) AS.out]
    simp
   | false =>
    rw [hq] at hcall
    go_wp2_with fail
    refine hcall.mono ?_
    clear hcall
    rintro e w' ⟨rfl, hb0⟩
    have hb := Aside0.mk hb0
    clear hb0
    go_wp2_with fail
    go_roundg (n - (kk + 1))
    case measure => omega
    case rel =>
     refine ⟨kk + 1, by omega, by omega, by go_num, ⟨HB.out.trans (hb.out.mono HB.out.size)⟩, ⟨fun j hj => ?_⟩⟩
     by_cases e : j = kk
     ·
      subst e
      rw [BY.out]; exact hq
     ·
      exact AS.out j (by omega)
  ·
   have hltz : ¬ (kk : Int) < (n : Int) := by omega
   have : kk = n := by omega
   subst this
   go_wp2
   go_ret
   refine ⟨?_, HB.out⟩
   rw [idxByS_miss p ByteArray.empty l0 0 (by rw [hn.out]; exact AS.out)]
   rfl
theorem IndexFuncStr.calls (p : ByteArray → Bool) (g : Nat) (lb : Array Value) (eg : ∀ args w, (callFunc g args).run Try.prog w = .ok (.enter g args) w) (A0 : Option Addr) (c0 : Nat) (l0 : List ByteArray) (w : World)
  (hr0 : Kd.C Kd.string w A0 l0.length l0) (hbig : l0.length ≤ 9223372036854775807) (hp : PredBS Try.prog g lb Value.string p l0 w) :
  Calls Try.prog 63 #[.slice A0 l0.length c0, .func (.func g) #[] lb] w fun e w' => e = .returned (.int .i64 (idxByS p l0 0)) ∧ Below w.heap.size w w' :=
 IndexFuncStr.calls_n p g lb eg A0 l0.length c0 l0 w ⟨rfl⟩ hr0 hbig hp
set_option maxHeartbeats 2000000 in
theorem ContainsFuncStr.calls (p : ByteArray → Bool) (g : Nat) (lb : Array Value) (eg : ∀ args w, (callFunc g args).run Try.prog w = .ok (.enter g args) w) (A0 : Option Addr) (c0 : Nat) (l0 : List ByteArray) (w : World)
  (hr0 : Kd.C Kd.string w A0 l0.length l0) (hbig : l0.length ≤ 9223372036854775807) (hp : PredBS Try.prog g lb Value.string p l0 w) :
  Calls Try.prog 46 #[.slice A0 l0.length c0, .func (.func g) #[] lb] w fun e w' => e = .returned (.bool (l0.any p)) ∧ Below w.heap.size w w' := by
 have HC := Aside0.mk (IndexFuncStr.calls p g lb eg A0 c0 l0 w hr0 hbig hp)
 clear hp hr0
 go_enter Try.func46, Try.ntmps46
 go_wp2_with (go_at_call 63; refine HC.out.mono ?_; rintro e w' ⟨rfl, hb0⟩; have hb := Aside0.mk hb0; clear hb0)
 go_ret
 exact ⟨by rw [← idxByS_any p l0 0]; rfl, hb.out⟩
def impl_isTrie_any.p (x : ByteArray) : Bool := decide ((x.size : Int) > 12)
def impl_isTrie_any.f (l0 : List ByteArray) : Option Bool := some (l0.any impl_isTrie_any.p)
set_option maxHeartbeats 1000000 in
theorem impl_isTrie_any.lit (l0 : List ByteArray) (w : World) : PredBS Try.prog 47 #[] Value.string impl_isTrie_any.p l0 w := by
 intro W x _ _
 show Calls Try.prog 47 #[.string x] W _
 go_enter Try.func47, Try.ntmps47
 go_wp2
 go_ret
 exact ⟨rfl, Below.refl _ _⟩
theorem impl_isTrie_any.calls (A0 : Option Addr) (c0 : Nat) (l0 : List ByteArray) (r : Bool) (w : World) (hr0 : Kd.C Kd.string w A0 l0.length l0) (hc0 : l0.length ≤ c0) (h : impl_isTrie_any.f l0 = some r) :
  Calls Try.prog 46 #[.slice A0 l0.length c0, .func (.func 47) #[] #[]] w fun e w' => e = .returned (.bool r) ∧ Below w.heap.size w w' := by
 obtain rfl := Option.some.inj h
 exact ContainsFuncStr.calls impl_isTrie_any.p 47 #[] (Go.Proofs.enters_of Try.func47 (by kernel_rfl) rfl) A0 c0 l0 w hr0 hr0.2.1 (impl_isTrie_any.lit l0 w)
end Go.Proofs.Ytnnkedeohfbkeaa.P
namespace Go.Proofs.Ytnnkedeohfbkeaa.P
open Go.RowKit Go.Proofs.YtnnkedeohfbkeaaW.PrintWords Go.Proofs.YtnnkedeohfbkeaaW.PrintLast Go.Proofs.YtnnkedeohfbkeaaW.PrintMore
open Go.Proofs.YtnnkedeohfbkeaaW.PrintWords renaming blk_frozen → bF_, blk_cell → bC_, below_set → bS_, blk_below → bB_, below_step → bT_, pw_below_drewN → bN_, below_size → bZ_, below_drew1 → bD_, below_alloc → bA_, blk_far → bR_, gate_callee → gC_, gate_dst → gD_, box_event → bE_, blk_drew → b1_, blk_put → bP_, blk_drewN → b2_, blk_alloc → b3_, blk_lt → bL_, cell_far → cF_
open Go.Proofs.YtnnkedeohfbkeaaW.PrintLast renaming any_of → aO_, i64_w → i6_, i32_w → i3_, take_ofW → tW_
open Go.Proofs.YtnnkedeohfbkeaaW.PrintWords.Kd renaming R_below → kB_, R_mono → kM_, R_far → kF_, R_reads' → kR_, R_types → kT_, R_slice → kS_, R_celln → kC_, R_alloc → k1_, R_drewN → k2_, R_drew → k3_, C_below → k4_, R_lower → k5_, R_ne → k6_, own_blk → k7_
open Go.Proofs.YtnnkedeohfbkeaaW.PrintWords.LeO renaming none → l0_, bind → l1_, ite → l2_, refl → l3_
open World renaming block_lt_of_cell? → wB_
open _root_.Option renaming bind_eq_some_iff → oB_
open _root_.ByteArray renaming empty → eB_
open List renaming setIfInBounds_toArray → sA_, set_cons_zero → sB_, set_cons_succ → sC_, map_toArray → sD_, map_cons → sE_, map_nil → sF_, length_drop → sG_, length_take → sH_
open Bool renaming true → ty, false → fy
open Aside0 renaming mk → aM_
attribute [local go_sem] max2_int min2_int max_two min_two max_three min_three max_four min_four
def impl_in.f (a0 : Int) (a1 : Int) (a2 : Int) : Option (Bool) := if a0 ≥ a1 then (some (decide (a0 ≤ a2))) else (some false)
theorem impl_in.calls (a0 : Int) (a1 : Int) (a2 : Int) (r : Bool) (w : World) (h : impl_in.f a0 a1 a2 = some r) :
  Calls Try.prog 38 #[.int .i64 a0, .int .i64 a1, .int .i64 a2] w fun e w' => e = .returned (.bool r) ∧ Drawn0 w w' := by
 have H : (if a0 ≥ a1 then (some (decide (a0 ≤ a2))) else (some false)) = some r := h
 clear h
 by_cases c4 : a0 ≥ a1
 ·
  rw [if_pos c4] at H
  have c4b0 := decide_eq_true c4
  clear c4
  obtain rfl := Option.some.inj H
  go_enter Try.func38, Try.ntmps38
  go_wp2
  go_ret
  exact ⟨by rfl, by repeat (first | exact Drawn0.refl _ | apply Drawn0.step)⟩
 ·
  rw [if_neg c4] at H
  have c4b0 := decide_eq_false c4
  clear c4
  obtain rfl := Option.some.inj H
  go_enter Try.func38, Try.ntmps38
  go_wp2
  go_ret
  exact ⟨by rfl, by repeat (first | exact Drawn0.refl _ | apply Drawn0.step)⟩
def impl_letter.f (a0 : Int) : Option (ByteArray) := some (strOfNums (([(wrap64 (97 + a0)) % 256] : List Int)))
theorem impl_letter.calls (a0 : Int) (r : ByteArray) (w : World) (h : impl_letter.f a0 = some r) :
  Calls Try.prog 56 #[.int .i64 a0] w fun e w' => e = .returned (.string r) ∧ Below w.heap.size w w' := by
 have HB := aM_ (Below.refl w.heap.size w)
 have H : (some (strOfNums (([(wrap64 (97 + a0)) % 256] : List Int)))) = some r := h
 clear h
 obtain ⟨y276, hy276⟩ : ∃ y_ : List Int, y_ = (([(wrap64 (97 + a0)) % 256] : List Int)) := ⟨_, rfl⟩
 replace H : (some (strOfNums y276)) = some r := by first | (rw [hy276]; with_reducible exact H) | (have H2_ := (Option.bind_some _ _).symm.trans H; rw [hy276]; with_reducible exact H2_) | (have H2_ := (Option.bind_some _ _).symm.trans H; with_reducible exact H2_) | with_reducible exact H | (rw [hy276]; exact H) | exact H
 have Ny276 := aM_ hy276
 clear hy276
 obtain rfl := Option.some.inj H
 go_enter Try.func56, Try.ntmps56
 go_wp2_with (first | ((with_reducible refine gD_ (N := 6) rfl ?_); refine Kd.R_lit (Kd.int .u8) _ 5 ?hg (N := 6) ?hd (xs := ([(wrap64 (97 + a0)) % 256] : List Int)) (inner := [.int .u8 ((wrap64 (97 + a0)) % 256)]) (ok := fun _ => True) (okp := fun _ => True) ?hr ?hp (fun _ hk => hk) trivial (Below.refl _ _) (Nat.le_refl _) (by simp) ?_; (case hd => rfl); (case hg => rfl); (case hr => (go_simp; done)); (case hp => exact (Reps.one (show Kd.M (Kd.int .u8) _ _ _ ((wrap64 (97 + a0)) % 256) [.int .u8 ((wrap64 (97 + a0)) % 256)] from rfl) (Reps.none _ _))); intro v277 w2 ho3 hb hg_ hnew_; clear hg_ hnew_; (rw [← Ny276.out] at ho3); have HO278 := aM_ (k5_ ho3 (bZ_ HB.out)); replace HB := aM_ (bT_ HB.out hb); clear hb ho3; have hcv4 := own_string (P := Try.prog) Try.underlying97 Try.underlying5 Try.underlying9 (Kd.own_of_R HO278.out)))
 go_ret
 exact ⟨by rfl, by exact HB.out⟩
def impl_Trie_prefixes.l0 : Nat → List ByteArray → List (S65) → Int → Int → Option (List ByteArray × Bool)
 | 0, _, _, _, _ => none
 | k + 1, x4, x15, x16, x17 => if x17 < x16 then (if 0 ≤ x17 then (if x17 < (x15.length : Int) then ((impl_in.f ((rd_T65 x15 x17).f1) 0 x17).bind fun t290 => (if t290 = true then ((impl_in.f ((rd_T65 x15 x17).f0) 0 25).bind fun t291 => (if t291 = true then (if 0 ≤ ((rd_T65 x15 x17).f1) then (if ((rd_T65 x15 x17).f1) < (x4.length : Int) then ((impl_letter.f ((rd_T65 x15 x17).f0)).bind fun t293 => (if (rdOf eB_ x4 ((rd_T65 x15 x17).f1)).size + t293.size ≤ 9223372036854775807 then (if x4.length < 8796093022208 then (impl_Trie_prefixes.l0 k (x4 ++ [(rdOf eB_ x4 ((rd_T65 x15 x17).f1)) ++ t293]) x15 x16 (wrap64 (x17 + 1))) else (none)) else (none))) else (none)) else (none)) else (some (([] : List ByteArray), false)))) else (some (([] : List ByteArray), false)))) else (none)) else (none)) else (some (x4, true))
def impl_Trie_prefixes.f (k : Nat) (l0_0 : List (S65)) : Option (List ByteArray × Bool) := (impl_in.f (l0_0.length : Int) 1 481).bind fun t283 => (if t283 = true then (if 1 ≤ (l0_0.length : Int) then ((some (l0_0.drop 1 : List (S65))).bind fun y284 => (impl_Trie_prefixes.l0 k (([(⟨#[]⟩ : ByteArray)] : List ByteArray)) y284 (y284.length : Int) 0)) else (none)) else (some (([] : List ByteArray), false)))
theorem impl_Trie_prefixes.mono_l : ∀ k, (∀ y0 y1 y2 y3, LeO (impl_Trie_prefixes.l0 k y0 y1 y2 y3) (impl_Trie_prefixes.l0 (k + 1) y0 y1 y2 y3))
 | 0 => fun _ _ _ _ r h => by simp [impl_Trie_prefixes.l0] at h
 | k + 1 => by
  have ih0 := impl_Trie_prefixes.mono_l k
  ·
   intro y0 y1 y2 y3
   unfold impl_Trie_prefixes.l0
   repeat' first
   | (with_reducible exact ih0 _ _ _ _)
   | (with_reducible exact l3_ _)
   | (with_reducible exact l0_ _)
   | (with_reducible refine l2_ ?_ ?_)
   | (with_reducible refine l1_ ?_ (fun _ => ?_))
   | exact ih0 _ _ _ _
   | exact l0_ _
   | refine l2_ ?_ ?_
   | refine l1_ ?_ (fun _ => ?_)
theorem impl_Trie_prefixes.mono : ∀ a0 k, LeO (impl_Trie_prefixes.f k a0) (impl_Trie_prefixes.f (k + 1) a0) := by
 intro a0 k
 have ih0 := impl_Trie_prefixes.mono_l k
 unfold impl_Trie_prefixes.f
 repeat' first
   | (with_reducible exact ih0 _ _ _ _)
   | (with_reducible exact l3_ _)
   | (with_reducible exact l0_ _)
   | (with_reducible refine l2_ ?_ ?_)
   | (with_reducible refine l1_ ?_ (fun _ => ?_))
   | exact ih0 _ _ _ _
   | exact l0_ _
   | refine l2_ ?_ ?_
   | refine l1_ ?_ (fun _ => ?_)
def impl_Trie_prefixes.T9 : Bool × List (List Nat × List Nat) := (true, [([], []), ([], []), ([], []), ([2], [2]), ([1, 3], [1, 3]), ([4], [4]), ([], []), ([6], [6]), ([7], [7]), ([5, 8], [5, 8]), ([9], [9]), ([0, 10, 8], [0, 10]), ([11, 11, 0, 1, 2, 3, 4, 5, 6, 7, 8, 9, 10, 11], [0, 1, 11])])
def impl_Trie_prefixes.B9 : List Nat := [0, 0, 0, 4, 14, 30, 0, 64, 192, 510, 1022, 2047, 4095]
theorem impl_Trie_prefixes.tab9 : rtab .any (opsOf Try.f39 9) = impl_Trie_prefixes.T9 := by kernel_rfl
theorem impl_Trie_prefixes.bits9 : waitsOk impl_Trie_prefixes.T9.2 impl_Trie_prefixes.B9 = true := by kernel_rfl
theorem impl_Trie_prefixes.calls (k : Nat) (A0_0 : Option Addr) (c0_0 : Nat) (l0_0 : List (S65)) (r1 : List ByteArray) (r2 : Bool) (w : World) (hr0_0 : Kd.C k65 w A0_0 l0_0.length l0_0) (hc0_0 : l0_0.length ≤ c0_0) (h : impl_Trie_prefixes.f k l0_0 = some (r1, r2)) :
  Calls Try.prog 39 #[.agg #[.slice A0_0 l0_0.length c0_0]] w fun e w' => ∃ v0_ : Value, e = .returned (.tuple #[v0_, .bool r2]) ∧ Kd.R Kd.string 9 w' w.heap.size (fun _ => True) v0_ r1 ∧ Below w.heap.size w w' := by
 have hu30 := Try.underlying30
 have hu65 := Try.underlying65
 have HR0_0 := aM_ hr0_0
 have HC0_0 := aM_ hc0_0
 clear hr0_0 hc0_0
 have HB := aM_ (Below.refl w.heap.size w)
 have H : ((impl_in.f (l0_0.length : Int) 1 481).bind fun t283 => (if t283 = true then (if 1 ≤ (l0_0.length : Int) then ((some (l0_0.drop 1 : List (S65))).bind fun y284 => (impl_Trie_prefixes.l0 k (([(⟨#[]⟩ : ByteArray)] : List ByteArray)) y284 (y284.length : Int) 0)) else (none)) else (some (([] : List ByteArray), false)))) = some (r1, r2) := h
 clear h
 obtain ⟨y280, hy280⟩ : ∃ y_ : List ByteArray, y_ = (([(⟨#[]⟩ : ByteArray)] : List ByteArray)) := ⟨_, rfl⟩
 replace H : ((impl_in.f (l0_0.length : Int) 1 481).bind fun t283 => (if t283 = true then (if 1 ≤ (l0_0.length : Int) then ((some (l0_0.drop 1 : List (S65))).bind fun y284 => (impl_Trie_prefixes.l0 k y280 y284 (y284.length : Int) 0)) else (none)) else (some (([] : List ByteArray), false)))) = some (r1, r2) := by first | (rw [hy280]; with_reducible exact H) | (have H2_ := (Option.bind_some _ _).symm.trans H; rw [hy280]; with_reducible exact H2_) | (have H2_ := (Option.bind_some _ _).symm.trans H; with_reducible exact H2_) | with_reducible exact H | (rw [hy280]; exact H) | exact H
 have Ny280 := aM_ hy280
 clear hy280
 replace H := oB_.mp H
 obtain ⟨t283, A20, H⟩ := H
 try dsimp only at H
 have A2 := aM_ A20
 clear A20
 by_cases c3 : t283 = true
 ·
  subst c3
  rw [if_pos rfl] at H
  by_cases c4 : 1 ≤ (l0_0.length : Int)
  rotate_left
  ·
   rw [if_neg c4] at H
   exact absurd H (by simp)
  rw [if_pos c4] at H
  have c4b0 := eq_true c4
  have c4b1 := decide_eq_true c4
  clear c4
  obtain ⟨y284, hy284⟩ : ∃ y_ : List (S65), y_ = (l0_0.drop 1) := ⟨_, rfl⟩
  replace H : (impl_Trie_prefixes.l0 k y280 y284 (y284.length : Int) 0) = some (r1, r2) := by first | (rw [hy284]; with_reducible exact H) | (have H2_ := (Option.bind_some _ _).symm.trans H; rw [hy284]; with_reducible exact H2_) | (have H2_ := (Option.bind_some _ _).symm.trans H; with_reducible exact H2_) | with_reducible exact H | (rw [hy284]; exact H) | exact H
  have Ny284 := aM_ hy284
  clear hy284
  have H' := aM_ H
  clear H
  go_enter Try.func39, Try.ntmps39
  go_wp2_with (first | ((with_reducible refine gD_ (N := 1) rfl ?_); refine bE_ ?hg (N := 1) ?hd (cs := #[.slice A0_0 l0_0.length c0_0]) (t := 30) ?hr ?_; (case hd => rfl); (case hg => rfl); (case hr => (go_simp; done)); intro gb279 hg w5 hbox hb; have BK279 := aM_ (hbox); have GW279 := aM_ ((by rw [hg]; exact (bZ_ HB.out) : w.heap.size ≤ gb279)); have GE279 := GW279; replace HB := aM_ (bT_ HB.out hb); clear hb hbox hg) | ((with_reducible refine gD_ (N := 7) rfl ?_); refine Kd.R_lit Kd.string _ 9 ?hg (N := 7) ?hd (xs := ([(⟨#[]⟩ : ByteArray)] : List ByteArray)) (inner := [.string (⟨#[]⟩ : ByteArray)]) (ok := fun _ => True) (okp := fun _ => True) ?hr ?hp (fun _ hk => hk) trivial (Below.refl _ _) (Nat.le_refl _) (by simp) ?_; (case hd => rfl); (case hg => rfl); (case hr => (go_simp; done)); (case hp => exact (Reps.one (show Kd.M Kd.string _ _ _ (⟨#[]⟩ : ByteArray) [.string (⟨#[]⟩ : ByteArray)] from rfl) (Reps.none _ _))); intro v281 w6 ho7 hb hg_ hnew_; clear hg_ hnew_; (rw [← Ny280.out] at ho7); have HO282 := aM_ (k5_ ho7 (bZ_ HB.out)); replace BK279 := aM_ (bB_ BK279.out hb); replace HB := aM_ (bT_ HB.out hb); clear hb ho7; have hcz8_0 : w6.cell? ⟨gb279, 0, none⟩ = some (.slice A0_0 l0_0.length c0_0) := (bC_ BK279.out 0).trans rfl; have hfz8_0 := bF_ BK279.out 0) | ((with_reducible refine gC_ (f := 38) rfl ?_); refine goesL_ (some 11) rfl rfl Try.func38 (by kernel_rfl) rfl #[.int .i64 (l0_0.length : Int), .int .i64 1, .int .i64 481] rfl (by (try simp only [sD_, sE_, sF_]); rfl) ?_; (with_reducible refine (impl_in.calls (l0_0.length : Int) 1 481 true _ A2.out).mono ?_); rintro e w' ⟨rfl, ⟨nd, rfl⟩⟩; refine ⟨_, rfl, ?_⟩; have q9 : (1 : Int) ≤ ((l0_0.length : Int) : Int) := of_decide_eq_true (by (with_reducible assumption)); obtain ⟨i09, hi09, _, hsz9, _⟩ := info_parts info65; have hroom9 : l0_0.length ≤ c0_0 := HC0_0.out; have hC9 : Kd.C k65 _ A0_0 l0_0.length l0_0 := HR0_0.out; have hcut9 := cut_from (P := Try.prog) 28 65 .i64 Try.underlying28 hi09 3 hsz9 A0_0 l0_0.length c0_0 1 (by omega) q9; have hr9 := Kd.C_drop (m := (1 : Int).toNat) (c := c0_0) hC9 (by omega) hroom9; obtain ⟨A9, hA9⟩ : ∃ A1, A1 = (if c0_0 = (1 : Int).toNat then A0_0 else (A0_0 : Option Addr).map (·.add ((1 : Int).toNat * 3))) := ⟨_, rfl⟩; obtain ⟨c9, hc9⟩ : ∃ c1, c1 = c0_0 - (1 : Int).toNat := ⟨_, rfl⟩; have hy9 : y284.length = l0_0.length - (1 : Int).toNat := (by rw [Ny284.out, List.length_drop] <;> omega); rw [show (l0_0).drop (1 : Int).toNat = y284 from Ny284.out.symm] at hr9; replace hr9 : Kd.C k65 _ A9 y284.length y284 := (by rw [hA9]; exact hr9); rw [← hy9, ← hA9, ← hc9] at hcut9; have HR287 := aM_ hr9; have HC287 := aM_ (show y284.length ≤ c9 from by rw [hy9, hc9]; exact Nat.sub_le_sub_right hroom9 _); clear hr9 hC9 hroom9 hi09 hsz9 hc9; have KY9 := aM_ hy9; have KA9 := aM_ hA9; clear hy9 hA9; replace q9 := eq_true q9))
  go_loopg [4, 17] k (fun kq v4 v17 w' => ∃ (x4_1 : List ByteArray) (x17_1 : Int), v17 = .int .i64 x17_1 ∧ Aside0 (impl_Trie_prefixes.l0 kq x4_1 y284 (y284.length : Int) x17_1 = some (r1, r2)) ∧ Aside0 (kq ≤ k) ∧ Aside0 (Kd.R Kd.string 9 w' w.heap.size (fun _ => True) v4 x4_1) ∧ Aside0 (w'.heap[gb279]? = some (.cells #[(.slice A0_0 l0_0.length c0_0)] 30 (0, 0))) ∧ Aside0 (Below w.heap.size w w'))
  case atStart => exact ⟨(y280), (0), (by rfl), H', ⟨Nat.le_refl _⟩, ⟨by (with_reducible repeat (first | apply k1_ | apply k2_ | apply k3_)); exact HO282.out⟩, ⟨by (with_reducible repeat (first | refine b2_ ?_ _ | refine b1_ ?_ | refine b3_ ?_ _)); exact BK279.out⟩, ⟨by repeat (first | (with_reducible first | exact HB.out | apply bA_ | apply bN_ | apply bD_ | refine bS_ ?_ GE279.out) | exact HB.out)⟩⟩
  case round =>
   clear H'
   try clear p2
   try clear c4b0
   try clear c4b1
   try clear q9
   try clear hcz8_0
   try clear hfz8_0
   try clear q9
   obtain ⟨x4_1, x17_1, rfl, HA, HK1, HO_4, BK279, HB⟩ := hrel
   cases gk with
   | zero => exact absurd HA.out (by simp [impl_Trie_prefixes.l0])
   | succ k1 =>
    have H := HA.out
    clear HA
    simp only [impl_Trie_prefixes.l0] at H
    by_cases c10 : x17_1 < (y284.length : Int)
    ·
     rw [if_pos c10] at H
     have c10b0 := decide_eq_true c10
     clear c10
     by_cases c11 : 0 ≤ x17_1
     ·
      rw [if_pos c11] at H
      have c11b0 := decide_eq_true c11
      clear c11
      by_cases c12 : x17_1 < (y284.length : Int)
      ·
       rw [if_pos c12] at H
       have c12b0 := decide_eq_true c12
       clear c12
       replace H := oB_.mp H
       obtain ⟨t290, A130, H⟩ := H
       try dsimp only at H
       have A13 := aM_ A130
       clear A130
       by_cases c14 : t290 = true
       ·
        subst c14
        rw [if_pos rfl] at H
        replace H := oB_.mp H
        obtain ⟨t291, A150, H⟩ := H
        try dsimp only at H
        have A15 := aM_ A150
        clear A150
        by_cases c16 : t291 = true
        ·
         subst c16
         rw [if_pos rfl] at H
         by_cases c17 : 0 ≤ ((rd_T65 y284 x17_1).f1)
         ·
          rw [if_pos c17] at H
          have c17b0 := decide_eq_true c17
          clear c17
          by_cases c18 : ((rd_T65 y284 x17_1).f1) < (x4_1.length : Int)
          ·
           rw [if_pos c18] at H
           have c18b0 := decide_eq_true c18
           clear c18
           replace H := oB_.mp H
           obtain ⟨t293, A190, H⟩ := H
           try dsimp only at H
           have A19 := aM_ A190
           clear A190
           by_cases c20 : (rdOf eB_ x4_1 ((rd_T65 y284 x17_1).f1)).size + t293.size ≤ 9223372036854775807
           ·
            rw [if_pos c20] at H
            have c20b0 := eq_true c20
            have c20b1 := decide_eq_true c20
            try have c20b2 : (9223372036854775807 < (rdOf eB_ x4_1 ((rd_T65 y284 x17_1).f1)).size + t293.size) = False := eq_false (Nat.not_lt.2 c20)
            by_cases c21 : x4_1.length < 8796093022208
            ·
             rw [if_pos c21] at H
             have LMc21 := aM_ c21
             clear c21
             obtain ⟨y294, hy294⟩ : ∃ y_ : List ByteArray, y_ = (x4_1 ++ [(rdOf eB_ x4_1 ((rd_T65 y284 x17_1).f1)) ++ t293]) := ⟨_, rfl⟩
             replace H : (impl_Trie_prefixes.l0 k1 y294 y284 (y284.length : Int) (wrap64 (x17_1 + 1))) = some (r1, r2) := by first | (rw [hy294]; with_reducible exact H) | (have H2_ := (Option.bind_some _ _).symm.trans H; rw [hy294]; with_reducible exact H2_) | (have H2_ := (Option.bind_some _ _).symm.trans H; with_reducible exact H2_) | with_reducible exact H | (rw [hy294]; exact H) | exact H
             have Ny294 := aM_ hy294
             clear hy294
             have H' := aM_ H
             clear H
             have p288 : 0 ≤ (x17_1 : Int) := of_decide_eq_true (by (with_reducible assumption))
             have q288 : x17_1 < (y284.length : Int) := of_decide_eq_true (by (with_reducible assumption))
             obtain ⟨ad288, e288, hx288_0, hx288_1, hx288_2⟩ := at_T65 HR287.out x17_1 p288 q288
             cases e288
             replace hx288_0 := (HB.out.cell (wB_ w _ hx288_0)).trans hx288_0
             replace hx288_1 := (HB.out.cell (wB_ w _ hx288_1)).trans hx288_1
             replace hx288_2 := (HB.out.cell (wB_ w _ hx288_2)).trans hx288_2
             replace p288 := eq_true p288
             replace q288 := eq_true q288
             try go_wp2_with (first | ((with_reducible refine gD_ (N := 6) rfl ?_); refine bE_ ?hg (N := 6) ?hd (cs := #[.int .i64 0, .int .i64 0, .bool false]) (t := 65) ?hr ?_; (case hd => rfl); (case hg => rfl); (case hr => (go_simp; done)); intro gb289 hg w22 hbox hb; replace HO_4 := aM_ (kB_ HO_4.out hb); have BK289 := aM_ (hbox); have GW289 := aM_ ((by rw [hg]; exact (bZ_ HB.out) : w.heap.size ≤ gb289)); have GE289 := GW289; replace HB := aM_ (bT_ HB.out hb); have NB279_289 := aM_ ((by rw [hg]; exact Nat.ne_of_lt (bL_ BK279.out) : gb279 ≠ gb289)); have NB289_279 := aM_ NB279_289.out.symm; replace BK279 := aM_ (bB_ BK279.out hb); clear hb hbox hg; have hnb23 := NB289_279.out; have hnc23 := NB279_289.out; have hcz24_0 : w22.cell? ⟨gb289, 0, none⟩ = some (.int .i64 0) := (bC_ BK289.out 0).trans rfl; have hcz24_1 : w22.cell? ⟨gb289, 1, none⟩ = some (.int .i64 0) := (bC_ BK289.out 1).trans rfl; have hcz24_2 : w22.cell? ⟨gb289, 2, none⟩ = some (.bool false) := (bC_ BK289.out 2).trans rfl; have hfz24_0 := bF_ BK289.out 0; have hfz24_1 := bF_ BK289.out 1; have hfz24_2 := bF_ BK289.out 2) | ((with_reducible refine gC_ (f := 38) rfl ?_); refine goesL_ (some 25) rfl rfl Try.func38 (by kernel_rfl) rfl #[.int .i64 ((rd_T65 y284 x17_1).f1), .int .i64 0, .int .i64 x17_1] rfl (by (try simp only [sD_, sE_, sF_]); rfl) ?_; (with_reducible refine (impl_in.calls ((rd_T65 y284 x17_1).f1) 0 x17_1 true _ A13.out).mono ?_); rintro e w' ⟨rfl, ⟨nd, rfl⟩⟩; refine ⟨_, rfl, ?_⟩) | (go_at_call 38; (with_reducible refine (impl_in.calls ((rd_T65 y284 x17_1).f0) 0 25 true _ A15.out).mono ?_); rintro e w' ⟨rfl, ⟨nd, rfl⟩⟩))
             have n0_ : Aside0 (Kd.R Kd.string 9 (((w22.setCell ⟨gb289, 0, none⟩ (.int .i64 ((rd_T65 y284 x17_1).f0))).setCell ⟨gb289, 1, none⟩ (.int .i64 ((rd_T65 y284 x17_1).f1))).setCell ⟨gb289, 2, none⟩ (.bool ((rd_T65 y284 x17_1).f2))) w.heap.size (fun _ => True) u4 x4_1) := ⟨by exact kM_ (kF_ (p := ⟨gb289, 2, none⟩) (kF_ (p := ⟨gb289, 1, none⟩) (kF_ (p := ⟨gb289, 0, none⟩) (kT_ HO_4.out BK289.out (by decide)) (fun _ hk => hk.2) (.int .i64 ((rd_T65 y284 x17_1).f0))) (fun _ hk => hk.2) (.int .i64 ((rd_T65 y284 x17_1).f1))) (fun _ hk => hk.2) (.bool ((rd_T65 y284 x17_1).f2))) (fun _ hk => trivial)⟩
             have n1_ : Aside0 ((((w22.setCell ⟨gb289, 0, none⟩ (.int .i64 ((rd_T65 y284 x17_1).f0))).setCell ⟨gb289, 1, none⟩ (.int .i64 ((rd_T65 y284 x17_1).f1))).setCell ⟨gb289, 2, none⟩ (.bool ((rd_T65 y284 x17_1).f2))).heap[gb279]? = some (.cells #[.slice A0_0 l0_0.length c0_0] 30 (0, 0))) := ⟨by refine bR_ ?_ NB279_289.out _; refine bR_ ?_ NB279_289.out _; refine bR_ ?_ NB279_289.out _; exact BK279.out⟩
             have n2_ : Aside0 ((((w22.setCell ⟨gb289, 0, none⟩ (.int .i64 ((rd_T65 y284 x17_1).f0))).setCell ⟨gb289, 1, none⟩ (.int .i64 ((rd_T65 y284 x17_1).f1))).setCell ⟨gb289, 2, none⟩ (.bool ((rd_T65 y284 x17_1).f2))).heap[gb289]? = some (.cells #[.int .i64 ((rd_T65 y284 x17_1).f0), .int .i64 ((rd_T65 y284 x17_1).f1), .bool ((rd_T65 y284 x17_1).f2)] 65 (0, 0))) := ⟨by refine bP_ (cs := #[.int .i64 ((rd_T65 y284 x17_1).f0), .int .i64 ((rd_T65 y284 x17_1).f1), .bool false]) ?_ 2 _ rfl; refine bP_ (cs := #[.int .i64 ((rd_T65 y284 x17_1).f0), .int .i64 0, .bool false]) ?_ 1 _ rfl; refine bP_ (cs := #[.int .i64 0, .int .i64 0, .bool false]) ?_ 0 _ rfl; exact BK289.out⟩
             have n3_ : Aside0 (Below w.heap.size w (((w22.setCell ⟨gb289, 0, none⟩ (.int .i64 ((rd_T65 y284 x17_1).f0))).setCell ⟨gb289, 1, none⟩ (.int .i64 ((rd_T65 y284 x17_1).f1))).setCell ⟨gb289, 2, none⟩ (.bool ((rd_T65 y284 x17_1).f2)))) := ⟨by repeat (first | (with_reducible first | exact HB.out | apply bA_ | apply bN_ | apply bD_ | refine bS_ ?_ GE279.out | refine bS_ ?_ GE289.out) | exact HB.out)⟩
             (try clear HO_4)
             (try clear BK279)
             (try clear BK289)
             (try clear HB)
             generalize (((w22.setCell ⟨gb289, 0, none⟩ (.int .i64 ((rd_T65 y284 x17_1).f0))).setCell ⟨gb289, 1, none⟩ (.int .i64 ((rd_T65 y284 x17_1).f1))).setCell ⟨gb289, 2, none⟩ (.bool ((rd_T65 y284 x17_1).f2))) = w25 at n0_ n1_ n2_ n3_ ⊢
             have HO_4 := n0_
             have BK279 := n1_
             have BK289 := n2_
             have HB := n3_
             clear n0_ n1_ n2_ n3_
             (try (rw [drewN_self w25]; generalize hq_ : World.drewN w25 _ = w25; have n0_ : Aside0 (Kd.R Kd.string 9 w25 w.heap.size (fun _ => True) u4 x4_1) := ⟨by rw [← hq_]; exact (by (with_reducible repeat (first | apply k1_ | apply k2_ | apply k3_)); exact HO_4.out)⟩; have n1_ : Aside0 (w25.heap[gb279]? = some (.cells #[.slice A0_0 l0_0.length c0_0] 30 (0, 0))) := ⟨by rw [← hq_]; exact (by (with_reducible repeat (first | refine b2_ ?_ _ | refine b1_ ?_ | refine b3_ ?_ _)); exact BK279.out)⟩; have n2_ : Aside0 (w25.heap[gb289]? = some (.cells #[.int .i64 ((rd_T65 y284 x17_1).f0), .int .i64 ((rd_T65 y284 x17_1).f1), .bool ((rd_T65 y284 x17_1).f2)] 65 (0, 0))) := ⟨by rw [← hq_]; exact (by (with_reducible repeat (first | refine b2_ ?_ _ | refine b1_ ?_ | refine b3_ ?_ _)); exact BK289.out)⟩; have n3_ : Aside0 (Below w.heap.size w w25) := ⟨by rw [← hq_]; exact (by repeat (first | (with_reducible first | exact HB.out | apply bA_ | apply bN_ | apply bD_ | refine bS_ ?_ GE279.out | refine bS_ ?_ GE289.out) | exact HB.out))⟩; clear HO_4 BK279 BK289 HB hq_; have HO_4 := n0_; have BK279 := n1_; have BK289 := n2_; have HB := n3_; clear n0_ n1_ n2_ n3_))
             have n0_ := aM_ (k3_ HO_4.out)
             have n1_ := aM_ (b1_ BK279.out)
             have n2_ := aM_ (b1_ BK289.out)
             have n3_ := aM_ (bD_ HB.out)
             clear HO_4
             clear BK279
             clear BK289
             clear HB
             have HO_4 := n0_
             have BK279 := n1_
             have BK289 := n2_
             have HB := n3_
             clear n0_ n1_ n2_ n3_
             obtain ⟨Ao27, co27, eo27⟩ := kS_ HO_4.out
             (subst eo27)
             have p292 : 0 ≤ (((rd_T65 y284 x17_1).f1) : Int) := of_decide_eq_true (by (with_reducible assumption))
             have q292 : ((rd_T65 y284 x17_1).f1) < (x4_1.length : Int) := of_decide_eq_true (by (with_reducible assumption))
             obtain ⟨ad292, e292, hx292_0⟩ := Kd.at_string (kR_ HO_4.out).2.2 ((rd_T65 y284 x17_1).f1) p292 q292
             cases e292
             replace p292 := eq_true p292
             replace q292 := eq_true q292
             refine start_ (n := 13) (S := fun w' => w'.cell? ⟨gb289, 0, none⟩ = some (.int .i64 ((rd_T65 y284 x17_1).f0)) ∧ w'.cell? ⟨gb289, 1, none⟩ = some (.int .i64 ((rd_T65 y284 x17_1).f1)) ∧ w'.cell? ⟨gb289, 2, none⟩ = some (.bool ((rd_T65 y284 x17_1).f2)) ∧ w'.cell? (ad292.add (((rd_T65 y284 x17_1).f1)).toNat) = some (.string (rdOf eB_ x4_1 ((rd_T65 y284 x17_1).f1)))) (ds := [10, 11]) #[fy, fy, fy, fy, fy, fy, fy, fy, fy, fy, fy, fy, fy] (by kernel_rfl) rfl rfl ⟨(bC_ BK289.out 0).trans rfl, (bC_ BK289.out 1).trans rfl, (bC_ BK289.out 2).trans rfl, hx292_0⟩ (fun hHeld => ?_); refine with_tabW impl_Trie_prefixes.tab9 impl_Trie_prefixes.bits9 (fun HT_ HW_ => ?_)
             generalize w25.drew = w26 at HO_4 BK279 BK289 HB hx292_0 hHeld ⊢
             refine pure_ (i := 0) (N := some 33) (v := ?_) (a' := ?_) #[ty, fy, fy, fy, fy, fy, fy, fy, fy, fy, fy, fy, fy] rfl rfl (aO_ HT_.out (by kernel_rfl)) (fun _ _ _ h => h) (Or.inl ⟨by rfl, ?_⟩) ?_ ?_; rotate_left; (intro w'; go_simp; with_reducible rfl); rotate_left; (simp only [Act.put, sA_, sB_, sC_, i6_, i3_]; rfl)
             refine pure_ (i := 1) (N := some 34) (v := ?_) (a' := ?_) #[ty, ty, fy, fy, fy, fy, fy, fy, fy, fy, fy, fy, fy] rfl rfl (aO_ HT_.out (by kernel_rfl)) (fun _ _ _ h => h) (Or.inl ⟨by rfl, ?_⟩) ?_ ?_; rotate_left; (intro w'; go_simp; with_reducible rfl); rotate_left; (simp only [Act.put, sA_, sB_, sC_, i6_, i3_]; rfl)
             refine pure_ (i := 2) (N := some 35) (v := ?_) (a' := ?_) #[ty, ty, ty, fy, fy, fy, fy, fy, fy, fy, fy, fy, fy] rfl rfl (aO_ HT_.out (by kernel_rfl)) (fun _ _ _ h => h) (Or.inl ⟨by rfl, ?_⟩) ?_ ?_; rotate_left; (intro w'; go_simp; with_reducible rfl); rotate_left; (simp only [Act.put, sA_, sB_, sC_, i6_, i3_]; rfl)
             refine pure_ (i := 6) (N := some 39) (v := ?_) (a' := ?_) #[ty, ty, ty, fy, fy, fy, ty, fy, fy, fy, fy, fy, fy] rfl rfl (aO_ HT_.out (by kernel_rfl)) (fun _ _ _ h => h) (Or.inl ⟨by rfl, ?_⟩) ?_ ?_; rotate_left; (intro w'; go_simp; with_reducible rfl); rotate_left; (simp only [Act.put, sA_, sB_, sC_, i6_, i3_]; rfl)
             refine take_ (i := 3) (N := some 36) (v := ?_) (a' := ?_) #[ty, ty, ty, ty, fy, fy, ty, fy, fy, fy, fy, fy, fy] rfl rfl (tW_ HT_.out HW_.out (by kernel_rfl)) (fun _ _ _ h => h) (Or.inl ⟨by rfl, ?_⟩) hHeld ?_ ?_; rotate_left; (rintro w' ⟨s0, s1, s2, s3⟩; go_simp; with_reducible rfl); rotate_left; (simp only [Act.put, sA_, sB_, sC_, i6_, i3_]; rfl)
             refine pure_ (i := 4) (N := some 37) (v := ?_) (a' := ?_) #[ty, ty, ty, ty, ty, fy, ty, fy, fy, fy, fy, fy, fy] rfl rfl (aO_ HT_.out (by kernel_rfl)) (fun _ _ _ h => h) (Or.inl ⟨by rfl, ?_⟩) ?_ ?_; rotate_left; (intro w'; go_simp; with_reducible rfl); rotate_left; (simp only [Act.put, sA_, sB_, sC_, i6_, i3_]; rfl)
             refine take_ (i := 5) (N := some 38) (v := ?_) (a' := ?_) #[ty, ty, ty, ty, ty, ty, ty, fy, fy, fy, fy, fy, fy] rfl rfl (tW_ HT_.out HW_.out (by kernel_rfl)) (fun _ _ _ h => h) (Or.inl ⟨by rfl, ?_⟩) hHeld ?_ ?_; rotate_left; (rintro w' ⟨s0, s1, s2, s3⟩; go_simp; with_reducible rfl); rotate_left; (simp only [Act.put, sA_, sB_, sC_, i6_, i3_]; rfl)
             refine take_ (i := 7) (N := some 40) (v := ?_) (a' := ?_) #[ty, ty, ty, ty, ty, ty, ty, ty, fy, fy, fy, fy, fy] rfl rfl (tW_ HT_.out HW_.out (by kernel_rfl)) (fun _ _ _ h => h) (Or.inl ⟨by rfl, ?_⟩) hHeld ?_ ?_; rotate_left; (rintro w' ⟨s0, s1, s2, s3⟩; go_simp; with_reducible rfl); rotate_left; (simp only [Act.put, sA_, sB_, sC_, i6_, i3_]; rfl)
             refine one_ (i := 8) (N := some 41) #[ty, ty, ty, ty, ty, ty, ty, ty, ty, fy, fy, fy, fy] rfl rfl (one_of HT_.out (by kernel_rfl)) (by decide) (fun K hK => ?_)
             refine goes_ Try.func56 (by kernel_rfl) rfl #[.int .i64 ((rd_T65 y284 x17_1).f0)] (by rfl) rfl rfl (by (try simp only [sD_, sE_, sF_]); rfl) ?_
             with_reducible refine (impl_letter.calls ((rd_T65 y284 x17_1).f0) t293 _ A19.out).mono ?_
             rintro e w28 ⟨rfl, hb⟩
             have HS3_ := (hb.cell (wB_ _ _ (hHeld.2.2.2))).trans (hHeld.2.2.2)
             refine ⟨_, rfl, ?_⟩
             have n0_ := aM_ (kB_ HO_4.out hb)
             have n1_ := aM_ (bB_ BK279.out hb)
             have n2_ := aM_ (bB_ BK289.out hb)
             have n3_ := aM_ (bT_ HB.out hb)
             clear HO_4
             clear BK279
             clear BK289
             clear HB
             have HO_4 := n0_
             have BK279 := n1_
             have BK289 := n2_
             have HB := n3_
             clear n0_ n1_ n2_ n3_
             (try clear hb)
             refine hK.out _ _ ⟨(bC_ BK289.out 0).trans rfl, (bC_ BK289.out 1).trans rfl, (bC_ BK289.out 2).trans rfl, HS3_⟩ (fun hHeld => ?_)
             clear hK K
             refine norm_ (a' := ?_) ?_ ?_; rotate_left; (show Act.put _ (some 41) _ = _; simp only [Act.put, sA_, sB_, sC_, i6_, i3_]; rfl)
             refine pure_ (i := 9) (N := some 42) (v := ?_) (a' := ?_) #[ty, ty, ty, ty, ty, ty, ty, ty, ty, ty, fy, fy, fy] rfl rfl (aO_ HT_.out (by kernel_rfl)) (fun _ _ _ h => h) (Or.inl ⟨by rfl, ?_⟩) ?_ ?_; rotate_left; (intro w'; go_simp; with_reducible rfl); rotate_left; (simp only [Act.put, sA_, sB_, sC_, i6_, i3_]; rfl)
             refine last_ (i := 10) (N := some 43) #[ty, ty, ty, ty, ty, ty, ty, ty, ty, ty, ty, fy, fy] rfl rfl (one_of HT_.out (by kernel_rfl)) (by decide) (fun K hK => ?_)
             refine value_ (w1 := ?_) (v := ?_) (by rfl) rfl ?_ ?_
             rotate_left 2
             ·
              go_simp
              constructor
              ·
               rfl
              ·
               rfl
             refine hK.out _ _ ?_
             clear hK K
             refine norm_ (a' := ?_) ?_ ?_; rotate_left; (show Act.put _ (some 43) _ = _; simp only [Act.put, sA_, sB_, sC_, i6_, i3_]; rfl)
             refine last_ (i := 11) (N := some 44) #[ty, ty, ty, ty, ty, ty, ty, ty, ty, ty, ty, ty, fy] rfl rfl (one_of HT_.out (by kernel_rfl)) (by decide) (fun K hK => ?_)
             refine Kd.R_append_step Kd.string (w0 := w) w.heap.size (by rfl) (.tmp 33) (.tmp 43) 50 9 (.string ⟨#[]⟩) 16 rfl Try.underlying50 info9 rfl (by decide) (by omega) (.slice (some ad292) x4_1.length co27) x4_1 ((rdOf eB_ x4_1 ((rd_T65 y284 x17_1).f1)) ++ t293) [.string ((rdOf eB_ x4_1 ((rd_T65 y284 x17_1).f1)) ++ t293)] (fun _ => True) (fun _ => False) rfl rfl ?aP (fun _ hk => hk.elim) ?aF ?aO ?aB ?aS ?aL ?_
             (case aP => exact rfl)
             (case aB => exact HB.out)
             (case aF => exact (fun _ _ => trivial))
             (case aO => exact HO_4.out)
             (case aS => exact (bZ_ HB.out))
             (case aL => have := LMc21.out; omega)
             intro v295 w29 ho hb hg hat
             rw [← Ny294.out] at ho
             have n0_ := aM_ (blk_grown (g := gb279) (o := .cells #[.slice A0_0 l0_0.length c0_0] 30 (0, 0)) BK279.out hg (k6_ HO_4.out BK279.out (by decide)))
             have n1_ := aM_ (blk_grown (g := gb289) (o := .cells #[.int .i64 ((rd_T65 y284 x17_1).f0), .int .i64 ((rd_T65 y284 x17_1).f1), .bool ((rd_T65 y284 x17_1).f2)] 65 (0, 0)) BK289.out hg (k6_ HO_4.out BK289.out (by decide)))
             have n2_ := aM_ (hb)
             have n3_ := aM_ (ho)
             clear BK279
             clear BK289
             clear HB
             clear HO_4
             have BK279 := n0_
             have BK289 := n1_
             have HB := n2_
             have HO296 := n3_
             clear n0_ n1_ n2_ n3_
             clear ho hb hg hat
             refine hK.out _ _ ?_
             clear hK K
             refine norm_ (a' := ?_) ?_ ?_; rotate_left; (show Act.put _ (some 44) _ = _; simp only [Act.put, sA_, sB_, sC_, i6_, i3_]; rfl)
             refine pure_ (i := 12) (N := some 4) (v := ?_) (a' := ?_) #[ty, ty, ty, ty, ty, ty, ty, ty, ty, ty, ty, ty, ty] rfl rfl (aO_ HT_.out (by kernel_rfl)) (fun _ _ _ h => h) (Or.inl ⟨by rfl, ?_⟩) ?_ ?_; rotate_left; (intro w'; go_simp; with_reducible rfl); rotate_left; (simp only [Act.put, sA_, sB_, sC_, i6_, i3_]; rfl)
             refine done_ (done_of HT_.out (by kernel_rfl)) ?_
             try go_wp2
             go_roundg k1
             case measure => have := HK1.out; omega
             case rel => exact ⟨(y294), (wrap64 (x17_1 + 1)), (by rfl), H', ⟨by have := HK1.out; omega⟩, ⟨HO296.out⟩, ⟨BK279.out⟩, ⟨HB.out⟩⟩
            ·
             rw [if_neg c21] at H
             exact absurd H (by simp)
           ·
            rw [if_neg c20] at H
            exact absurd H (by simp)
          ·
           rw [if_neg c18] at H
           exact absurd H (by simp)
         ·
          rw [if_neg c17] at H
          exact absurd H (by simp)
        ·
         replace c16 := Bool.eq_false_iff.mpr c16
         subst c16
         have H1 : (some (([] : List ByteArray), false)) = some (r1, r2) := by rw [if_neg (show ¬ (false = true) by decide)] at H; exact H
         clear H
         have H := H1
         clear H1
         simp only [Option.some.injEq, Prod.mk.injEq] at H
         obtain ⟨rfl, rfl⟩ := H
         have p288 : 0 ≤ (x17_1 : Int) := of_decide_eq_true (by (with_reducible assumption))
         have q288 : x17_1 < (y284.length : Int) := of_decide_eq_true (by (with_reducible assumption))
         obtain ⟨ad288, e288, hx288_0, hx288_1, hx288_2⟩ := at_T65 HR287.out x17_1 p288 q288
         cases e288
         replace hx288_0 := (HB.out.cell (wB_ w _ hx288_0)).trans hx288_0
         replace hx288_1 := (HB.out.cell (wB_ w _ hx288_1)).trans hx288_1
         replace hx288_2 := (HB.out.cell (wB_ w _ hx288_2)).trans hx288_2
         replace p288 := eq_true p288
         replace q288 := eq_true q288
         go_wp2_with (first | ((with_reducible refine gD_ (N := 6) rfl ?_); refine bE_ ?hg (N := 6) ?hd (cs := #[.int .i64 0, .int .i64 0, .bool false]) (t := 65) ?hr ?_; (case hd => rfl); (case hg => rfl); (case hr => (go_simp; done)); intro gb289 hg w30 hbox hb; replace HO_4 := aM_ (kB_ HO_4.out hb); have BK289 := aM_ (hbox); have GW289 := aM_ ((by rw [hg]; exact (bZ_ HB.out) : w.heap.size ≤ gb289)); have GE289 := GW289; replace HB := aM_ (bT_ HB.out hb); have NB279_289 := aM_ ((by rw [hg]; exact Nat.ne_of_lt (bL_ BK279.out) : gb279 ≠ gb289)); have NB289_279 := aM_ NB279_289.out.symm; replace BK279 := aM_ (bB_ BK279.out hb); clear hb hbox hg; have hnb31 := NB289_279.out; have hnc31 := NB279_289.out; have hcz32_0 : w30.cell? ⟨gb289, 0, none⟩ = some (.int .i64 0) := (bC_ BK289.out 0).trans rfl; have hcz32_1 : w30.cell? ⟨gb289, 1, none⟩ = some (.int .i64 0) := (bC_ BK289.out 1).trans rfl; have hcz32_2 : w30.cell? ⟨gb289, 2, none⟩ = some (.bool false) := (bC_ BK289.out 2).trans rfl; have hfz32_0 := bF_ BK289.out 0; have hfz32_1 := bF_ BK289.out 1; have hfz32_2 := bF_ BK289.out 2) | ((with_reducible refine gC_ (f := 38) rfl ?_); refine goesL_ (some 25) rfl rfl Try.func38 (by kernel_rfl) rfl #[.int .i64 ((rd_T65 y284 x17_1).f1), .int .i64 0, .int .i64 x17_1] rfl (by (try simp only [sD_, sE_, sF_]); rfl) ?_; (with_reducible refine (impl_in.calls ((rd_T65 y284 x17_1).f1) 0 x17_1 true _ A13.out).mono ?_); rintro e w' ⟨rfl, ⟨nd, rfl⟩⟩; refine ⟨_, rfl, ?_⟩) | (go_at_call 38; (with_reducible refine (impl_in.calls ((rd_T65 y284 x17_1).f0) 0 25 false _ A15.out).mono ?_); rintro e w' ⟨rfl, ⟨nd, rfl⟩⟩))
         go_ret2
         exact ⟨_, by rfl, by exact Kd.R_nil _ _ _ _ _, by repeat (first | (with_reducible first | exact HB.out | apply bA_ | apply bN_ | apply bD_ | refine bS_ ?_ GE279.out | refine bS_ ?_ GE289.out) | exact HB.out)⟩
       ·
        replace c14 := Bool.eq_false_iff.mpr c14
        subst c14
        have H1 : (some (([] : List ByteArray), false)) = some (r1, r2) := by rw [if_neg (show ¬ (false = true) by decide)] at H; exact H
        clear H
        have H := H1
        clear H1
        simp only [Option.some.injEq, Prod.mk.injEq] at H
        obtain ⟨rfl, rfl⟩ := H
        have p288 : 0 ≤ (x17_1 : Int) := of_decide_eq_true (by (with_reducible assumption))
        have q288 : x17_1 < (y284.length : Int) := of_decide_eq_true (by (with_reducible assumption))
        obtain ⟨ad288, e288, hx288_0, hx288_1, hx288_2⟩ := at_T65 HR287.out x17_1 p288 q288
        cases e288
        replace hx288_0 := (HB.out.cell (wB_ w _ hx288_0)).trans hx288_0
        replace hx288_1 := (HB.out.cell (wB_ w _ hx288_1)).trans hx288_1
        replace hx288_2 := (HB.out.cell (wB_ w _ hx288_2)).trans hx288_2
        replace p288 := eq_true p288
        replace q288 := eq_true q288
        go_wp2_with (first | ((with_reducible refine gD_ (N := 6) rfl ?_); refine bE_ ?hg (N := 6) ?hd (cs := #[.int .i64 0, .int .i64 0, .bool false]) (t := 65) ?hr ?_; (case hd => rfl); (case hg => rfl); (case hr => (go_simp; done)); intro gb289 hg w33 hbox hb; replace HO_4 := aM_ (kB_ HO_4.out hb); have BK289 := aM_ (hbox); have GW289 := aM_ ((by rw [hg]; exact (bZ_ HB.out) : w.heap.size ≤ gb289)); have GE289 := GW289; replace HB := aM_ (bT_ HB.out hb); have NB279_289 := aM_ ((by rw [hg]; exact Nat.ne_of_lt (bL_ BK279.out) : gb279 ≠ gb289)); have NB289_279 := aM_ NB279_289.out.symm; replace BK279 := aM_ (bB_ BK279.out hb); clear hb hbox hg; have hnb34 := NB289_279.out; have hnc34 := NB279_289.out; have hcz35_0 : w33.cell? ⟨gb289, 0, none⟩ = some (.int .i64 0) := (bC_ BK289.out 0).trans rfl; have hcz35_1 : w33.cell? ⟨gb289, 1, none⟩ = some (.int .i64 0) := (bC_ BK289.out 1).trans rfl; have hcz35_2 : w33.cell? ⟨gb289, 2, none⟩ = some (.bool false) := (bC_ BK289.out 2).trans rfl; have hfz35_0 := bF_ BK289.out 0; have hfz35_1 := bF_ BK289.out 1; have hfz35_2 := bF_ BK289.out 2) | ((with_reducible refine gC_ (f := 38) rfl ?_); refine goesL_ (some 25) rfl rfl Try.func38 (by kernel_rfl) rfl #[.int .i64 ((rd_T65 y284 x17_1).f1), .int .i64 0, .int .i64 x17_1] rfl (by (try simp only [sD_, sE_, sF_]); rfl) ?_; (with_reducible refine (impl_in.calls ((rd_T65 y284 x17_1).f1) 0 x17_1 false _ A13.out).mono ?_); rintro e w' ⟨rfl, ⟨nd, rfl⟩⟩; refine ⟨_, rfl, ?_⟩))
        go_ret2
        exact ⟨_, by rfl, by exact Kd.R_nil _ _ _ _ _, by repeat (first | (with_reducible first | exact HB.out | apply bA_ | apply bN_ | apply bD_ | refine bS_ ?_ GE279.out | refine bS_ ?_ GE289.out) | exact HB.out)⟩
      ·
       rw [if_neg c12] at H
       exact absurd H (by simp)
     ·
      rw [if_neg c11] at H
      exact absurd H (by simp)
    ·
     rw [if_neg c10] at H
     have c10b0 := decide_eq_false c10
     clear c10
     simp only [Option.some.injEq, Prod.mk.injEq] at H
     obtain ⟨rfl, rfl⟩ := H
     go_wp2
     go_ret2
     exact ⟨_, by rfl, by exact HO_4.out, by exact HB.out⟩
 ·
  replace c3 := Bool.eq_false_iff.mpr c3
  subst c3
  have H1 : (some (([] : List ByteArray), false)) = some (r1, r2) := by rw [if_neg (show ¬ (false = true) by decide)] at H; exact H
  clear H
  have H := H1
  clear H1
  simp only [Option.some.injEq, Prod.mk.injEq] at H
  obtain ⟨rfl, rfl⟩ := H
  go_enter Try.func39, Try.ntmps39
  go_wp2_with (first | ((with_reducible refine gD_ (N := 1) rfl ?_); refine bE_ ?hg (N := 1) ?hd (cs := #[.slice A0_0 l0_0.length c0_0]) (t := 30) ?hr ?_; (case hd => rfl); (case hg => rfl); (case hr => (go_simp; done)); intro gb279 hg w36 hbox hb; have BK279 := aM_ (hbox); have GW279 := aM_ ((by rw [hg]; exact (bZ_ HB.out) : w.heap.size ≤ gb279)); have GE279 := GW279; replace HB := aM_ (bT_ HB.out hb); clear hb hbox hg) | ((with_reducible refine gD_ (N := 7) rfl ?_); refine Kd.R_lit Kd.string _ 9 ?hg (N := 7) ?hd (xs := ([(⟨#[]⟩ : ByteArray)] : List ByteArray)) (inner := [.string (⟨#[]⟩ : ByteArray)]) (ok := fun _ => True) (okp := fun _ => True) ?hr ?hp (fun _ hk => hk) trivial (Below.refl _ _) (Nat.le_refl _) (by simp) ?_; (case hd => rfl); (case hg => rfl); (case hr => (go_simp; done)); (case hp => exact (Reps.one (show Kd.M Kd.string _ _ _ (⟨#[]⟩ : ByteArray) [.string (⟨#[]⟩ : ByteArray)] from rfl) (Reps.none _ _))); intro v281 w37 ho38 hb hg_ hnew_; clear hg_ hnew_; (rw [← Ny280.out] at ho38); have HO282 := aM_ (k5_ ho38 (bZ_ HB.out)); replace BK279 := aM_ (bB_ BK279.out hb); replace HB := aM_ (bT_ HB.out hb); clear hb ho38; have hcz39_0 : w37.cell? ⟨gb279, 0, none⟩ = some (.slice A0_0 l0_0.length c0_0) := (bC_ BK279.out 0).trans rfl; have hfz39_0 := bF_ BK279.out 0) | ((with_reducible refine gC_ (f := 38) rfl ?_); refine goesL_ (some 11) rfl rfl Try.func38 (by kernel_rfl) rfl #[.int .i64 (l0_0.length : Int), .int .i64 1, .int .i64 481] rfl (by (try simp only [sD_, sE_, sF_]); rfl) ?_; (with_reducible refine (impl_in.calls (l0_0.length : Int) 1 481 false _ A2.out).mono ?_); rintro e w' ⟨rfl, ⟨nd, rfl⟩⟩; refine ⟨_, rfl, ?_⟩))
  go_ret2
  exact ⟨_, by rfl, by exact Kd.R_nil _ _ _ _ _, by repeat (first | (with_reducible first | exact HB.out | apply bA_ | apply bN_ | apply bD_ | refine bS_ ?_ GE279.out) | exact HB.out)⟩
def impl_Trie_words.l0 : Nat → List ByteArray → List ByteArray → List (S65) → Int → Int → Option (List ByteArray)
 | 0, _, _, _, _, _ => none
 | k + 1, x3, x5, x15, x16, x17 => if x17 < x16 then (if 0 ≤ x17 then (if x17 < (x15.length : Int) then (if (rd_T65 x15 x17).f2 = true then (if x17 < (x3.length : Int) then (if x5.length < 8796093022208 then (impl_Trie_words.l0 k x3 (x5 ++ [rdOf eB_ x3 x17]) x15 x16 (wrap64 (x17 + 1))) else (none)) else (none)) else (impl_Trie_words.l0 k x3 x5 x15 x16 (wrap64 (x17 + 1)))) else (none)) else (none)) else (some x5)
def impl_Trie_words.f (k : Nat) (l0_0 : List (S65)) : Option (List ByteArray) := (impl_Trie_prefixes.f k l0_0).bind fun bt298 => (impl_Trie_words.l0 k bt298.1 (([] : List ByteArray)) l0_0 (l0_0.length : Int) 0)
theorem impl_Trie_words.mono_l : ∀ k, (∀ y0 y1 y2 y3 y4, LeO (impl_Trie_words.l0 k y0 y1 y2 y3 y4) (impl_Trie_words.l0 (k + 1) y0 y1 y2 y3 y4))
 | 0 => fun _ _ _ _ _ r h => by simp [impl_Trie_words.l0] at h
 | k + 1 => by
  have ih0 := impl_Trie_words.mono_l k
  ·
   intro y0 y1 y2 y3 y4
   unfold impl_Trie_words.l0
   repeat' first
   | (with_reducible exact ih0 _ _ _ _ _)
   | (with_reducible exact impl_Trie_prefixes.mono _ _)
   | (with_reducible exact l3_ _)
   | (with_reducible exact l0_ _)
   | (with_reducible refine l2_ ?_ ?_)
   | (with_reducible refine l1_ ?_ (fun _ => ?_))
   | exact ih0 _ _ _ _ _
   | exact impl_Trie_prefixes.mono _ _
   | exact l0_ _
   | refine l2_ ?_ ?_
   | refine l1_ ?_ (fun _ => ?_)
theorem impl_Trie_words.mono : ∀ a0 k, LeO (impl_Trie_words.f k a0) (impl_Trie_words.f (k + 1) a0) := by
 intro a0 k
 have ih0 := impl_Trie_words.mono_l k
 unfold impl_Trie_words.f
 repeat' first
   | (with_reducible exact ih0 _ _ _ _ _)
   | (with_reducible exact impl_Trie_prefixes.mono _ _)
   | (with_reducible exact l3_ _)
   | (with_reducible exact l0_ _)
   | (with_reducible refine l2_ ?_ ?_)
   | (with_reducible refine l1_ ?_ (fun _ => ?_))
   | exact ih0 _ _ _ _ _
   | exact impl_Trie_prefixes.mono _ _
   | exact l0_ _
   | refine l2_ ?_ ?_
   | refine l1_ ?_ (fun _ => ?_)
theorem impl_Trie_words.calls (k : Nat) (A0_0 : Option Addr) (c0_0 : Nat) (l0_0 : List (S65)) (r : List ByteArray) (w : World) (hr0_0 : Kd.C k65 w A0_0 l0_0.length l0_0) (hc0_0 : l0_0.length ≤ c0_0) (h : impl_Trie_words.f k l0_0 = some r) :
  Calls Try.prog 48 #[.agg #[.slice A0_0 l0_0.length c0_0]] w fun e w' => ∃ v0_ : Value, e = .returned (v0_) ∧ Kd.R Kd.string 9 w' w.heap.size (fun _ => True) v0_ r ∧ Below w.heap.size w w' := by
 have hu30 := Try.underlying30
 have hu65 := Try.underlying65
 have HR0_0 := aM_ hr0_0
 have HC0_0 := aM_ hc0_0
 clear hr0_0 hc0_0
 have HB := aM_ (Below.refl w.heap.size w)
 have H : ((impl_Trie_prefixes.f k l0_0).bind fun bt298 => (impl_Trie_words.l0 k bt298.1 (([] : List ByteArray)) l0_0 (l0_0.length : Int) 0)) = some r := h
 clear h
 replace H := oB_.mp H
 obtain ⟨⟨t298, t301⟩, A20, H⟩ := H
 try dsimp only at H
 have A2 := aM_ A20
 clear A20
 obtain ⟨y302, hy302⟩ : ∃ y_ : List ByteArray, y_ = (([] : List ByteArray)) := ⟨_, rfl⟩
 replace H : (impl_Trie_words.l0 k t298 y302 l0_0 (l0_0.length : Int) 0) = some r := by first | (rw [hy302]; with_reducible exact H) | (have H2_ := (Option.bind_some _ _).symm.trans H; rw [hy302]; with_reducible exact H2_) | (have H2_ := (Option.bind_some _ _).symm.trans H; with_reducible exact H2_) | with_reducible exact H | (rw [hy302]; exact H) | exact H
 have Ny302 := aM_ hy302
 clear hy302
 have H' := aM_ H
 clear H
 go_enter Try.func48, Try.ntmps48
 go_wp2_with (first | ((with_reducible refine gD_ (N := 1) rfl ?_); refine bE_ ?hg (N := 1) ?hd (cs := #[.slice A0_0 l0_0.length c0_0]) (t := 30) ?hr ?_; (case hd => rfl); (case hg => rfl); (case hr => (go_simp; done)); intro gb297 hg w3 hbox hb; have BK297 := aM_ (hbox); have GW297 := aM_ ((by rw [hg]; exact (bZ_ HB.out) : w.heap.size ≤ gb297)); have GE297 := GW297; replace HB := aM_ (bT_ HB.out hb); clear hb hbox hg; have hcz4_0 : w3.cell? ⟨gb297, 0, none⟩ = some (.slice A0_0 l0_0.length c0_0) := (bC_ BK297.out 0).trans rfl; have hfz4_0 := bF_ BK297.out 0) | ((with_reducible refine gC_ (f := 39) rfl ?_); refine goesL_ (some 10) rfl rfl Try.func39 (by kernel_rfl) rfl #[.agg #[.slice A0_0 l0_0.length c0_0]] rfl (by (try simp only [sD_, sE_, sF_]); rfl) ?_; (with_reducible refine (impl_Trie_prefixes.calls k _ _ l0_0 t298 t301 _ ?side1 ?side2 A2.out).mono ?_); (case side1 => repeat (first | exact (k4_ HR0_0.out HB.out) | (with_reducible refine Kd.C_alloc ?_ _) | (with_reducible refine Kd.C_drewN ?_ _) | (with_reducible refine Kd.C_drew ?_))); (case side2 => exact HC0_0.out); rintro e w5 ⟨v299, rfl, ho0, hb⟩; refine ⟨_, rfl, ?_⟩; have HO300 := aM_ (k5_ ho0 (bZ_ HB.out)); replace BK297 := aM_ (bB_ BK297.out hb); replace HB := aM_ (bT_ HB.out hb); (try clear hb); (try clear ho0)) | ((with_reducible refine gD_ (N := 13) rfl ?_); refine Kd.R_lit Kd.string _ 9 ?hg (N := 13) ?hd (xs := ([] : List ByteArray)) (inner := []) (ok := fun _ => True) (okp := fun _ => True) ?hr ?hp (fun _ hk => hk) trivial (Below.refl _ _) (Nat.le_refl _) (by simp) ?_; (case hd => rfl); (case hg => rfl); (case hr => (go_simp; done)); (case hp => exact (Reps.none _ _)); intro v303 w6 ho7 hb hg_ hnew_; clear hg_ hnew_; (rw [← Ny302.out] at ho7); have HO304 := aM_ (k5_ (Kd.R_new' ho7 (Kd.R_lt HO300.out)) (bZ_ HB.out)); replace HO300 := aM_ (Kd.R_elder' HO300.out (Kd.R_base ho7) hb); replace BK297 := aM_ (bB_ BK297.out hb); replace HB := aM_ (bT_ HB.out hb); clear hb ho7; have hcz8_0 : w6.cell? ⟨gb297, 0, none⟩ = some (.slice A0_0 l0_0.length c0_0) := (bC_ BK297.out 0).trans rfl; have hfz8_0 := bF_ BK297.out 0))
 go_loopg [5, 17] k (fun kq v5 v17 w' => ∃ (x5_1 : List ByteArray) (x17_1 : Int), v17 = .int .i64 x17_1 ∧ Aside0 (impl_Trie_words.l0 kq t298 x5_1 l0_0 (l0_0.length : Int) x17_1 = some r) ∧ Aside0 (kq ≤ k) ∧ Aside0 (Kd.R Kd.string 9 w' w.heap.size (fun k_ => some k_ ≠ (v5 : Value).ownBlock) v299 t298) ∧ Aside0 (Kd.R Kd.string 9 w' w.heap.size (fun k_ => some k_ ≠ (v299 : Value).ownBlock) v5 x5_1) ∧ Aside0 (w'.heap[gb297]? = some (.cells #[(.slice A0_0 l0_0.length c0_0)] 30 (0, 0))) ∧ Aside0 (Below w.heap.size w w'))
 case atStart => exact ⟨(y302), (0), (by rfl), H', ⟨Nat.le_refl _⟩, ⟨by exact kM_ HO300.out (fun _ hk => hk.2)⟩, ⟨by exact kM_ HO304.out (fun _ hk => hk.2)⟩, ⟨BK297.out⟩, ⟨HB.out⟩⟩
 case round =>
  clear H'
  try clear p2
  try clear hcz4_0
  try clear hcz8_0
  try clear hfz4_0
  try clear hfz8_0
  obtain ⟨x5_1, x17_1, rfl, HA, HK1, HO_3, HO_5, BK297, HB⟩ := hrel
  cases gk with
  | zero => exact absurd HA.out (by simp [impl_Trie_words.l0])
  | succ k1 =>
   have H := HA.out
   clear HA
   simp only [impl_Trie_words.l0] at H
   by_cases c9 : x17_1 < (l0_0.length : Int)
   ·
    rw [if_pos c9] at H
    have c9b0 := decide_eq_true c9
    clear c9
    by_cases c10 : 0 ≤ x17_1
    ·
     rw [if_pos c10] at H
     have c10b0 := decide_eq_true c10
     clear c10
     by_cases c11 : x17_1 < (l0_0.length : Int)
     ·
      rw [if_pos c11] at H
      have c11b0 := decide_eq_true c11
      clear c11
      obtain ⟨bq12, hbq12⟩ : ∃ b_ : Bool, b_ = ((rd_T65 l0_0 x17_1).f2) := ⟨_, rfl⟩
      replace H : (if bq12 = true then (if x17_1 < (t298.length : Int) then (if x5_1.length < 8796093022208 then (impl_Trie_words.l0 k1 t298 (x5_1 ++ [rdOf eB_ t298 x17_1]) l0_0 (l0_0.length : Int) (wrap64 (x17_1 + 1))) else (none)) else (none)) else (impl_Trie_words.l0 k1 t298 x5_1 l0_0 (l0_0.length : Int) (wrap64 (x17_1 + 1)))) = some r := by rw [← hbq12] at H; exact H
      have Nbq12 := aM_ hbq12
      clear hbq12
      by_cases c13 : bq12 = true
      ·
       subst c13
       rw [if_pos rfl] at H
       by_cases c14 : x17_1 < (t298.length : Int)
       ·
        rw [if_pos c14] at H
        have c14b0 := decide_eq_true c14
        clear c14
        by_cases c15 : x5_1.length < 8796093022208
        ·
         rw [if_pos c15] at H
         have LMc15 := aM_ c15
         clear c15
         obtain ⟨y308, hy308⟩ : ∃ y_ : List ByteArray, y_ = (x5_1 ++ [rdOf eB_ t298 x17_1]) := ⟨_, rfl⟩
         replace H : (impl_Trie_words.l0 k1 t298 y308 l0_0 (l0_0.length : Int) (wrap64 (x17_1 + 1))) = some r := by first | (rw [hy308]; with_reducible exact H) | (have H2_ := (Option.bind_some _ _).symm.trans H; rw [hy308]; with_reducible exact H2_) | (have H2_ := (Option.bind_some _ _).symm.trans H; with_reducible exact H2_) | with_reducible exact H | (rw [hy308]; exact H) | exact H
         have Ny308 := aM_ hy308
         clear hy308
         have H' := aM_ H
         clear H
         have p305 : 0 ≤ (x17_1 : Int) := of_decide_eq_true (by (with_reducible assumption))
         have q305 : x17_1 < (l0_0.length : Int) := of_decide_eq_true (by (with_reducible assumption))
         obtain ⟨ad305, e305, hx305_0, hx305_1, hx305_2⟩ := at_T65 HR0_0.out x17_1 p305 q305
         (try rw [← Nbq12.out] at hx305_2)
         cases e305
         replace hx305_0 := (HB.out.cell (wB_ w _ hx305_0)).trans hx305_0
         replace hx305_1 := (HB.out.cell (wB_ w _ hx305_1)).trans hx305_1
         replace hx305_2 := (HB.out.cell (wB_ w _ hx305_2)).trans hx305_2
         replace p305 := eq_true p305
         replace q305 := eq_true q305
         go_wp2_with (first | ((with_reducible refine gD_ (N := 7) rfl ?_); refine bE_ ?hg (N := 7) ?hd (cs := #[.int .i64 0, .int .i64 0, .bool false]) (t := 65) ?hr ?_; (case hd => rfl); (case hg => rfl); (case hr => (go_simp; done)); intro gb306 hg w16 hbox hb; replace HO_3 := aM_ (kB_ HO_3.out hb); replace HO_5 := aM_ (kB_ HO_5.out hb); have BK306 := aM_ (hbox); have GW306 := aM_ ((by rw [hg]; exact (bZ_ HB.out) : w.heap.size ≤ gb306)); have GE306 := GW306; replace HB := aM_ (bT_ HB.out hb); have NB297_306 := aM_ ((by rw [hg]; exact Nat.ne_of_lt (bL_ BK297.out) : gb297 ≠ gb306)); have NB306_297 := aM_ NB297_306.out.symm; replace BK297 := aM_ (bB_ BK297.out hb); clear hb hbox hg; have hnb17 := NB306_297.out; have hnc17 := NB297_306.out; have hcz18_0 : w16.cell? ⟨gb306, 0, none⟩ = some (.int .i64 0) := (bC_ BK306.out 0).trans rfl; have hcz18_1 : w16.cell? ⟨gb306, 1, none⟩ = some (.int .i64 0) := (bC_ BK306.out 1).trans rfl; have hcz18_2 : w16.cell? ⟨gb306, 2, none⟩ = some (.bool false) := (bC_ BK306.out 2).trans rfl; have hfz18_0 := bF_ BK306.out 0; have hfz18_1 := bF_ BK306.out 1; have hfz18_2 := bF_ BK306.out 2; obtain ⟨Ao19, co19, eo19⟩ := kS_ HO_3.out; subst eo19; have p307 : 0 ≤ (x17_1 : Int) := of_decide_eq_true (by (with_reducible assumption)); have q307 : x17_1 < (t298.length : Int) := of_decide_eq_true (by (with_reducible assumption)); obtain ⟨ad307, e307, hx307_0⟩ := Kd.at_string (kR_ HO_3.out).2.2 x17_1 p307 q307; cases e307; have hn307_0 : ad307.block ≠ gb306 := k7_ (k6_ HO_3.out BK306.out (by decide)); have hn307_1 : ad307.block ≠ gb306 := k7_ (k6_ HO_3.out BK306.out (by decide)); have hn307_2 : ad307.block ≠ gb306 := k7_ (k6_ HO_3.out BK306.out (by decide)); replace hx307_0 := (cF_ (p := ⟨gb306, 0, none⟩) (by (rw [add_block]; exact hn307_0)) (.int .i64 ((rd_T65 l0_0 x17_1).f0))).trans hx307_0; replace hx307_0 := (cF_ (p := ⟨gb306, 1, none⟩) (by (rw [add_block]; exact hn307_1)) (.int .i64 ((rd_T65 l0_0 x17_1).f1))).trans hx307_0; replace hx307_0 := (cF_ (p := ⟨gb306, 2, none⟩) (by (rw [add_block]; exact hn307_2)) (.bool true)).trans hx307_0; clear hn307_0; clear hn307_1; clear hn307_2; replace p307 := eq_true p307; replace q307 := eq_true q307) | ((with_reducible refine gate_builtin (b := .append) (xs := #[.tmp 24, .tmp 29]) rfl ?_); at_builtin; refine Kd.R_append Kd.string (w0 := w) w.heap.size rfl (.tmp 24) (.tmp 29) 50 9 (.string ⟨#[]⟩) 16 rfl Try.underlying50 info9 rfl (by decide) (by omega) u5 x5_1 (rdOf eB_ t298 x17_1) [.string (rdOf eB_ t298 x17_1)] (fun k_ => some k_ ≠ (.slice (some ad307) t298.length co19 : Value).ownBlock) (fun _ => False) rfl (by (go_simp; done)) ?aP (fun _ hk => hk.elim) ?aF ?aO ?aB ?aS ?aL ?_; (case aP => exact rfl); (case aB => exact (by repeat (first | (with_reducible first | exact HB.out | apply bA_ | apply bN_ | apply bD_ | refine bS_ ?_ GE297.out | refine bS_ ?_ GE306.out) | exact HB.out))); (case aF => exact (fun k_ hk => Kd.fresh' (Kd.R_lt (by exact (kM_ (kF_ (p := ⟨gb306, 2, none⟩) (kF_ (p := ⟨gb306, 1, none⟩) (kF_ (p := ⟨gb306, 0, none⟩) (kT_ HO_3.out BK306.out (by decide)) (fun _ hk => hk.2) (.int .i64 ((rd_T65 l0_0 x17_1).f0))) (fun _ hk => hk.2) (.int .i64 ((rd_T65 l0_0 x17_1).f1))) (fun _ hk => hk.2) (.bool true)) (fun _ h_ => h_.1)))) k_ hk)); (case aO => exact (by exact kM_ (kF_ (p := ⟨gb306, 2, none⟩) (kF_ (p := ⟨gb306, 1, none⟩) (kF_ (p := ⟨gb306, 0, none⟩) (kT_ HO_5.out BK306.out (by decide)) (fun _ hk => hk.2) (.int .i64 ((rd_T65 l0_0 x17_1).f0))) (fun _ hk => hk.2) (.int .i64 ((rd_T65 l0_0 x17_1).f1))) (fun _ hk => hk.2) (.bool true)) (fun _ hk => hk.1))); (case aS => exact (bZ_ (by repeat (first | (with_reducible first | exact HB.out | apply bA_ | apply bN_ | apply bD_ | refine bS_ ?_ GE297.out | refine bS_ ?_ GE306.out) | exact HB.out)))); (case aL => have := LMc15.out; omega); intro v309 w20 ho hb hg hat; rw [← Ny308.out] at ho; have n0_ := aM_ (Kd.R_after (ok := (fun _ => True)) (by exact kM_ (kF_ (p := ⟨gb306, 2, none⟩) (kF_ (p := ⟨gb306, 1, none⟩) (kF_ (p := ⟨gb306, 0, none⟩) (kT_ HO_3.out BK306.out (by decide)) (fun _ hk => hk.2) (.int .i64 ((rd_T65 l0_0 x17_1).f0))) (fun _ hk => hk.2) (.int .i64 ((rd_T65 l0_0 x17_1).f1))) (fun _ hk => hk.2) (.bool true)) (fun _ hk => ⟨trivial, hk.1⟩)) hg hat); have n1_ := aM_ (blk_grown (g := gb297) (o := .cells #[.slice (some ad305) l0_0.length c0_0] 30 (0, 0)) (by refine bR_ ?_ NB297_306.out _; refine bR_ ?_ NB297_306.out _; refine bR_ ?_ NB297_306.out _; exact BK297.out) hg (k6_ HO_5.out BK297.out (by decide))); have n2_ := aM_ (blk_grown (g := gb306) (o := .cells #[.int .i64 ((rd_T65 l0_0 x17_1).f0), .int .i64 ((rd_T65 l0_0 x17_1).f1), .bool true] 65 (0, 0)) (by refine bP_ (cs := #[.int .i64 ((rd_T65 l0_0 x17_1).f0), .int .i64 ((rd_T65 l0_0 x17_1).f1), .bool false]) ?_ 2 _ rfl; refine bP_ (cs := #[.int .i64 ((rd_T65 l0_0 x17_1).f0), .int .i64 0, .bool false]) ?_ 1 _ rfl; refine bP_ (cs := #[.int .i64 0, .int .i64 0, .bool false]) ?_ 0 _ rfl; exact BK306.out) hg (k6_ HO_5.out BK306.out (by decide))); have n3_ := aM_ (hb); have n4_ := aM_ (ho); clear HO_3; clear BK297; clear BK306; clear HB; clear HO_5; have HO_3 := n0_; have BK297 := n1_; have BK306 := n2_; have HB := n3_; have HO310 := n4_; clear n0_ n1_ n2_ n3_ n4_; clear ho hb hg hat))
         go_roundg k1
         case measure => have := HK1.out; omega
         case rel => exact ⟨(y308), (wrap64 (x17_1 + 1)), (by rfl), H', ⟨by have := HK1.out; omega⟩, ⟨by exact kM_ HO_3.out (fun _ hk => hk.2)⟩, ⟨HO310.out⟩, ⟨BK297.out⟩, ⟨HB.out⟩⟩
        ·
         rw [if_neg c15] at H
         exact absurd H (by simp)
       ·
        rw [if_neg c14] at H
        exact absurd H (by simp)
      ·
       replace c13 := Bool.eq_false_iff.mpr c13
       subst c13
       have H1 : (impl_Trie_words.l0 k1 t298 x5_1 l0_0 (l0_0.length : Int) (wrap64 (x17_1 + 1))) = some r := by rw [if_neg (show ¬ (false = true) by decide)] at H; exact H
       clear H
       have H := H1
       clear H1
       have H' := aM_ H
       clear H
       have p305 : 0 ≤ (x17_1 : Int) := of_decide_eq_true (by (with_reducible assumption))
       have q305 : x17_1 < (l0_0.length : Int) := of_decide_eq_true (by (with_reducible assumption))
       obtain ⟨ad305, e305, hx305_0, hx305_1, hx305_2⟩ := at_T65 HR0_0.out x17_1 p305 q305
       (try rw [← Nbq12.out] at hx305_2)
       cases e305
       replace hx305_0 := (HB.out.cell (wB_ w _ hx305_0)).trans hx305_0
       replace hx305_1 := (HB.out.cell (wB_ w _ hx305_1)).trans hx305_1
       replace hx305_2 := (HB.out.cell (wB_ w _ hx305_2)).trans hx305_2
       replace p305 := eq_true p305
       replace q305 := eq_true q305
       go_wp2_with (first | ((with_reducible refine gD_ (N := 7) rfl ?_); refine bE_ ?hg (N := 7) ?hd (cs := #[.int .i64 0, .int .i64 0, .bool false]) (t := 65) ?hr ?_; (case hd => rfl); (case hg => rfl); (case hr => (go_simp; done)); intro gb306 hg w21 hbox hb; replace HO_3 := aM_ (kB_ HO_3.out hb); replace HO_5 := aM_ (kB_ HO_5.out hb); have BK306 := aM_ (hbox); have GW306 := aM_ ((by rw [hg]; exact (bZ_ HB.out) : w.heap.size ≤ gb306)); have GE306 := GW306; replace HB := aM_ (bT_ HB.out hb); have NB297_306 := aM_ ((by rw [hg]; exact Nat.ne_of_lt (bL_ BK297.out) : gb297 ≠ gb306)); have NB306_297 := aM_ NB297_306.out.symm; replace BK297 := aM_ (bB_ BK297.out hb); clear hb hbox hg; have hnb22 := NB306_297.out; have hnc22 := NB297_306.out; have hcz23_0 : w21.cell? ⟨gb306, 0, none⟩ = some (.int .i64 0) := (bC_ BK306.out 0).trans rfl; have hcz23_1 : w21.cell? ⟨gb306, 1, none⟩ = some (.int .i64 0) := (bC_ BK306.out 1).trans rfl; have hcz23_2 : w21.cell? ⟨gb306, 2, none⟩ = some (.bool false) := (bC_ BK306.out 2).trans rfl; have hfz23_0 := bF_ BK306.out 0; have hfz23_1 := bF_ BK306.out 1; have hfz23_2 := bF_ BK306.out 2))
       go_roundg k1
       case measure => have := HK1.out; omega
       case rel => exact ⟨(x5_1), (wrap64 (x17_1 + 1)), (by rfl), H', ⟨by have := HK1.out; omega⟩, ⟨by exact kM_ (kF_ (p := ⟨gb306, 2, none⟩) (kF_ (p := ⟨gb306, 1, none⟩) (kF_ (p := ⟨gb306, 0, none⟩) (kT_ HO_3.out BK306.out (by decide)) (fun _ hk => hk.2) (.int .i64 ((rd_T65 l0_0 x17_1).f0))) (fun _ hk => hk.2) (.int .i64 ((rd_T65 l0_0 x17_1).f1))) (fun _ hk => hk.2) (.bool false)) (fun _ hk => hk.1)⟩, ⟨by exact kM_ (kF_ (p := ⟨gb306, 2, none⟩) (kF_ (p := ⟨gb306, 1, none⟩) (kF_ (p := ⟨gb306, 0, none⟩) (kT_ HO_5.out BK306.out (by decide)) (fun _ hk => hk.2) (.int .i64 ((rd_T65 l0_0 x17_1).f0))) (fun _ hk => hk.2) (.int .i64 ((rd_T65 l0_0 x17_1).f1))) (fun _ hk => hk.2) (.bool false)) (fun _ hk => hk.1)⟩, ⟨by refine bR_ ?_ NB297_306.out _; refine bR_ ?_ NB297_306.out _; refine bR_ ?_ NB297_306.out _; exact BK297.out⟩, ⟨by repeat (first | (with_reducible first | exact HB.out | apply bA_ | apply bN_ | apply bD_ | refine bS_ ?_ GE297.out | refine bS_ ?_ GE306.out) | exact HB.out)⟩⟩
     ·
      rw [if_neg c11] at H
      exact absurd H (by simp)
    ·
     rw [if_neg c10] at H
     exact absurd H (by simp)
   ·
    rw [if_neg c9] at H
    have c9b0 := decide_eq_false c9
    clear c9
    obtain rfl := Option.some.inj H
    go_wp2
    go_ret
    exact ⟨_, by rfl, by exact kM_ HO_5.out (fun _ hk => trivial), by exact HB.out⟩
def cmp_isNaN_string.f (a0 : ByteArray) : Option (Bool) := some (a0.toList != a0.toList)
theorem cmp_isNaN_string.calls (a0 : ByteArray) (r : Bool) (w : World) (h : cmp_isNaN_string.f a0 = some r) :
  Calls Try.prog 73 #[.string a0] w fun e w' => e = .returned (.bool r) ∧ Drawn0 w w' := by
 have H : (some (a0.toList != a0.toList)) = some r := h
 clear h
 obtain rfl := Option.some.inj H
 go_enter Try.func73, Try.ntmps73
 go_wp2
 go_ret
 exact ⟨by rfl, by repeat (first | exact Drawn0.refl _ | apply Drawn0.step)⟩
def cmp_Less_string.f (a0 : ByteArray) (a1 : ByteArray) : Option (Bool) := (cmp_isNaN_string.f a0).bind fun t311 => (if t311 = true then ((cmp_isNaN_string.f a1).bind fun t312 => (if t312 = true then (some (Op.bytesLess a0.toList a1.toList)) else (some true))) else (some (Op.bytesLess a0.toList a1.toList)))
theorem cmp_Less_string.calls (a0 : ByteArray) (a1 : ByteArray) (r : Bool) (w : World) (h : cmp_Less_string.f a0 a1 = some r) :
  Calls Try.prog 64 #[.string a0, .string a1] w fun e w' => e = .returned (.bool r) ∧ Drawn0 w w' := by
 have H : ((cmp_isNaN_string.f a0).bind fun t311 => (if t311 = true then ((cmp_isNaN_string.f a1).bind fun t312 => (if t312 = true then (some (Op.bytesLess a0.toList a1.toList)) else (some true))) else (some (Op.bytesLess a0.toList a1.toList)))) = some r := h
 clear h
 replace H := oB_.mp H
 obtain ⟨t311, A30, H⟩ := H
 try dsimp only at H
 have A3 := aM_ A30
 clear A30
 by_cases c4 : t311 = true
 ·
  subst c4
  rw [if_pos rfl] at H
  replace H := oB_.mp H
  obtain ⟨t312, A50, H⟩ := H
  try dsimp only at H
  have A5 := aM_ A50
  clear A50
  by_cases c6 : t312 = true
  ·
   subst c6
   rw [if_pos rfl] at H
   obtain rfl := Option.some.inj H
   go_enter Try.func64, Try.ntmps64
   go_wp2_with (first | ((with_reducible refine gC_ (f := 73) rfl ?_); refine goesL_ (some 6) rfl rfl Try.func73 (by kernel_rfl) rfl #[.string a0] rfl (by (try simp only [sD_, sE_, sF_]); rfl) ?_; (with_reducible refine (cmp_isNaN_string.calls a0 true _ A3.out).mono ?_); rintro e w' ⟨rfl, ⟨nd, rfl⟩⟩; refine ⟨_, rfl, ?_⟩) | (go_at_call 73; (with_reducible refine (cmp_isNaN_string.calls a1 true _ A5.out).mono ?_); rintro e w' ⟨rfl, ⟨nd, rfl⟩⟩))
   go_ret
   exact ⟨by rfl, by repeat (first | exact Drawn0.refl _ | apply Drawn0.step)⟩
  ·
   replace c6 := Bool.eq_false_iff.mpr c6
   subst c6
   have H1 : (some true) = some r := by rw [if_neg (show ¬ (false = true) by decide)] at H; exact H
   clear H
   have H := H1
   clear H1
   obtain rfl := Option.some.inj H
   go_enter Try.func64, Try.ntmps64
   go_wp2_with (first | ((with_reducible refine gC_ (f := 73) rfl ?_); refine goesL_ (some 6) rfl rfl Try.func73 (by kernel_rfl) rfl #[.string a0] rfl (by (try simp only [sD_, sE_, sF_]); rfl) ?_; (with_reducible refine (cmp_isNaN_string.calls a0 true _ A3.out).mono ?_); rintro e w' ⟨rfl, ⟨nd, rfl⟩⟩; refine ⟨_, rfl, ?_⟩) | (go_at_call 73; (with_reducible refine (cmp_isNaN_string.calls a1 false _ A5.out).mono ?_); rintro e w' ⟨rfl, ⟨nd, rfl⟩⟩))
   go_ret
   exact ⟨by rfl, by repeat (first | exact Drawn0.refl _ | apply Drawn0.step)⟩
 ·
  replace c4 := Bool.eq_false_iff.mpr c4
  subst c4
  have H1 : (some (Op.bytesLess a0.toList a1.toList)) = some r := by rw [if_neg (show ¬ (false = true) by decide)] at H; exact H
  clear H
  have H := H1
  clear H1
  obtain rfl := Option.some.inj H
  go_enter Try.func64, Try.ntmps64
  go_wp2_with (first | ((with_reducible refine gC_ (f := 73) rfl ?_); refine goesL_ (some 6) rfl rfl Try.func73 (by kernel_rfl) rfl #[.string a0] rfl (by (try simp only [sD_, sE_, sF_]); rfl) ?_; (with_reducible refine (cmp_isNaN_string.calls a0 false _ A3.out).mono ?_); rintro e w' ⟨rfl, ⟨nd, rfl⟩⟩; refine ⟨_, rfl, ?_⟩))
  go_ret
  exact ⟨by rfl, by repeat (first | exact Drawn0.refl _ | apply Drawn0.step)⟩
def slices_IsSorted_string_string.l0 : Nat → List ByteArray → Int → Option (Bool)
 | 0, _, _ => none
 | k + 1, x0, x3 => if x3 > 0 then (if 0 ≤ x3 then (if x3 < (x0.length : Int) then (if 0 ≤ (wrap64 (x3 - 1)) then (if (wrap64 (x3 - 1)) < (x0.length : Int) then ((cmp_Less_string.f (rdOf eB_ x0 x3) (rdOf eB_ x0 (wrap64 (x3 - 1)))).bind fun t315 => (if t315 = true then (some false) else (slices_IsSorted_string_string.l0 k x0 (wrap64 (x3 - 1))))) else (none)) else (none)) else (none)) else (none)) else (some true)
def slices_IsSorted_string_string.f (k : Nat) (l0 : List ByteArray) : Option (Bool) := slices_IsSorted_string_string.l0 k l0 (wrap64 ((l0.length : Int) - 1))
theorem slices_IsSorted_string_string.mono_l : ∀ k, (∀ y0 y1, LeO (slices_IsSorted_string_string.l0 k y0 y1) (slices_IsSorted_string_string.l0 (k + 1) y0 y1))
 | 0 => fun _ _ r h => by simp [slices_IsSorted_string_string.l0] at h
 | k + 1 => by
  have ih0 := slices_IsSorted_string_string.mono_l k
  ·
   intro y0 y1
   unfold slices_IsSorted_string_string.l0
   repeat' first
   | (with_reducible exact ih0 _ _)
   | (with_reducible exact l3_ _)
   | (with_reducible exact l0_ _)
   | (with_reducible refine l2_ ?_ ?_)
   | (with_reducible refine l1_ ?_ (fun _ => ?_))
   | exact ih0 _ _
   | exact l0_ _
   | refine l2_ ?_ ?_
   | refine l1_ ?_ (fun _ => ?_)
theorem slices_IsSorted_string_string.mono : ∀ a0 k, LeO (slices_IsSorted_string_string.f k a0) (slices_IsSorted_string_string.f (k + 1) a0) := by
 intro a0 k
 have ih0 := slices_IsSorted_string_string.mono_l k
 unfold slices_IsSorted_string_string.f
 repeat' first
   | (with_reducible exact ih0 _ _)
   | (with_reducible exact l3_ _)
   | (with_reducible exact l0_ _)
   | (with_reducible refine l2_ ?_ ?_)
   | (with_reducible refine l1_ ?_ (fun _ => ?_))
   | exact ih0 _ _
   | exact l0_ _
   | refine l2_ ?_ ?_
   | refine l1_ ?_ (fun _ => ?_)
theorem slices_IsSorted_string_string.calls (k : Nat) (A0 : Option Addr) (c0 : Nat) (l0 : List ByteArray) (r : Bool) (w : World) (hr0 : Kd.C Kd.string w A0 l0.length l0) (hc0 : l0.length ≤ c0) (h : slices_IsSorted_string_string.f k l0 = some r) :
  Calls Try.prog 49 #[.slice A0 l0.length c0] w fun e w' => e = .returned (.bool r) ∧ Drawn0 w w' := by
 have HR0 := aM_ hr0
 have HC0 := aM_ hc0
 clear hr0 hc0
 have H : (slices_IsSorted_string_string.l0 k l0 (wrap64 ((l0.length : Int) - 1))) = some r := h
 clear h
 have H' := aM_ H
 clear H
 go_enter Try.func49, Try.ntmps49
 go_wp2
 repeat (go_quiet (fail); try go_wp2)
 go_loopg [3] k (fun kq v3 w' => ∃ (x3_1 : Int), v3 = .int .i64 x3_1 ∧ Aside0 (slices_IsSorted_string_string.l0 kq l0 x3_1 = some r) ∧ Aside0 (kq ≤ k) ∧ Drawn0 w w')
 case atStart => exact ⟨(wrap64 ((l0.length : Int) - 1)), (by rfl), H', ⟨Nat.le_refl _⟩, by repeat (first | exact Drawn0.refl _ | apply Drawn0.step)⟩
 case round =>
  clear H'
  obtain ⟨x3_1, rfl, HA, HK1, ⟨m1, rfl⟩⟩ := hrel
  cases gk with
  | zero => exact absurd HA.out (by simp [slices_IsSorted_string_string.l0])
  | succ k1 =>
   have H := HA.out
   clear HA
   simp only [slices_IsSorted_string_string.l0] at H
   by_cases c2 : x3_1 > 0
   ·
    rw [if_pos c2] at H
    have c2b0 := decide_eq_true c2
    clear c2
    by_cases c3 : 0 ≤ x3_1
    ·
     rw [if_pos c3] at H
     have c3b0 := decide_eq_true c3
     clear c3
     by_cases c4 : x3_1 < (l0.length : Int)
     ·
      rw [if_pos c4] at H
      have c4b0 := decide_eq_true c4
      clear c4
      obtain ⟨ji5, hji5⟩ : ∃ j_ : Int, (wrap64 (x3_1 - 1)) = j_ := ⟨_, rfl⟩
      replace H : (if 0 ≤ (ji5) then (if (ji5) < (l0.length : Int) then ((cmp_Less_string.f (rdOf eB_ l0 x3_1) (rdOf eB_ l0 (ji5))).bind fun t315 => (if t315 = true then (some false) else (slices_IsSorted_string_string.l0 k1 l0 ji5))) else (none)) else (none)) = some r := by first | (rw [hji5] at H; exact H) | (simp only [hji5] at H ⊢; exact H)
      have hji5w : (IntKind.i64.wrap (x3_1 - 1)) = ji5 := (i6_ _).trans hji5
      by_cases c6 : 0 ≤ (ji5)
      ·
       rw [if_pos c6] at H
       have c6b0 := decide_eq_true c6
       clear c6
       by_cases c7 : (ji5) < (l0.length : Int)
       ·
        rw [if_pos c7] at H
        have c7b0 := decide_eq_true c7
        clear c7
        replace H := oB_.mp H
        obtain ⟨t315, A80, H⟩ := H
        try dsimp only at H
        have A8 := aM_ A80
        clear A80
        by_cases c9 : t315 = true
        ·
         subst c9
         rw [if_pos rfl] at H
         obtain rfl := Option.some.inj H
         have p313 : 0 ≤ (x3_1 : Int) := of_decide_eq_true (by (with_reducible assumption))
         have q313 : x3_1 < (l0.length : Int) := of_decide_eq_true (by (with_reducible assumption))
         obtain ⟨ad313, e313, hx313_0⟩ := Kd.at_string HR0.out x3_1 p313 q313
         cases e313
         replace p313 := eq_true p313
         replace q313 := eq_true q313
         have p314 : 0 ≤ ((ji5) : Int) := of_decide_eq_true (by (with_reducible assumption))
         have q314 : (ji5) < (l0.length : Int) := of_decide_eq_true (by (with_reducible assumption))
         obtain ⟨ad314, e314, hx314_0⟩ := Kd.at_string HR0.out (ji5) p314 q314
         obtain rfl : ad313 = ad314 := (by injection e314)
         replace p314 := eq_true p314
         replace q314 := eq_true q314
         go_wp2_with (first | (go_at_call 64; (with_reducible refine (cmp_Less_string.calls (rdOf eB_ l0 x3_1) (rdOf eB_ l0 (ji5)) true _ A8.out).mono ?_); rintro e w' ⟨rfl, ⟨nd, rfl⟩⟩; (try first | exact ⟨rfl, _, World.drewN_drewN _ _ _⟩ | exact ⟨rfl, _, Eq.trans (World.drewN_drewN _ _ _) (congrArg (World.drewN _) (Nat.add_assoc _ _ _))⟩)))
         repeat (go_quiet (first | (go_at_call 64; (with_reducible refine (cmp_Less_string.calls (rdOf eB_ l0 x3_1) (rdOf eB_ l0 (ji5)) true _ A8.out).mono ?_); rintro e w' ⟨rfl, ⟨nd, rfl⟩⟩; (try exact ⟨rfl, _, Eq.trans (World.drewN_drewN _ _ _) (congrArg (World.drewN _) (Nat.add_assoc _ _ _))⟩))); try go_wp2_with (first | (go_at_call 64; (with_reducible refine (cmp_Less_string.calls (rdOf eB_ l0 x3_1) (rdOf eB_ l0 (ji5)) true _ A8.out).mono ?_); rintro e w' ⟨rfl, ⟨nd, rfl⟩⟩; (try first | exact ⟨rfl, _, World.drewN_drewN _ _ _⟩ | exact ⟨rfl, _, Eq.trans (World.drewN_drewN _ _ _) (congrArg (World.drewN _) (Nat.add_assoc _ _ _))⟩))))
         go_ret
         exact ⟨by rfl, by repeat (first | exact Drawn0.refl _ | apply Drawn0.step)⟩
        ·
         replace c9 := Bool.eq_false_iff.mpr c9
         subst c9
         have H1 : (slices_IsSorted_string_string.l0 k1 l0 ji5) = some r := by rw [if_neg (show ¬ (false = true) by decide)] at H; exact H
         clear H
         have H := H1
         clear H1
         have H' := aM_ H
         clear H
         have p313 : 0 ≤ (x3_1 : Int) := of_decide_eq_true (by (with_reducible assumption))
         have q313 : x3_1 < (l0.length : Int) := of_decide_eq_true (by (with_reducible assumption))
         obtain ⟨ad313, e313, hx313_0⟩ := Kd.at_string HR0.out x3_1 p313 q313
         cases e313
         replace p313 := eq_true p313
         replace q313 := eq_true q313
         have p314 : 0 ≤ ((ji5) : Int) := of_decide_eq_true (by (with_reducible assumption))
         have q314 : (ji5) < (l0.length : Int) := of_decide_eq_true (by (with_reducible assumption))
         obtain ⟨ad314, e314, hx314_0⟩ := Kd.at_string HR0.out (ji5) p314 q314
         obtain rfl : ad313 = ad314 := (by injection e314)
         replace p314 := eq_true p314
         replace q314 := eq_true q314
         go_wp2_with (first | (go_at_call 64; (with_reducible refine (cmp_Less_string.calls (rdOf eB_ l0 x3_1) (rdOf eB_ l0 (ji5)) false _ A8.out).mono ?_); rintro e w' ⟨rfl, ⟨nd, rfl⟩⟩; (try first | exact ⟨rfl, _, World.drewN_drewN _ _ _⟩ | exact ⟨rfl, _, Eq.trans (World.drewN_drewN _ _ _) (congrArg (World.drewN _) (Nat.add_assoc _ _ _))⟩)))
         repeat (go_quiet (first | (go_at_call 64; (with_reducible refine (cmp_Less_string.calls (rdOf eB_ l0 x3_1) (rdOf eB_ l0 (ji5)) false _ A8.out).mono ?_); rintro e w' ⟨rfl, ⟨nd, rfl⟩⟩; (try exact ⟨rfl, _, Eq.trans (World.drewN_drewN _ _ _) (congrArg (World.drewN _) (Nat.add_assoc _ _ _))⟩))); try go_wp2_with (first | (go_at_call 64; (with_reducible refine (cmp_Less_string.calls (rdOf eB_ l0 x3_1) (rdOf eB_ l0 (ji5)) false _ A8.out).mono ?_); rintro e w' ⟨rfl, ⟨nd, rfl⟩⟩; (try first | exact ⟨rfl, _, World.drewN_drewN _ _ _⟩ | exact ⟨rfl, _, Eq.trans (World.drewN_drewN _ _ _) (congrArg (World.drewN _) (Nat.add_assoc _ _ _))⟩))))
         go_roundg k1
         case measure => have := HK1.out; omega
         case rel => exact ⟨(ji5), (by rfl), H', ⟨by have := HK1.out; omega⟩, by repeat (first | exact Drawn0.refl _ | apply Drawn0.step)⟩
       ·
        rw [if_neg c7] at H
        exact absurd H (by simp)
      ·
       rw [if_neg c6] at H
       exact absurd H (by simp)
     ·
      rw [if_neg c4] at H
      exact absurd H (by simp)
    ·
     rw [if_neg c3] at H
     exact absurd H (by simp)
   ·
    rw [if_neg c2] at H
    have c2b0 := decide_eq_false c2
    clear c2
    obtain rfl := Option.some.inj H
    go_wp2
    repeat (go_quiet (fail); try go_wp2)
    go_ret
    exact ⟨by rfl, by repeat (first | exact Drawn0.refl _ | apply Drawn0.step)⟩
end Go.Proofs.Ytnnkedeohfbkeaa.P
namespace Go.Proofs.Ytnnkedeohfbkeaa.P
open Go.RowKit Go.Proofs.YtnnkedeohfbkeaaW.PrintWords Go.Proofs.YtnnkedeohfbkeaaW.PrintLast Go.Proofs.YtnnkedeohfbkeaaW.PrintMore
open Go.Proofs.YtnnkedeohfbkeaaW.PrintWords renaming blk_frozen → bF_, blk_cell → bC_, below_set → bS_, blk_below → bB_, below_step → bT_, pw_below_drewN → bN_, below_size → bZ_, below_drew1 → bD_, below_alloc → bA_, blk_far → bR_, gate_callee → gC_, gate_dst → gD_, box_event → bE_, blk_drew → b1_, blk_put → bP_, blk_drewN → b2_, blk_alloc → b3_, blk_lt → bL_, cell_far → cF_
open Go.Proofs.YtnnkedeohfbkeaaW.PrintLast renaming any_of → aO_, i64_w → i6_, i32_w → i3_, take_ofW → tW_
open Go.Proofs.YtnnkedeohfbkeaaW.PrintWords.Kd renaming R_below → kB_, R_mono → kM_, R_far → kF_, R_reads' → kR_, R_types → kT_, R_slice → kS_, R_celln → kC_, R_alloc → k1_, R_drewN → k2_, R_drew → k3_, C_below → k4_, R_lower → k5_, R_ne → k6_, own_blk → k7_
open Go.Proofs.YtnnkedeohfbkeaaW.PrintWords.LeO renaming none → l0_, bind → l1_, ite → l2_, refl → l3_
open World renaming block_lt_of_cell? → wB_
open _root_.Option renaming bind_eq_some_iff → oB_
open _root_.ByteArray renaming empty → eB_
open List renaming setIfInBounds_toArray → sA_, set_cons_zero → sB_, set_cons_succ → sC_, map_toArray → sD_, map_cons → sE_, map_nil → sF_, length_drop → sG_, length_take → sH_
open Bool renaming true → ty, false → fy
open Aside0 renaming mk → aM_
attribute [local go_sem] max2_int min2_int max_two min_two max_three min_three max_four min_four
attribute [local go_sem high] eqA65
def impl_Node.l0 : Nat → List (S65) → List (S65) → Int → Int → Option (Bool)
 | 0, _, _, _, _ => none
 | k + 1, x0, x1, x12, x13 => if x13 < x12 then (if 0 ≤ x13 then (if x13 < (x0.length : Int) then (if x13 < (x1.length : Int) then (if (!(((rd_T65 x0 x13).f0) == ((rd_T65 x1 x13).f0)) || (!(((rd_T65 x0 x13).f1) == ((rd_T65 x1 x13).f1)) || (!(((rd_T65 x0 x13).f2) == ((rd_T65 x1 x13).f2))))) = true then (some false) else (impl_Node.l0 k x0 x1 x12 (wrap64 (x13 + 1)))) else (none)) else (none)) else (none)) else (some true)
def impl_Node.f (k : Nat) (l0 : List (S65)) (l1 : List (S65)) : Option (Bool) := if (l0.length : Int) = (l1.length : Int) then (impl_Node.l0 k l0 l1 (l0.length : Int) 0) else (some false)
theorem impl_Node.mono_l : ∀ k, (∀ y0 y1 y2 y3, LeO (impl_Node.l0 k y0 y1 y2 y3) (impl_Node.l0 (k + 1) y0 y1 y2 y3))
 | 0 => fun _ _ _ _ r h => by simp [impl_Node.l0] at h
 | k + 1 => by
  have ih0 := impl_Node.mono_l k
  ·
   intro y0 y1 y2 y3
   unfold impl_Node.l0
   repeat' first
   | (with_reducible exact ih0 _ _ _ _)
   | (with_reducible exact l3_ _)
   | (with_reducible exact l0_ _)
   | (with_reducible refine l2_ ?_ ?_)
   | (with_reducible refine l1_ ?_ (fun _ => ?_))
   | exact ih0 _ _ _ _
   | exact l0_ _
   | refine l2_ ?_ ?_
   | refine l1_ ?_ (fun _ => ?_)
theorem impl_Node.mono : ∀ a0 a1 k, LeO (impl_Node.f k a0 a1) (impl_Node.f (k + 1) a0 a1) := by
 intro a0 a1 k
 have ih0 := impl_Node.mono_l k
 unfold impl_Node.f
 repeat' first
   | (with_reducible exact ih0 _ _ _ _)
   | (with_reducible exact l3_ _)
   | (with_reducible exact l0_ _)
   | (with_reducible refine l2_ ?_ ?_)
   | (with_reducible refine l1_ ?_ (fun _ => ?_))
   | exact ih0 _ _ _ _
   | exact l0_ _
   | refine l2_ ?_ ?_
   | refine l1_ ?_ (fun _ => ?_)
theorem impl_Node.calls (k : Nat) (A0 : Option Addr) (c0 : Nat) (l0 : List (S65)) (A1 : Option Addr) (c1 : Nat) (l1 : List (S65)) (r : Bool) (w : World) (hr0 : Kd.C k65 w A0 l0.length l0) (hc0 : l0.length ≤ c0) (hr1 : Kd.C k65 w A1 l1.length l1) (hc1 : l1.length ≤ c1) (h : impl_Node.f k l0 l1 = some r) :
  Calls Try.prog 50 #[.slice A0 l0.length c0, .slice A1 l1.length c1] w fun e w' => e = .returned (.bool r) ∧ Drawn0 w w' := by
 have hu65 := Try.underlying65
 have HR0 := aM_ hr0
 have HC0 := aM_ hc0
 clear hr0 hc0
 have HR1 := aM_ hr1
 have HC1 := aM_ hc1
 clear hr1 hc1
 have H : (if (l0.length : Int) = (l1.length : Int) then (impl_Node.l0 k l0 l1 (l0.length : Int) 0) else (some false)) = some r := h
 clear h
 by_cases c3 : (l0.length : Int) = (l1.length : Int)
 ·
  rw [if_pos c3] at H
  have c3b0 : ((l0.length : Int) == (l1.length : Int)) = true := beq_iff_eq.mpr c3
  have c3b1 : ((l0.length : Int) != (l1.length : Int)) = false := bne_eq_false_iff_eq.mpr c3
  have c3b2 : (l0.length == l1.length) = true := by first | simpa using c3 | (simp at c3 ⊢; omega)
  clear c3
  have H' := aM_ H
  clear H
  go_enter Try.func50, Try.ntmps50
  go_wp2
  repeat (go_quiet (fail); try go_wp2)
  go_loopg [13] k (fun kq v13 w' => ∃ (x13_1 : Int), v13 = .int .i64 x13_1 ∧ Aside0 (impl_Node.l0 kq l0 l1 (l0.length : Int) x13_1 = some r) ∧ Aside0 (kq ≤ k) ∧ Drawn0 w w')
  case atStart => exact ⟨(0), (by rfl), H', ⟨Nat.le_refl _⟩, by repeat (first | exact Drawn0.refl _ | apply Drawn0.step)⟩
  case round =>
   clear H'
   try clear p2
   try clear c3b0
   try clear c3b1
   try clear c3b2
   obtain ⟨x13_1, rfl, HA, HK1, ⟨m1, rfl⟩⟩ := hrel
   cases gk with
   | zero => exact absurd HA.out (by simp [impl_Node.l0])
   | succ k1 =>
    have H := HA.out
    clear HA
    simp only [impl_Node.l0] at H
    by_cases c4 : x13_1 < (l0.length : Int)
    ·
     rw [if_pos c4] at H
     have c4b0 := decide_eq_true c4
     clear c4
     by_cases c5 : 0 ≤ x13_1
     ·
      rw [if_pos c5] at H
      have c5b0 := decide_eq_true c5
      clear c5
      by_cases c6 : x13_1 < (l0.length : Int)
      ·
       rw [if_pos c6] at H
       have c6b0 := decide_eq_true c6
       clear c6
       by_cases c7 : x13_1 < (l1.length : Int)
       ·
        rw [if_pos c7] at H
        have c7b0 := decide_eq_true c7
        clear c7
        by_cases c8 : (!(((rd_T65 l0 x13_1).f0) == ((rd_T65 l1 x13_1).f0)) || (!(((rd_T65 l0 x13_1).f1) == ((rd_T65 l1 x13_1).f1)) || (!(((rd_T65 l0 x13_1).f2) == ((rd_T65 l1 x13_1).f2))))) = true
        ·
         rw [if_pos c8] at H
         have c8b0 : (!(((rd_T65 l0 x13_1).f0) == ((rd_T65 l1 x13_1).f0)) || (!(((rd_T65 l0 x13_1).f1) == ((rd_T65 l1 x13_1).f1)) || (!(((rd_T65 l0 x13_1).f2) == ((rd_T65 l1 x13_1).f2))))) = true := c8
         clear c8
         obtain rfl := Option.some.inj H
         have p316 : 0 ≤ (x13_1 : Int) := of_decide_eq_true (by (with_reducible assumption))
         have q316 : x13_1 < (l0.length : Int) := of_decide_eq_true (by (with_reducible assumption))
         obtain ⟨ad316, e316, hx316_0, hx316_1, hx316_2⟩ := at_T65 HR0.out x13_1 p316 q316
         cases e316
         replace p316 := eq_true p316
         replace q316 := eq_true q316
         have p317 : 0 ≤ (x13_1 : Int) := of_decide_eq_true (by (with_reducible assumption))
         have q317 : x13_1 < (l1.length : Int) := of_decide_eq_true (by (with_reducible assumption))
         obtain ⟨ad317, e317, hx317_0, hx317_1, hx317_2⟩ := at_T65 HR1.out x13_1 p317 q317
         cases e317
         replace p317 := eq_true p317
         replace q317 := eq_true q317
         go_wp2
         repeat (go_quiet (fail); try go_wp2)
         go_ret
         exact ⟨by rfl, by repeat (first | exact Drawn0.refl _ | apply Drawn0.step)⟩
        ·
         rw [if_neg c8] at H
         have c8b0 : (!(((rd_T65 l0 x13_1).f0) == ((rd_T65 l1 x13_1).f0)) || (!(((rd_T65 l0 x13_1).f1) == ((rd_T65 l1 x13_1).f1)) || (!(((rd_T65 l0 x13_1).f2) == ((rd_T65 l1 x13_1).f2))))) = false := by simpa using c8
         clear c8
         have H' := aM_ H
         clear H
         have p316 : 0 ≤ (x13_1 : Int) := of_decide_eq_true (by (with_reducible assumption))
         have q316 : x13_1 < (l0.length : Int) := of_decide_eq_true (by (with_reducible assumption))
         obtain ⟨ad316, e316, hx316_0, hx316_1, hx316_2⟩ := at_T65 HR0.out x13_1 p316 q316
         cases e316
         replace p316 := eq_true p316
         replace q316 := eq_true q316
         have p317 : 0 ≤ (x13_1 : Int) := of_decide_eq_true (by (with_reducible assumption))
         have q317 : x13_1 < (l1.length : Int) := of_decide_eq_true (by (with_reducible assumption))
         obtain ⟨ad317, e317, hx317_0, hx317_1, hx317_2⟩ := at_T65 HR1.out x13_1 p317 q317
         cases e317
         replace p317 := eq_true p317
         replace q317 := eq_true q317
         go_wp2
         repeat (go_quiet (fail); try go_wp2)
         go_roundg k1
         case measure => have := HK1.out; omega
         case rel => exact ⟨(wrap64 (x13_1 + 1)), (by rfl), H', ⟨by have := HK1.out; omega⟩, by repeat (first | exact Drawn0.refl _ | apply Drawn0.step)⟩
       ·
        rw [if_neg c7] at H
        exact absurd H (by simp)
      ·
       rw [if_neg c6] at H
       exact absurd H (by simp)
     ·
      rw [if_neg c5] at H
      exact absurd H (by simp)
    ·
     rw [if_neg c4] at H
     have c4b0 := decide_eq_false c4
     clear c4
     obtain rfl := Option.some.inj H
     go_wp2
     repeat (go_quiet (fail); try go_wp2)
     go_ret
     exact ⟨by rfl, by repeat (first | exact Drawn0.refl _ | apply Drawn0.step)⟩
 ·
  rw [if_neg c3] at H
  have c3b0 : ((l0.length : Int) == (l1.length : Int)) = false := beq_eq_false_iff_ne.mpr c3
  have c3b1 : ((l0.length : Int) != (l1.length : Int)) = true := bne_iff_ne.mpr c3
  have c3b2 : (l0.length == l1.length) = false := by first | simpa using c3 | (simp at c3 ⊢; omega)
  obtain rfl := Option.some.inj H
  go_enter Try.func50, Try.ntmps50
  go_wp2
  repeat (go_quiet (fail); try go_wp2)
  go_ret
  exact ⟨by rfl, by repeat (first | exact Drawn0.refl _ | apply Drawn0.step)⟩
end Go.Proofs.Ytnnkedeohfbkeaa.P
namespace Go.Proofs.Ytnnkedeohfbkeaa.P
open Go.RowKit Go.Proofs.YtnnkedeohfbkeaaW.PrintWords Go.Proofs.YtnnkedeohfbkeaaW.PrintLast Go.Proofs.YtnnkedeohfbkeaaW.PrintMore
attribute [local go_sem] max2_int min2_int max_two min_two max_three min_three max_four min_four
open Go.Maps
namespace SM
theorem law : Keyed Try.prog 9 := string_keyed Try.underlying9
theorem zeroE (w : World) : (zeroValue 3).run Try.prog w = .ok (.int .i64 0) w := by kernel_rfl
noncomputable abbrev elem : Value → Option (DataW Unit × List MemPlace) := plainElem Try.prog 3
def dat : List ByteArray → DataW Unit
 | [] => .map []
 | x :: r => (dat r).put (.string x.data.toList) (.lit (.int .i64 (r.length : Int)))
def atR : List ByteArray → ByteArray → Int
 | [], _ => 0
 | x :: r, p => if x.data.toList = p.data.toList then (r.length : Int) else atR r p
def at_ (l : List ByteArray) (p : ByteArray) : Int := atR l.reverse p
theorem isMap : ∀ l, IsMap (dat l)
 | [] => ⟨[], rfl⟩
 | x :: r => by
  obtain ⟨es, h⟩ := isMap r
  rw [dat, h]
  exact ⟨_, rfl⟩
theorem dat_at : ∀ (l : List ByteArray) (p : ByteArray), (dat l).atKey (.string p.data.toList) (.lit (.int .i64 0)) = .lit (.int .i64 (atR l p))
 | [], _ => rfl
 | x :: r, p => by
  by_cases h : x.data.toList = p.data.toList
  ·
   rw [atR, if_pos h, dat, h]
   exact atKey_put_same (isMap r) (show Go.WideAt.IsKeyLit (.string _) from trivial) _ _
  ·
   rw [atR, if_neg h, dat]
   refine (atKey_put_other (fun e => h ?_) _ _).trans (dat_at r p)
   injection e with e
   exact e.symm
def Is (w : World) (b : Nat) (l : List ByteArray) : Prop := w.ownsMap Try.prog 9 elem b l.length (dat l.reverse)
theorem Is.made (w : World) : Is (w.alloc (.map #[] 0)) w.heap.size [] := World.ownsMap_made w _ _ _
theorem Is.obj {w : World} {b : Nat} {l : List ByteArray} (h : Is w b l) : ∃ es ck, w.heap[b]? = some (.map es ck) := by
 obtain ⟨es, ck, hb, _⟩ := h
 exact ⟨es, ck, hb⟩
theorem Is.moved {w w1 : World} {b : Nat} {l : List ByteArray} (h : Is w b l) (e : w1.heap[b]? = w.heap[b]?) : Is w1 b l := by
 obtain ⟨es, ck, hb, F, hs, hD⟩ := h
 exact ⟨es, ck, e.trans hb, F, hs, hD⟩
theorem Is.lt {w : World} {b : Nat} {l : List ByteArray} (h : Is w b l) : b < w.heap.size := World.ownsMap.lt h
theorem Is.below {w w1 : World} {b : Nat} {l : List ByteArray} (h : Is w b l) (hb : Below w.heap.size w w1) : Is w1 b l := h.moved (hb.block b h.lt)
theorem Is.alloc {w : World} {b : Nat} {l : List ByteArray} (h : Is w b l) (o : Obj) : Is (w.alloc o) b l := World.ownsMap.alloc h o
theorem Is.drewN {w : World} {b : Nat} {l : List ByteArray} (h : Is w b l) (n : Nat) : Is (w.drewN n) b l := h.moved rfl
theorem Is.drew {w : World} {b : Nat} {l : List ByteArray} (h : Is w b l) : Is w.drew b l := h.moved rfl
theorem Is.far {w : World} {b : Nat} {l : List ByteArray} (h : Is w b l) {p : Addr} (hp : b ≠ p.block) (u : Value) : Is (w.setCell p u) b l := h.moved (Below.heap_setCell w p u b hp)
theorem Is.grown {w w1 : World} {b : Nat} {l : List ByteArray} {row : Option Nat} (h : Is w b l) (hg : w.grownBy w1 row) (hne : some b ≠ row) : Is w1 b l := h.moved (hg.block b h.lt hne)
theorem Is.ne {α : Type} {d : Kd α} {e base : Nat} {ok : Nat → Prop} {w : World} {v : Value} {xs : List α} {b : Nat} {l : List ByteArray} (h : Is w b l) (hr : d.R e w base ok v xs) : some b ≠ v.ownBlock := fun e_ => by
 obtain ⟨es, ck, hb⟩ := h.obj
 obtain ⟨cells, hc⟩ := Kd.R_typed hr b e_.symm
 rw [hb] at hc
 cases hc
theorem Is.ne_block {w : World} {b g t : Nat} {cs : Array Value} {l : List ByteArray} (h : Is w b l) (hc : w.heap[g]? = some (.cells cs t (0, 0))) : b ≠ g := fun e_ => by
 obtain ⟨es, ck, hb⟩ := h.obj
 subst e_
 rw [hb] at hc
 cases hc
theorem R_over {α : Type} {d : Kd α} {e base : Nat} {ok : Nat → Prop} {w w1 : World} {v : Value} {xs : List α} {b : Nat} {l : List ByteArray} (hr : d.R e w base ok v xs) (h : Is w b l) (hg : w.grownBy w1 (some b)) : d.R e w1 base ok v xs := by
 refine Kd.R_mono (Kd.R_move (Kd.R_bound hr) (fun k hk => hg.block k hk.2.2.1 (fun he => ?_))) (fun _ hk => hk.1)
 obtain ⟨_, _, _, q, hq, cells, hc⟩ := hk
 obtain ⟨es, ck, hb⟩ := h.obj
 cases he
 rw [hb] at hc
 cases hc
theorem put {w : World} {ops : Array Oper} {rest : List Oper} {o : Oper} {a : Act} {Q : Exit → Act → World → Prop} (hg : o.guard = none) (m x v : Operand) (t : TypeId) (ht : Try.prog.underlying t = some (.map 9 3)) (hop : o.op = Op.mapUpdate t m x v)
  (b : Nat) (l : List ByteArray) (hm : a.eval m = .map (some b)) (h : Is w b l) (hn : l.length < 4294967296) (p : ByteArray) (hp : p.size ≤ maxLen) (hx : a.eval x = .string p) (hv : a.eval v = .int .i64 (l.length : Int))
  (hK : ∀ w', Is w' b (l ++ [p]) → w.grownBy w' (some b) → wpList Try.prog ops Q rest (a.put o.dst undef) w') : wpList Try.prog ops Q (o :: rest) a w := by
 refine wpList_mapUpdate_own w hg m x v t hop 9 3 law ht elem b l.length (dat l.reverse) hm h (by unfold maxLen; omega) (.string p) (.int .i64 (l.length : Int)) (.string p.data.toList) hx hv (Go.WideMaps.keyOf_string_mk Try.underlying9 hp) (.lit (.int .i64 (l.length : Int))) [] (plainElem_int Try.underlying3 (WalkArith.wf_i64 ⟨by omega, by omega⟩)) ?_
 intro w1 h1 h2
 refine hK w1 ?_ h2
 unfold Is
 rw [List.length_append, List.reverse_append]
 show w1.ownsMap _ _ _ b (l.length + 1) ((dat l.reverse).put _ (.lit (.int .i64 (l.reverse.length : Int))))
 rw [List.length_reverse]
 exact h1
theorem get {w : World} {b : Nat} {l : List ByteArray} (h : Is w b l) (t : TypeId) (ht : Try.prog.underlying t = some (.map 9 3)) (p : ByteArray) (hp : p.size ≤ maxLen) :
  (Instr.lookup t (.map (some b)) (.string p) false).run Try.prog w = .ok (.int .i64 (at_ l p)) w := by
 obtain ⟨c, hrun, hat, _⟩ := World.ownsMap.lookup_int h law ht Try.underlying3 (zeroE w) (Go.WideMaps.keyOf_string_mk Try.underlying9 hp)
 rw [dat_at] at hat
 simp only [DataW.lit.injEq, Lit.int.injEq, true_and] at hat
 have e1 : at_ l p = c := hat
 rw [e1]
 exact hrun
def has_ (l : List ByteArray) (p : ByteArray) : Bool := l.any fun x => decide (x.data.toList = p.data.toList)
theorem has_cons (x : ByteArray) (r : List ByteArray) (p : ByteArray) : has_ (x :: r) p = (decide (x.data.toList = p.data.toList) || has_ r p) := rfl
theorem dat_at2 : ∀ (l : List ByteArray) (p : ByteArray) (z : DataW Unit), (dat l).atKey (.string p.data.toList) z = if has_ l p = true then .lit (.int .i64 (atR l p)) else z
 | [], _, _ => rfl
 | x :: r, p, z => by
  by_cases h : x.data.toList = p.data.toList
  ·
   rw [if_pos (by rw [has_cons, decide_eq_true h]; rfl), atR, if_pos h, dat, h]
   exact atKey_put_same (isMap r) (show Go.WideAt.IsKeyLit (.string _) from trivial) _ _
  ·
   rw [dat, atR, if_neg h, show has_ (x :: r) p = has_ r p from by rw [has_cons, decide_eq_false h]; rfl]
   refine (atKey_put_other (fun e => h ?_) _ _).trans (dat_at2 r p z)
   injection e with e
   exact e.symm
theorem atR_none : ∀ (l : List ByteArray) (p : ByteArray), has_ l p = false → atR l p = 0
 | [], _, _ => rfl
 | x :: r, p, h => by
  rw [has_cons, Bool.or_eq_false_iff] at h
  rw [atR, if_neg (of_decide_eq_false h.1)]
  exact atR_none r p h.2
theorem get2 {w : World} {b : Nat} {l : List ByteArray} (h : Is w b l) (t : TypeId) (ht : Try.prog.underlying t = some (.map 9 3)) (p : ByteArray) (hp : p.size ≤ maxLen) :
  (Instr.lookup t (.map (some b)) (.string p) true).run Try.prog w = .ok (.tuple #[.int .i64 (at_ l p), .bool (has_ l p)]) w := by
 have hrev : has_ l.reverse p = has_ l p := List.any_reverse
 obtain ⟨es, ck, hb, F, hs, hD⟩ := h
 rcases Maps.fit_look true law ht (zeroE w) hb F (Go.WideMaps.keyOf_string_mk Try.underlying9 hp) with ⟨hrun, _, hat⟩ | ⟨e0, y, _, _, hrun, hRv, hat, _⟩
 ·
  have h0 := hat .nil
  rw [← hD, dat_at2, hrev] at h0
  cases hh : has_ l p with
  | true => rw [hh, if_pos rfl] at h0; cases h0
  | false =>
   have e : at_ l p = 0 := atR_none _ _ (hrev.trans hh)
   rw [e]
   exact hrun
 ·
  obtain ⟨c, hc, rfl, _⟩ := plainElem_int_inv Try.underlying3 hRv
  have h0 := hat .nil
  rw [← hD, dat_at2, hrev] at h0
  cases hh : has_ l p with
  | true =>
   rw [hh, if_pos rfl] at h0
   simp only [DataW.lit.injEq, Lit.int.injEq, true_and] at h0
   have e : at_ l p = c := h0
   rw [e, ← hc]
   exact hrun
  | false => rw [hh, if_neg Bool.false_ne_true] at h0; cases h0
theorem put_step {w : World} {b : Nat} {l : List ByteArray} (h : Is w b l) (t : TypeId) (ht : Try.prog.underlying t = some (.map 9 3)) (hn : l.length < 4294967296) (p : ByteArray) (hp : p.size ≤ maxLen) :
  ∃ w', (Instr.mapUpdate t (.map (some b)) (.string p) (.int .i64 (l.length : Int))).run Try.prog w = .ok () w' ∧ Is w' b (l ++ [p]) ∧ w.grownBy w' (some b) := by
 obtain ⟨w', h1, h2, h3⟩ := World.ownsMap.update (val := .int .i64 (l.length : Int)) (d := .lit (.int .i64 (l.length : Int))) (ps := []) h law ht (by unfold maxLen; omega) (Go.WideMaps.keyOf_string_mk Try.underlying9 hp) (plainElem_int Try.underlying3 (WalkArith.wf_i64 ⟨by omega, by omega⟩))
 refine ⟨w', h1, ?_, h3⟩
 unfold Is
 rw [List.length_append, List.reverse_append]
 show w'.ownsMap _ _ _ b (l.length + 1) ((dat l.reverse).put _ (.lit (.int .i64 (l.reverse.length : Int))))
 rw [List.length_reverse]
 exact h2
theorem made {W : World} {ops : Array Oper} {rest : List Oper} {o : Oper} {a : Act} {Q : Exit → Act → World → Prop} (hgd : o.guard = none) {N : Tmp} (_hd : o.dst = some N)
  (hrun : (execOp a.eval o).run Try.prog W = .ok (.value (.map (some W.heap.size))) (W.alloc (.map #[] 0)))
  (h : ∀ g, g = W.heap.size → ∀ w1, Is w1 g [] → Below W.heap.size W w1 → wpList Try.prog ops Q rest (a.put o.dst (.map (some g))) w1) : wpList Try.prog ops Q (o :: rest) a W :=
 Kd.event_run hgd hrun (h _ rfl _ (Is.made W) (below_alloc (Below.refl _ _) _))
def okL (l : List ByteArray) : Bool := (l.all fun s_ => decide (s_.size ≤ 4294967296)) && decide (l.length ≤ 4294967296)
theorem okL.size {l : List ByteArray} (h : okL l = true) (i : Int) (h0 : 0 ≤ i) (h1 : i < (l.length : Int)) : (rdOf ByteArray.empty l i).size ≤ 4294967296 := by
 unfold okL at h
 rw [Bool.and_eq_true] at h
 have hi : i.toNat < l.length := by omega
 have hm : rdOf ByteArray.empty l i ∈ l := by
  unfold rdOf
  rw [List.getD_eq_getElem?_getD, List.getElem?_eq_getElem hi]
  exact List.getElem_mem _
 simpa using List.all_eq_true.1 h.1 _ hm
theorem okL.len {l : List ByteArray} (h : okL l = true) : l.length ≤ 4294967296 := by
 unfold okL at h
 rw [Bool.and_eq_true] at h
 simpa using h.2
theorem size_ext (s : ByteArray) (i : Nat) (h : s.size ≤ 4294967296) : (s.extract 0 i).size ≤ maxLen := by
 rw [ByteArray.size_extract]
 unfold maxLen
 omega
theorem take_rd (l : List ByteArray) (i : Int) (h0 : 0 ≤ i) (h1 : i < (l.length : Int)) : List.take i.toNat l ++ [rdOf ByteArray.empty l i] = List.take (i.toNat + 1) l := by
 have hi : i.toNat < l.length := by omega
 rw [List.take_succ_eq_append_getElem hi]
 unfold rdOf
 rw [List.getD_eq_getElem?_getD, List.getElem?_eq_getElem hi]
 rfl
theorem next_rd (l : List ByteArray) (i : Int) {lm : List ByteArray} (lm2 : List ByteArray) (h1 : lm2 = lm ++ [rdOf ByteArray.empty l i]) (h2 : lm ++ [rdOf ByteArray.empty l i] = List.take (i.toNat + 1) l) (h3 : (lm.length : Int) = i) (h4 : lm.length < l.length) (h5 : okL l = true) : List.take ((wrap64 (i + 1) : Int).toNat) l = lm2 := by
 have h6 := okL.len h5
 have hw : wrap64 (i + 1) = i + 1 := by unfold wrap64; omega
 rw [hw, h1, h2]
 congr 1
 omega
end SM
end Go.Proofs.Ytnnkedeohfbkeaa.P
namespace Go.Proofs
open Go.Shelf
def Try.lays190_ren : Go.Shelf.Ren := ⟨fun | 190 => 81 | 125 => 85 | 258 => 84 | 128 => 94 | 129 => 95 | 302 => 86 | 303 => 87 | 304 => 88 | 305 => 89 | 306 => 90 | 307 => 91 | 308 => 64 | 309 => 92 | 310 => 93 | 333 => 96 | 329 => 97 | 330 => 98 | 334 => 99 | 335 => 100 | 336 => 73 | 344 => 101 | n => n, fun | 31 => 50 | 9 => 9 | 3 => 3 | 46 => 103 | 0 => 0 | 51 => 117 | 53 => 119 | 4 => 4 | 183 => 111 | 182 => 110 | 131 => 34 | 5 => 5 | 218 => 120 | 222 => 124 | 228 => 126 | 229 => 127 | n => n, fun | n => n⟩
theorem Try.lays190 : Go.Proofs.Lays.n190 Try.prog Try.lays190_ren := {
  mixed := by kernel_rfl
  f125 := Try.func85.trans (congrArg some (by kernel_rfl))
  f128 := Try.func94.trans (congrArg some (by kernel_rfl))
  f129 := Try.func95.trans (congrArg some (by kernel_rfl))
  f190 := Try.func81.trans (congrArg some (by kernel_rfl))
  f258 := Try.func84.trans (congrArg some (by kernel_rfl))
  f302 := Try.func86.trans (congrArg some (by kernel_rfl))
  f303 := Try.func87.trans (congrArg some (by kernel_rfl))
  f304 := Try.func88.trans (congrArg some (by kernel_rfl))
  f305 := Try.func89.trans (congrArg some (by kernel_rfl))
  f306 := Try.func90.trans (congrArg some (by kernel_rfl))
  f307 := Try.func91.trans (congrArg some (by kernel_rfl))
  f308 := Try.func64.trans (congrArg some (by kernel_rfl))
  f309 := Try.func92.trans (congrArg some (by kernel_rfl))
  f310 := Try.func93.trans (congrArg some (by kernel_rfl))
  f329 := Try.func97.trans (congrArg some (by kernel_rfl))
  f330 := Try.func98.trans (congrArg some (by kernel_rfl))
  f333 := Try.func96.trans (congrArg some (by kernel_rfl))
  f334 := Try.func99.trans (congrArg some (by kernel_rfl))
  f335 := Try.func100.trans (congrArg some (by kernel_rfl))
  f336 := Try.func73.trans (congrArg some (by kernel_rfl))
  f344 := Try.func101.trans (congrArg some (by kernel_rfl))
  t0 := Try.underlying0
  a0 := Try.isAgg0
  z0 := Try.sizeOf0
  v0 := Try.zeroValue0
  t3 := Try.underlying3
  a3 := Try.isAgg3
  z3 := Try.sizeOf3
  v3 := Try.zeroValue3
  t4 := Try.underlying4
  a4 := Try.isAgg4
  z4 := Try.sizeOf4
  v4 := Try.zeroValue4
  t5 := Try.underlying5
  a5 := Try.isAgg5
  z5 := Try.sizeOf5
  v5 := Try.zeroValue5
  t9 := Try.underlying9
  a9 := Try.isAgg9
  z9 := Try.sizeOf9
  v9 := Try.zeroValue9
  t31 := Try.underlying50
  a31 := Try.isAgg50
  z31 := Try.sizeOf50
  v31 := Try.zeroValue50
  t46 := Try.underlying103
  a46 := Try.isAgg103
  z46 := Try.sizeOf103
  v46 := Try.zeroValue103
  t51 := Try.underlying117
  a51 := Try.isAgg117
  z51 := Try.sizeOf117
  v51 := Try.zeroValue117
  t53 := Try.underlying119
  a53 := Try.isAgg119
  z53 := Try.sizeOf119
  v53 := Try.zeroValue119
  t131 := Try.underlying34
  a131 := Try.isAgg34
  z131 := Try.sizeOf34
  v131 := Try.zeroValue34
  t182 := Try.underlying110
  a182 := Try.isAgg110
  z182 := Try.sizeOf110
  v182 := Try.zeroValue110
  t183 := Try.underlying111
  a183 := Try.isAgg111
  z183 := Try.sizeOf111
  v183 := Try.zeroValue111
  t218 := Try.underlying120
  a218 := Try.isAgg120
  z218 := Try.sizeOf120
  v218 := Try.zeroValue120
  t222 := Try.underlying124
  a222 := Try.isAgg124
  z222 := Try.sizeOf124
  v222 := Try.zeroValue124
  t228 := Try.underlying126
  a228 := Try.isAgg126
  z228 := Try.sizeOf126
  v228 := Try.zeroValue126
  t229 := Try.underlying127
  a229 := Try.isAgg127
  z229 := Try.sizeOf127
  v229 := Try.zeroValue127 }
def Try.lays194_ren : Go.Shelf.Ren := ⟨fun | 194 => 74 | n => n, fun | 31 => 50 | 9 => 9 | 3 => 3 | 4 => 4 | 0 => 0 | n => n, fun | n => n⟩
theorem Try.lays194 : Go.Proofs.Lays.n194 Try.prog Try.lays194_ren := {
  mixed := by kernel_rfl
  f194 := Try.func74.trans (congrArg some (by kernel_rfl))
  t0 := Try.underlying0
  a0 := Try.isAgg0
  z0 := Try.sizeOf0
  v0 := Try.zeroValue0
  t3 := Try.underlying3
  a3 := Try.isAgg3
  z3 := Try.sizeOf3
  v3 := Try.zeroValue3
  t4 := Try.underlying4
  a4 := Try.isAgg4
  z4 := Try.sizeOf4
  v4 := Try.zeroValue4
  t9 := Try.underlying9
  a9 := Try.isAgg9
  z9 := Try.sizeOf9
  v9 := Try.zeroValue9
  t31 := Try.underlying50
  a31 := Try.isAgg50
  z31 := Try.sizeOf50
  v31 := Try.zeroValue50 }
end Go.Proofs
namespace Go.Proofs.Ytnnkedeohfbkeaa.P
open Go.RowKit Go.Proofs.YtnnkedeohfbkeaaW.PrintWords Go.Proofs.YtnnkedeohfbkeaaW.PrintLast Go.Proofs.YtnnkedeohfbkeaaW.PrintMore
attribute [local go_sem] max2_int min2_int max_two min_two max_three min_three max_four min_four
open Go.Shelf Go.Sort
attribute [local go_sem] Oper.semAt_some
namespace SV
def upto {α : Type} (f : Nat → α) (k : Nat) : List α := (List.range k).map f
theorem upto_succ {α : Type} (f : Nat → α) (k : Nat) : upto f (k + 1) = upto f k ++ [f k] := by simp [upto, List.range_succ]
theorem upto_length {α : Type} (f : Nat → α) (k : Nat) : (upto f k).length = k := by simp [upto]
theorem upto_all (zs : List (List UInt8)) : upto (fun j => zs[j]?.getD []) zs.length = zs := by
 apply List.ext_getElem
 ·
  simp [upto]
 ·
  intro i h1 h2
  simp [upto, h2]
theorem upto_take (zs : List (List UInt8)) {k : Nat} (hk : k ≤ zs.length) : upto (fun j => zs[j]?.getD []) k = zs.take k := by
 apply List.ext_getElem
 ·
  simp [upto, hk]
 ·
  intro i h1 h2
  have : i < zs.length := by simp [upto] at h1; omega
  simp [upto, this]
set_option maxHeartbeats 2000000 in
theorem values1_in (F : Fence) (n : Nat) (h7 : F.fn 82) (hro : F.round = none) (hn : 1 ≤ n) (l Bs n₀ : Nat) (ad : Addr) (len cap : Nat) (zs : List (List UInt8)) (hreach : len * 8 ≤ 140737488351232) (hb : ad.block < n₀) (J Jx : List (List UInt8) → World → Prop)
  (hY : ∀ pre x W, J pre W → pre.length < len → YieldAt F (n - 1) Try.prog l #[encStr x] W fun e W' =>
   (e = .returned (.bool true) ∧ J (pre ++ [x]) W' ∧ Below n₀ W W') ∨ (e = .returned (.bool false) ∧ Jx (pre ++ [x]) W'))
  (W : World) (hBs : W.cell? ⟨Bs, 0, none⟩ = some (.slice (some ad) len cap)) (hc : ∀ j, j < len → W.cell? (ad.add j) = some (encStr (zs[j]?.getD []))) (h0 : J [] W) :
  CallsIn F n Try.prog 82 #[.func (.yield l) #[] #[], .pointer (some ⟨Bs, 0, none⟩)] W fun e W' => (∃ v, e = .returned v) ∧
   ((∃ ys, ys = upto (fun j => zs[j]?.getD []) len ∧ J ys W') ∨ (∃ pre, (∃ k, k ≤ len ∧ pre = upto (fun j => zs[j]?.getD []) k) ∧ Jx pre W')) := by
 refine callsIn_of_wp Try.func82 rfl h7 ?_ hro
 simp only [Try.ntmps82, List.size_toArray, List.length_cons, List.length_nil, Nat.reduceAdd, Nat.reduceSub, Array.replicate_succ, Array.replicate_zero, List.push_toArray, List.append_toArray, List.nil_append, List.cons_append]
 gi_wp2
 gi_loopw [7] (fun i wr => ∃ k : Nat, k ≤ len ∧ i = .int .i64 k ∧ J (upto (fun j => zs[j]?.getD []) k) wr ∧ Below n₀ W wr)
  (fun i _ => len - (intOf i).toNat)
 case atStart => exact ⟨0, Nat.zero_le _, rfl, h0, Below.refl _ _⟩
 case round =>
  obtain ⟨k, hk, rfl, hJs, hnx⟩ := hrel
  have hcx : k < len → wr.cell? (ad.add k) = some (encStr (zs[k]?.getD [])) := fun h => (hnx.cell (p := ad.add k) (by rw [add_block]; exact hb)).trans (hc k h)
  by_cases hlt : k < len
  ·
   obtain ⟨fn, tmps, assign, body, hy, hR⟩ := hY _ (zs[k]?.getD []) wr hJs (by rw [upto_length]; exact hlt)
   have hcx' := hcx hlt
   gi_wp2
   refine hR.mono ?_
   rintro e W3 (⟨rfl, hJ3, hk3⟩ | ⟨rfl, hJx3⟩)
   ·
    gi_wp2
    go_roundw
    case rel => exact ⟨k + 1, by omega, by simp, by rw [upto_succ]; exact hJ3, hnx.trans hk3⟩
    case measure => simp [intOf]; omega
   ·
    gi_wp2
    refine bodyPost_ret (results_none rfl _ _ _) rfl ?_
    exact ⟨⟨_, rfl⟩, .inr ⟨_, ⟨k + 1, by omega, (upto_succ _ _).symm⟩, hJx3⟩⟩
  ·
   obtain rfl : k = len := by omega
   gi_wp2
   go_end0
   exact ⟨⟨_, rfl⟩, .inl ⟨_, rfl, hJs⟩⟩
end SV
namespace SV
def Strs (n₀ : Nat) (W : World) (a : Option Addr) (zs : List (List UInt8)) : Prop :=
 zs = [] ∨ ∃ ad : Addr, a = some ad ∧ ad.block < n₀ ∧ ∀ j, j < zs.length → W.cell? (ad.add j) = some (encStr (zs[j]?.getD []))
theorem Strs.below {n₀ : Nat} {A B : World} (h : Below n₀ A B) {a : Option Addr} {zs : List (List UInt8)} : Strs n₀ A a zs → Strs n₀ B a zs
 | .inl e => .inl e
 | .inr ⟨ad, e, hb, hc⟩ => .inr ⟨ad, e, hb, fun j hj => (h.cell (p := ad.add j) (by rw [add_block]; exact hb)).trans (hc j hj)⟩
set_option maxHeartbeats 1000000 in
theorem values1_nil_in (F : Fence) (n : Nat) (h7 : F.fn 82) (hro : F.round = none) (l Bs : Nat) (a : Option Addr) (c : Nat) (J : List (List UInt8) → World → Prop) (W : World) (hBs : W.cell? ⟨Bs, 0, none⟩ = some (.slice a 0 c)) (h0 : J [] W) :
  CallsIn F n Try.prog 82 #[.func (.yield l) #[] #[], .pointer (some ⟨Bs, 0, none⟩)] W fun e W' => (∃ v, e = .returned v) ∧ J [] W' := by
 refine callsIn_of_wp Try.func82 rfl h7 ?_ hro
 simp only [Try.ntmps82, List.size_toArray, List.length_cons, List.length_nil, Nat.reduceAdd, Nat.reduceSub, Array.replicate_succ, Array.replicate_zero, List.push_toArray, List.append_toArray, List.nil_append, List.cons_append]
 gi_wp2
 gi_loopw [7] (fun i wr => i = .int .i64 0 ∧ J [] wr) (fun _ _ => 0)
 case atStart => exact ⟨rfl, h0⟩
 case round =>
  obtain ⟨rfl, hJs⟩ := hrel
  gi_wp2
  go_end0
  exact ⟨⟨_, rfl⟩, hJs⟩
theorem values_stops (F : Fence) (n : Nat) (h7 : F.fn 82) (hro : F.round = none) (hn : 1 ≤ n) (Bs n₀ : Nat) (a : Option Addr) (c : Nat) (zs : List (List UInt8)) (hreach : zs.length * 8 ≤ 140737488351232) (w : World) (hBs : Bs < w.heap.size) (hn₀ : n₀ ≤ w.heap.size)
  (hc : w.cell? ⟨Bs, 0, none⟩ = some (.slice a zs.length c)) (hI : Strs n₀ w a zs) :
  SeqStopsK F n Try.prog 82 #[.pointer (some ⟨Bs, 0, none⟩)] (fun x : List UInt8 => #[encStr x]) (Below n₀) (fun ys => ys = zs) (fun pre => pre <+: zs) zs.length w := fun l J Jx W hW _ _ hY h0 => by
 have hc' := (hW.cell (p := ⟨Bs, 0, none⟩) hBs).trans hc
 rcases hI.below (hW.mono hn₀) with rfl | ⟨ad, rfl, hb, hcs⟩
 ·
  exact (values1_nil_in F n h7 hro l Bs a c J W hc' h0).mono fun e W' ⟨he, hj⟩ => ⟨he, .inl ⟨_, rfl, hj⟩⟩
 ·
  refine (values1_in F n h7 hro hn l Bs n₀ ad zs.length c zs hreach hb J Jx hY W hc' hcs h0).mono ?_
  rintro e W' ⟨he, ⟨ys, rfl, hj⟩ | ⟨pre, ⟨k, hk, rfl⟩, hj⟩⟩
  ·
   exact ⟨he, .inl ⟨_, upto_all zs, hj⟩⟩
  ·
   exact ⟨he, .inr ⟨_, by rw [upto_take zs hk]; exact List.take_prefix _ _, hj⟩⟩
theorem infoS : (Try.prog.info? 9).map (fun i => (i.zero, i.size, i.bytes)) = some (some (.string ⟨#[]⟩), 1, 16) := by kernel_rfl
set_option maxHeartbeats 2000000 in
theorem AppendSeq_in (F : Fence) (n : Nat) (h3 : F.fn 83) (h5 : F.fn 82) (hro : F.round = none) (hn : 3 ≤ n) (Bs : Nat) (a : Option Addr) (c : Nat) (zs : List (List UInt8)) (hlen : zs.length ≤ 4294967296) (w : World) (hBs : Bs < w.heap.size) (hc : w.cell? ⟨Bs, 0, none⟩ = some (.slice a zs.length c)) (hL : Strs w.heap.size w a zs) :
  CallsIn F n Try.prog 83 #[.slice none 0 0, .func (.func 82) #[] #[.pointer (some ⟨Bs, 0, none⟩)]] w fun e W' => ∃ v, e = .returned v ∧ W'.ownsRow w.heap.size 9 1 v zs.length (zs.map encStr) ∧ (v = .slice none 0 0 ↔ zs = []) ∧ Below w.heap.size w W' := by
 have h1 : 1 ≤ n := by omega
 obtain ⟨i0, hi, hz0, hz1, hz2⟩ := info_parts infoS
 refine callsIn_of_wp_marks Try.func83 rfl h3 ?_ hro
 simp only [Try.ntmps83, List.size_toArray, List.length_cons, List.length_nil, Nat.reduceAdd, Nat.reduceSub, Array.replicate_succ, Array.replicate_zero, List.push_toArray, List.append_toArray, List.nil_append, List.cons_append]
 gi_wp2
 have bO := Boxed.new w 50 (.slice none 0 0)
 have hB0 : Below w.heap.size w (w.alloc (.cells #[.slice none 0 0] 50)) := (Below.refl _ w).alloc (Nat.le_refl _) _
 have hcb : (w.alloc (.cells #[.slice none 0 0] 50)).cell? ⟨Bs, 0, none⟩ = some (.slice a zs.length c) := (hB0.cell (p := ⟨Bs, 0, none⟩) hBs).trans hc
 refine wpIn_rangeFunc_ownG hro h1 (gf := 82) (lb := #[.pointer (some ⟨Bs, 0, none⟩)]) rfl h5 (enters_of Try.func82 (by kernel_rfl) rfl)
  (values_stops F (n - 1) h5 hro (by omega) Bs w.heap.size a c zs (by omega) _ (by simp; omega) (by simp) hcb (hL.below hB0)) belowK_t (belowK_b (by simp)) (Below.refl _ _) (fun _ => rfl)
  (fun pre W => (∃ v, Boxed W w.heap.size 50 v ∧ W.ownsRow w.heap.size 9 1 v pre.length (pre.map encStr) ∧ (v = .slice none 0 0 ↔ pre = [])) ∧ Below w.heap.size w W)
  (fun _ _ _ => False)
  (OwnFrom.and (Own.from (holdsRow_own w.heap.size w.heap.size 50 9 1 (fun pre => pre.length) (fun pre => pre.map encStr) (fun pre v => v = .slice none 0 0 ↔ pre = [])) _) (ownFrom_below (Nat.le_refl _) (by simp)))
  (fun _ _ _ _ _ hs _ _ => hs)
  ⟨⟨_, bO, World.ownsRow_nil _ _ _ _, by simp⟩, hB0⟩
  (fun x => { tmps := #[.slice none 0 0, .func (.func 82) #[] #[.pointer (some ⟨Bs, 0, none⟩)], .pointer (some ⟨w.heap.size, 0, none⟩), undef, .slice none 0 0, encStr x, .func (.func 82) #[] #[.pointer (some ⟨Bs, 0, none⟩)], encStr x, undef, undef, undef, undef, undef], defers := [] }) ?assign ?body ?done ?stop
 case assign =>
  intro l x W K hK
  gi_wp2
  exact hK
 case body =>
  rintro l pre x W ⟨⟨v, hv, hrow, hnil⟩, hB⟩ hlt
  have hc := hv.cell
  gi_wp2_with (gi_at_builtin; refine wpListIn_append_own _ rfl _ _ 50 rfl w.heap.size 9 i0 (.string ⟨#[]⟩) 1 16 Try.underlying50 hi hz0 hz1 hz2 rfl (by decide) _ _ _ rfl (hrow.alloc _) ⟨W.heap.size, 0, none⟩ 1 1 [encStr x] rfl rfl (cell_one_new _ _ _) (by simp [Value.oneCell', encStr]) (by unfold maxLen; omega) (by omega) (by have := hB.size; simp; omega) ?_; intro v' w1 hown' hgrow _; obtain ⟨g', cap', rfl⟩ := ownsRow_succ hown'; obtain ⟨hv1, hv2, hr2, hk2, hb2⟩ := hv.appended (by decide) hrow hB.size (Nat.le_refl _) hown' hgrow; have hc1 := hv1.cell; have hf1 := hv1.frozen)
  exact ⟨hk2.from _, hb2, ⟨_, hv2, by simpa using hr2, by simp⟩, hB.trans hb2⟩
 case done =>
  rintro D ys W hD rfl ⟨⟨v, hv, hrow, hnil⟩, hB⟩ hK
  have hc := hv.cell
  gi_wp2
  refine ⟨by simp, .inl ⟨_, _, rfl, run_takeDeferred hK, ?_⟩⟩
  exact ⟨_, results_tmp rfl _ _ _, v, rfl, ownsRow_putObj hrow _ hK rfl, hnil, hB.trans (belowK_b (w := w) (Nat.le_refl _) W D _ _ (by simp at hD; omega) hK rfl rfl)⟩
 case stop =>
  rintro D c pre W _ _ h _
  exact h.elim
end SV
namespace SV
set_option maxHeartbeats 1000000 in
theorem Collect_calls (Bs : Nat) (a : Option Addr) (c : Nat) (zs : List (List UInt8)) (hlen : zs.length ≤ 4294967296) (w : World) (hBs : Bs < w.heap.size) (hc : w.cell? ⟨Bs, 0, none⟩ = some (.slice a zs.length c)) (hL : Strs w.heap.size w a zs) :
  Calls Try.prog 80 #[.func (.func 82) #[] #[.pointer (some ⟨Bs, 0, none⟩)]] w fun e W' => ∃ v, e = .returned v ∧ W'.ownsRow w.heap.size 9 1 v zs.length (zs.map encStr) ∧ (v = .slice none 0 0 ↔ zs = []) ∧ Below w.heap.size w W' := by
 have HA := Aside0.mk ((callsIn_wide (n := 5)).1 (AppendSeq_in Fence.wide 5 trivial trivial rfl (by omega) Bs a c zs hlen w hBs hc hL))
 clear hc hL
 go_enter Try.func80, Try.ntmps80
 go_wp2_with fail
 refine HA.out.mono ?_
 clear HA
 rintro e w' ⟨v, rfl, hrow, hnil, hb⟩
 have H := Aside0.mk (And.intro hrow (And.intro hnil hb))
 clear hrow hnil hb
 go_wp2_with fail
 go_ret
 exact ⟨v, rfl, H.out.1, H.out.2.1, H.out.2.2⟩
def srt (zs : List (List UInt8)) : List (List UInt8) := zs.mergeSort fun x y => decide (x ≤ y)
theorem srt_length (zs : List (List UInt8)) : (srt zs).length = zs.length := List.length_mergeSort zs
set_option maxHeartbeats 2000000 in
theorem Sorted_calls (Bs : Nat) (a : Option Addr) (c : Nat) (zs : List (List UInt8)) (hlen : zs.length ≤ 4294967296) (w : World) (hBs : Bs < w.heap.size) (hc : w.cell? ⟨Bs, 0, none⟩ = some (.slice a zs.length c)) (hL : Strs w.heap.size w a zs) :
  Calls Try.prog 75 #[.func (.func 82) #[] #[.pointer (some ⟨Bs, 0, none⟩)]] w fun e W' => ∃ v, e = .returned v ∧ W'.ownsRow w.heap.size 9 1 v (srt zs).length ((srt zs).map encStr) ∧ (v = .slice none 0 0 ↔ zs = []) ∧ Below w.heap.size w W' := by
 have HA := Aside0.mk (Collect_calls Bs a c zs hlen w hBs hc hL)
 clear hc hL
 go_enter Try.func75, Try.ntmps75
 go_wp2_with fail
 refine HA.out.mono ?_
 clear HA
 rintro e W ⟨v, rfl, hrow, hnil, hb⟩
 rcases hrow.2 with ⟨rfl, hz⟩ | ⟨gb, cap, cur, rfl, hbase, hgb, r1, r2, r3, r4⟩
 ·
  have hss : zs = [] := List.eq_nil_of_length_eq_zero hz
  have H := Aside0.mk (And.intro hrow hb)
  clear hrow hb hnil hz
  go_wp2_with fail
  refine (Go.Proofs.Any.slices_Sort_string_none Go.Proofs.Try.lays190 none 0 _).mono ?_
  rintro e w' ⟨rfl, rfl⟩
  go_wp2_with fail
  go_ret
  subst hss
  exact ⟨.slice none 0 0, rfl, by simpa [srt] using H.out.1, by simp, H.out.2⟩
 ·
  have hH : Holds encStr W gb 0 zs.toArray := holds_of_block hgb (by simpa using r4)
  have hgl : gb < W.heap.size := (Array.getElem?_eq_some_iff.1 hgb).1
  have HS := Aside0.mk (Go.Proofs.Any.slices_Sort_string Go.Proofs.Try.lays190 gb 0 cap zs W hH hgl (by omega))
  have H := Aside0.mk (And.intro hb (And.intro hbase (And.intro hgb (And.intro r1 (And.intro r2 r3)))))
  have HN := Aside0.mk (show zs ≠ [] from fun e => by have := hnil.2 e; cases this)
  clear hrow hb hnil hH hgl hgb r1 r2 r3 r4 hbase
  go_wp2_with fail
  refine HS.out.mono ?_
  clear HS
  rintro e w' ⟨rfl, nn, os, rfl⟩
  go_wp2_with fail
  go_ret
  obtain ⟨hb, hbase, hgb, r1, r2, r3⟩ := H.out
  exact ⟨_, rfl, by rw [srt_length]; exact ownsRow_sorted (by simp) hbase hgb r1 r2 r3, ⟨(fun e => by cases e), fun e => absurd e HN.out⟩, hb.grown (grownBy_sorted _) hb.size (fun j hj => by cases hj; exact hbase)⟩
end SV
namespace SV
theorem Strs.mono {n₀ n₁ : Nat} (h : n₀ ≤ n₁) {W : World} {a : Option Addr} {zs : List (List UInt8)} : Strs n₀ W a zs → Strs n₁ W a zs
 | .inl e => .inl e
 | .inr ⟨ad, e, hb, hc⟩ => .inr ⟨ad, e, Nat.lt_of_lt_of_le hb h, hc⟩
set_option maxHeartbeats 1000000 in
theorem Values_calls (a : Option Addr) (n c : Nat) (w : World) :
  Calls Try.prog 76 #[.slice a n c] w fun e w' => e = .returned (.func (.func 82) #[] #[.pointer (some ⟨w.heap.size, 0, none⟩)]) ∧ w' = w.alloc (.cells #[.slice a n c] 50) := by
 go_enter Try.func76, Try.ntmps76
 go_wp2
 go_ret
 exact ⟨rfl, rfl⟩
theorem Compact_calls {w : World} {base : Nat} {v : Value} {ss : List (List UInt8)} (hrow : w.ownsRow base 9 1 v ss.length (ss.map encStr)) (A : Option Addr) (c : Nat) (hv : v = .slice A ss.length c) (hlen : ss.length ≤ 4294967296) :
  Calls Try.prog 74 #[.slice A ss.length c] w fun e w' => ∃ v', e = .returned v' ∧ w'.ownsRow base 9 1 v' (Go.Lib.compact ss).length ((Go.Lib.compact ss).map encStr) ∧ (∀ b, b ≤ base → b ≤ w.heap.size → Below b w w') := by
 rcases hrow.2 with ⟨h1, hz⟩ | ⟨g, cap, cur, h1, hbase, hgb, r1, r2, r3, r4⟩
 ·
  have hss : ss = [] := List.eq_nil_of_length_eq_zero hz
  subst hss
  rw [h1] at hv; cases hv
  refine (Go.Proofs.Any.slices_Compact_string_empty Go.Proofs.Try.lays194 none 0 w).mono ?_
  rintro e w' ⟨rfl, rfl⟩
  exact ⟨_, rfl, World.ownsRow_nil _ _ _ _, fun b _ _ => Below.refl _ _⟩
 ·
  rw [h1] at hv; cases hv
  have hH : Holds encStr w g 0 ss.toArray := holds_of_block hgb (by simpa using r4)
  have hcap : ss.length ≤ c := by omega
  refine (Go.Proofs.Any.slices_Compact_string Go.Proofs.Try.lays194 g 0 c ss w hH (by omega) hcap).mono ?_
  rintro e w' ⟨rfl, q, rfl⟩
  rw [h1] at hrow
  have hle := Go.Lib.compact_length_le ss
  have hc := Go.Lib.ownsRow_putRow (q := q) (k := (Go.Lib.compact ss).length) (ys := Go.Lib.compact ss ++ List.replicate (ss.length - (Go.Lib.compact ss).length) []) hrow (by simp; omega) (by omega)
  rw [List.take_left] at hc
  exact ⟨_, rfl, hc, fun b hb hb2 => Go.Lib.below_putRow (Below.refl _ _) (Nat.le_trans hb hbase)⟩
end SV
end Go.Proofs.Ytnnkedeohfbkeaa.P
namespace Go.Proofs.Ytnnkedeohfbkeaa.P
open Go.RowKit Go.Proofs.YtnnkedeohfbkeaaW.PrintWords Go.Proofs.YtnnkedeohfbkeaaW.PrintLast Go.Proofs.YtnnkedeohfbkeaaW.PrintMore
open Go.Proofs.YtnnkedeohfbkeaaW.PrintWords renaming blk_frozen → bF_, blk_cell → bC_, below_set → bS_, blk_below → bB_, below_step → bT_, pw_below_drewN → bN_, below_size → bZ_, below_drew1 → bD_, below_alloc → bA_, blk_far → bR_, gate_callee → gC_, gate_dst → gD_, box_event → bE_, blk_drew → b1_, blk_put → bP_, blk_drewN → b2_, blk_alloc → b3_, blk_lt → bL_, cell_far → cF_
open Go.Proofs.YtnnkedeohfbkeaaW.PrintLast renaming any_of → aO_, i64_w → i6_, i32_w → i3_, take_ofW → tW_
open Go.Proofs.YtnnkedeohfbkeaaW.PrintWords.Kd renaming R_below → kB_, R_mono → kM_, R_far → kF_, R_reads' → kR_, R_types → kT_, R_slice → kS_, R_celln → kC_, R_alloc → k1_, R_drewN → k2_, R_drew → k3_, C_below → k4_, R_lower → k5_, R_ne → k6_, own_blk → k7_
open Go.Proofs.YtnnkedeohfbkeaaW.PrintWords.LeO renaming none → l0_, bind → l1_, ite → l2_, refl → l3_
open World renaming block_lt_of_cell? → wB_
open _root_.Option renaming bind_eq_some_iff → oB_
open _root_.ByteArray renaming empty → eB_
open List renaming setIfInBounds_toArray → sA_, set_cons_zero → sB_, set_cons_succ → sC_, map_toArray → sD_, map_cons → sE_, map_nil → sF_, length_drop → sG_, length_take → sH_
open Bool renaming true → ty, false → fy
open Aside0 renaming mk → aM_
attribute [local go_sem] max2_int min2_int max_two min_two max_three min_three max_four min_four
def impl_set.f (l0 : List ByteArray) : Option (List ByteArray) := if l0.length ≤ 4294967296 then some ((Go.Lib.compact ((l0.map fun s => s.data.toList).mergeSort fun x y => decide (x ≤ y))).map fun l => (⟨l.toArray⟩ : ByteArray)) else none
theorem impl_set.strs {w : World} {A0 : Option Addr} {l0 : List ByteArray} (hr : Kd.C Kd.string w A0 l0.length l0) : SV.Strs w.heap.size w A0 (l0.map fun s => s.data.toList) := by
 cases l0 with
 | nil => exact .inl rfl
 | cons x l =>
  obtain ⟨ad, e, h0⟩ := Kd.at_string hr 0 (by omega) (by simp)
  have hall : ∀ j, j < (x :: l).length → w.cell? (ad.add j) = some (.string ((x :: l).getD j eB_)) := by
   intro j hj
   obtain ⟨ad', e', h'⟩ := Kd.at_string hr j (by omega) (by omega)
   rw [e] at e'; cases e'
   simpa [rdOf] using h'
  refine .inr ⟨ad, e, by have := wB_ w _ h0; rwa [add_block] at this, fun j hj => ?_⟩
  rw [hall j (by simpa using hj)]
  have hj' : j < (x :: l).length := by simpa using hj
  simp only [Go.Proofs.encStr, List.getElem?_map, List.getD_eq_getElem?_getD, List.getElem?_eq_getElem hj', Option.map_some, Option.getD_some]
theorem impl_set.encs_eq (zs : List (List UInt8)) : encs Value.string (zs.map fun l => (⟨l.toArray⟩ : ByteArray)) = zs.map Go.Proofs.encStr := by
 simp [encs, Go.Proofs.encStr, Function.comp_def]
set_option maxHeartbeats 2000000 in
theorem impl_set.calls (A0 : Option Addr) (c0 : Nat) (l0 : List ByteArray) (r : List ByteArray) (w : World) (hr0 : Kd.C Kd.string w A0 l0.length l0) (hc0 : l0.length ≤ c0) (h : impl_set.f l0 = some r) :
  Calls Try.prog 65 #[.slice A0 l0.length c0] w fun e w' => ∃ v0_ : Value, e = .returned (v0_) ∧ Kd.R Kd.string 9 w' w.heap.size (fun _ => True) v0_ r ∧ Below w.heap.size w w' := by
 unfold impl_set.f at h
 by_cases hlen : l0.length ≤ 4294967296
 rotate_left
 ·
  rw [if_neg hlen] at h; cases h
 rw [if_pos hlen] at h
 obtain ⟨zs, hzs⟩ : ∃ zs, zs = l0.map fun s => s.data.toList := ⟨_, rfl⟩
 have hzl : zs.length = l0.length := by rw [hzs]; simp
 have HS := aM_ (show SV.Strs w.heap.size w A0 zs from hzs ▸ impl_set.strs hr0)
 have HR := aM_ (show (Go.Lib.compact (SV.srt zs)).map (fun l => (⟨l.toArray⟩ : ByteArray)) = r from by rw [hzs]; exact Option.some.inj h)
 have HL := aM_ hzl
 have HN := aM_ hlen
 clear hr0 hc0 h hzs hzl hlen
 go_enter Try.func65, Try.ntmps65
 go_wp2_with fail
 refine (SV.Values_calls A0 l0.length c0 w).mono ?_
 rintro e w1 ⟨rfl, rfl⟩
 have hb1 : Below w.heap.size w (w.alloc (.cells #[.slice A0 l0.length c0] 50)) := (Below.refl _ w).alloc (Nat.le_refl _) _
 have HX := aM_ (SV.Sorted_calls w.heap.size A0 c0 zs (by rw [HL.out]; exact HN.out) (w.alloc (.cells #[.slice A0 l0.length c0] 50)) (by simp) (by rw [HL.out]; simp) ((HS.out.below hb1).mono (by simp)))
 have HB1 := aM_ hb1
 clear hb1
 go_wp2_with fail
 refine HX.out.mono ?_
 clear HX
 rintro e W ⟨v, rfl, hrow, hnil, hb⟩
 obtain ⟨A, c, hv⟩ := own_slice hrow
 have HB2 := aM_ (HB1.out.trans (hb.mono (by simp)))
 have HC := aM_ (SV.Compact_calls hrow A c hv (by rw [SV.srt_length, HL.out]; exact HN.out))
 have HZ := aM_ hb.size
 subst hv
 clear hrow hnil hb
 go_wp2_with fail
 refine HC.out.mono ?_
 clear HC
 rintro e W2 ⟨v2, rfl, hrow2, hb2⟩
 have H2 := aM_ (And.intro hrow2 hb2)
 clear hrow2 hb2
 go_wp2_with fail
 go_ret
 refine ⟨v2, rfl, ?_, HB2.out.trans (H2.out.2 _ (by simp) HB2.out.size)⟩
 rw [← HR.out]
 refine k5_ (Kd.R_of_own (h1 := fun _ => rfl) ?_ (fun _ _ => trivial)) (show w.heap.size ≤ (w.alloc (.cells #[.slice A0 l0.length c0] 50)).heap.size from by simp)
 rw [impl_set.encs_eq, List.length_map]
 exact H2.out.1
def slices_isNaN_string.f (a0 : ByteArray) : Option (Bool) := some (a0.toList != a0.toList)
theorem slices_isNaN_string.calls (a0 : ByteArray) (r : Bool) (w : World) (h : slices_isNaN_string.f a0 = some r) :
  Calls Try.prog 77 #[.string a0] w fun e w' => e = .returned (.bool r) ∧ Drawn0 w w' := by
 have H : (some (a0.toList != a0.toList)) = some r := h
 clear h
 obtain rfl := Option.some.inj H
 go_enter Try.func77, Try.ntmps77
 go_wp2
 go_ret
 exact ⟨by rfl, by repeat (first | exact Drawn0.refl _ | apply Drawn0.step)⟩
def slices_BinarySearch_string_string.l0 : Nat → List ByteArray → ByteArray → Int → Int → Int → Option (Int × Bool)
 | 0, _, _, _, _, _ => none
 | k + 1, x0, x1, x6, x7, x8 => if x7 < x8 then (if 0 ≤ (wrap64 ((IntKind.u64.wrap (wrap64 (x7 + x8))) / 2)) then (if (wrap64 ((IntKind.u64.wrap (wrap64 (x7 + x8))) / 2)) < (x0.length : Int) then ((cmp_Less_string.f (rdOf eB_ x0 (wrap64 ((IntKind.u64.wrap (wrap64 (x7 + x8))) / 2))) x1).bind fun t319 => (if t319 = true then (slices_BinarySearch_string_string.l0 k x0 x1 x6 (wrap64 ((wrap64 ((IntKind.u64.wrap (wrap64 (x7 + x8))) / 2)) + 1)) x8) else (slices_BinarySearch_string_string.l0 k x0 x1 x6 x7 (wrap64 ((IntKind.u64.wrap (wrap64 (x7 + x8))) / 2))))) else (none)) else (none)) else (if x7 < x6 then (if 0 ≤ x7 then (if x7 < (x0.length : Int) then (if (rdOf eB_ x0 x7).toList = x1.toList then (some (x7, true)) else ((slices_isNaN_string.f (rdOf eB_ x0 x7)).bind fun t322 => (if t322 = true then ((slices_isNaN_string.f x1).bind fun t323 => (some (x7, t323))) else (some (x7, false))))) else (none)) else (none)) else (some (x7, false)))
def slices_BinarySearch_string_string.f (k : Nat) (l0 : List ByteArray) (a1 : ByteArray) : Option (Int × Bool) := slices_BinarySearch_string_string.l0 k l0 a1 (l0.length : Int) 0 (l0.length : Int)
theorem slices_BinarySearch_string_string.mono_l : ∀ k, (∀ y0 y1 y2 y3 y4, LeO (slices_BinarySearch_string_string.l0 k y0 y1 y2 y3 y4) (slices_BinarySearch_string_string.l0 (k + 1) y0 y1 y2 y3 y4))
 | 0 => fun _ _ _ _ _ r h => by simp [slices_BinarySearch_string_string.l0] at h
 | k + 1 => by
  have ih0 := slices_BinarySearch_string_string.mono_l k
  ·
   intro y0 y1 y2 y3 y4
   unfold slices_BinarySearch_string_string.l0
   repeat' first
   | (with_reducible exact ih0 _ _ _ _ _)
   | (with_reducible exact l3_ _)
   | (with_reducible exact l0_ _)
   | (with_reducible refine l2_ ?_ ?_)
   | (with_reducible refine l1_ ?_ (fun _ => ?_))
   | exact ih0 _ _ _ _ _
   | exact l0_ _
   | refine l2_ ?_ ?_
   | refine l1_ ?_ (fun _ => ?_)
theorem slices_BinarySearch_string_string.mono : ∀ a0 a1 k, LeO (slices_BinarySearch_string_string.f k a0 a1) (slices_BinarySearch_string_string.f (k + 1) a0 a1) := by
 intro a0 a1 k
 have ih0 := slices_BinarySearch_string_string.mono_l k
 unfold slices_BinarySearch_string_string.f
 repeat' first
   | (with_reducible exact ih0 _ _ _ _ _)
   | (with_reducible exact l3_ _)
   | (with_reducible exact l0_ _)
   | (with_reducible refine l2_ ?_ ?_)
   | (with_reducible refine l1_ ?_ (fun _ => ?_))
   | exact ih0 _ _ _ _ _
   | exact l0_ _
   | refine l2_ ?_ ?_
   | refine l1_ ?_ (fun _ => ?_)
theorem slices_BinarySearch_string_string.calls (k : Nat) (A0 : Option Addr) (c0 : Nat) (l0 : List ByteArray) (a1 : ByteArray) (r1 : Int) (r2 : Bool) (w : World) (hr0 : Kd.C Kd.string w A0 l0.length l0) (hc0 : l0.length ≤ c0) (h : slices_BinarySearch_string_string.f k l0 a1 = some (r1, r2)) :
  Calls Try.prog 66 #[.slice A0 l0.length c0, .string a1] w fun e w' => e = .returned (.tuple #[.int .i64 r1, .bool r2]) ∧ Drawn0 w w' := by
 have HR0 := aM_ hr0
 have HC0 := aM_ hc0
 clear hr0 hc0
 have H : (slices_BinarySearch_string_string.l0 k l0 a1 (l0.length : Int) 0 (l0.length : Int)) = some (r1, r2) := h
 clear h
 have H' := aM_ H
 clear H
 go_enter Try.func66, Try.ntmps66
 go_wp2
 go_loopg [7, 8] k (fun kq v7 v8 w' => ∃ (x7_1 : Int) (x8_1 : Int), v7 = .int .i64 x7_1 ∧ v8 = .int .i64 x8_1 ∧ Aside0 (slices_BinarySearch_string_string.l0 kq l0 a1 (l0.length : Int) x7_1 x8_1 = some (r1, r2)) ∧ Aside0 (kq ≤ k) ∧ Drawn0 w w')
 case atStart => exact ⟨(0), ((l0.length : Int)), (by rfl), (by rfl), H', ⟨Nat.le_refl _⟩, by repeat (first | exact Drawn0.refl _ | apply Drawn0.step)⟩
 case round =>
  clear H'
  try clear p2
  obtain ⟨x7_1, x8_1, rfl, rfl, HA, HK1, ⟨m1, rfl⟩⟩ := hrel
  cases gk with
  | zero => exact absurd HA.out (by simp [slices_BinarySearch_string_string.l0])
  | succ k1 =>
   have H := HA.out
   clear HA
   simp only [slices_BinarySearch_string_string.l0] at H
   by_cases c3 : x7_1 < x8_1
   ·
    rw [if_pos c3] at H
    have c3b0 := decide_eq_true c3
    clear c3
    obtain ⟨ji4, hji4⟩ : ∃ j_ : Int, (wrap64 ((IntKind.u64.wrap (wrap64 (x7_1 + x8_1))) / 2)) = j_ := ⟨_, rfl⟩
    replace H : (if 0 ≤ (ji4) then (if (ji4) < (l0.length : Int) then ((cmp_Less_string.f (rdOf eB_ l0 (ji4)) a1).bind fun t319 => (if t319 = true then (slices_BinarySearch_string_string.l0 k1 l0 a1 (l0.length : Int) (wrap64 ((ji4) + 1)) x8_1) else (slices_BinarySearch_string_string.l0 k1 l0 a1 (l0.length : Int) x7_1 ji4))) else (none)) else (none)) = some (r1, r2) := by first | (rw [hji4] at H; exact H) | (simp only [hji4] at H ⊢; exact H)
    have hji4w : (IntKind.i64.wrap ((IntKind.u64.wrap (wrap64 (x7_1 + x8_1))) / 2)) = ji4 := (i6_ _).trans hji4
    by_cases c5 : 0 ≤ (ji4)
    ·
     rw [if_pos c5] at H
     have c5b0 := decide_eq_true c5
     clear c5
     by_cases c6 : (ji4) < (l0.length : Int)
     ·
      rw [if_pos c6] at H
      have c6b0 := decide_eq_true c6
      clear c6
      replace H := oB_.mp H
      obtain ⟨t319, A70, H⟩ := H
      try dsimp only at H
      have A7 := aM_ A70
      clear A70
      by_cases c8 : t319 = true
      ·
       subst c8
       rw [if_pos rfl] at H
       have H' := aM_ H
       clear H
       have p318 : 0 ≤ ((ji4) : Int) := of_decide_eq_true (by (with_reducible assumption))
       have q318 : (ji4) < (l0.length : Int) := of_decide_eq_true (by (with_reducible assumption))
       obtain ⟨ad318, e318, hx318_0⟩ := Kd.at_string HR0.out (ji4) p318 q318
       cases e318
       replace p318 := eq_true p318
       replace q318 := eq_true q318
       go_wp2_with (first | ((with_reducible refine gC_ (f := 64) rfl ?_); refine goesL_ (some 27) rfl rfl Try.func64 (by kernel_rfl) rfl #[.string (rdOf eB_ l0 (ji4)), .string a1] rfl (by (try simp only [sD_, sE_, sF_]); rfl) ?_; (with_reducible refine (cmp_Less_string.calls (rdOf eB_ l0 (ji4)) a1 true _ A7.out).mono ?_); rintro e w' ⟨rfl, ⟨nd, rfl⟩⟩; refine ⟨_, rfl, ?_⟩))
       go_roundg k1
       case measure => have := HK1.out; omega
       case rel => exact ⟨(wrap64 ((ji4) + 1)), (x8_1), (by rfl), (by rfl), H', ⟨by have := HK1.out; omega⟩, by repeat (first | exact Drawn0.refl _ | apply Drawn0.step)⟩
      ·
       replace c8 := Bool.eq_false_iff.mpr c8
       subst c8
       have H1 : (slices_BinarySearch_string_string.l0 k1 l0 a1 (l0.length : Int) x7_1 ji4) = some (r1, r2) := by rw [if_neg (show ¬ (false = true) by decide)] at H; exact H
       clear H
       have H := H1
       clear H1
       have H' := aM_ H
       clear H
       have p318 : 0 ≤ ((ji4) : Int) := of_decide_eq_true (by (with_reducible assumption))
       have q318 : (ji4) < (l0.length : Int) := of_decide_eq_true (by (with_reducible assumption))
       obtain ⟨ad318, e318, hx318_0⟩ := Kd.at_string HR0.out (ji4) p318 q318
       cases e318
       replace p318 := eq_true p318
       replace q318 := eq_true q318
       go_wp2_with (first | ((with_reducible refine gC_ (f := 64) rfl ?_); refine goesL_ (some 27) rfl rfl Try.func64 (by kernel_rfl) rfl #[.string (rdOf eB_ l0 (ji4)), .string a1] rfl (by (try simp only [sD_, sE_, sF_]); rfl) ?_; (with_reducible refine (cmp_Less_string.calls (rdOf eB_ l0 (ji4)) a1 false _ A7.out).mono ?_); rintro e w' ⟨rfl, ⟨nd, rfl⟩⟩; refine ⟨_, rfl, ?_⟩))
       go_roundg k1
       case measure => have := HK1.out; omega
       case rel => exact ⟨(x7_1), (ji4), (by rfl), (by rfl), H', ⟨by have := HK1.out; omega⟩, by repeat (first | exact Drawn0.refl _ | apply Drawn0.step)⟩
     ·
      rw [if_neg c6] at H
      exact absurd H (by simp)
    ·
     rw [if_neg c5] at H
     exact absurd H (by simp)
   ·
    rw [if_neg c3] at H
    have c3b0 := decide_eq_false c3
    clear c3
    by_cases c9 : x7_1 < (l0.length : Int)
    ·
     rw [if_pos c9] at H
     have c9b0 := decide_eq_true c9
     clear c9
     by_cases c10 : 0 ≤ x7_1
     ·
      rw [if_pos c10] at H
      have c10b0 := decide_eq_true c10
      clear c10
      by_cases c11 : x7_1 < (l0.length : Int)
      ·
       rw [if_pos c11] at H
       have c11b0 := decide_eq_true c11
       clear c11
       by_cases c12 : (rdOf eB_ l0 x7_1).toList = a1.toList
       ·
        rw [if_pos c12] at H
        have c12b0 : ((rdOf eB_ l0 x7_1).toList == a1.toList) = true := beq_iff_eq.mpr c12
        have c12b1 : ((rdOf eB_ l0 x7_1).toList != a1.toList) = false := bne_eq_false_iff_eq.mpr c12
        clear c12
        simp only [Option.some.injEq, Prod.mk.injEq] at H
        obtain ⟨rfl, rfl⟩ := H
        have p320 : 0 ≤ (x7_1 : Int) := of_decide_eq_true (by (with_reducible assumption))
        have q320 : x7_1 < (l0.length : Int) := of_decide_eq_true (by (with_reducible assumption))
        obtain ⟨ad320, e320, hx320_0⟩ := Kd.at_string HR0.out x7_1 p320 q320
        cases e320
        replace p320 := eq_true p320
        replace q320 := eq_true q320
        go_wp2
        go_ret2
        exact ⟨by rfl, by repeat (first | exact Drawn0.refl _ | apply Drawn0.step)⟩
       ·
        rw [if_neg c12] at H
        have c12b0 : ((rdOf eB_ l0 x7_1).toList == a1.toList) = false := beq_eq_false_iff_ne.mpr c12
        have c12b1 : ((rdOf eB_ l0 x7_1).toList != a1.toList) = true := bne_iff_ne.mpr c12
        replace H := oB_.mp H
        obtain ⟨t322, A130, H⟩ := H
        try dsimp only at H
        have A13 := aM_ A130
        clear A130
        by_cases c14 : t322 = true
        ·
         subst c14
         rw [if_pos rfl] at H
         replace H := oB_.mp H
         obtain ⟨t323, A150, H⟩ := H
         try dsimp only at H
         have A15 := aM_ A150
         clear A150
         simp only [Option.some.injEq, Prod.mk.injEq] at H
         obtain ⟨rfl, rfl⟩ := H
         have p320 : 0 ≤ (x7_1 : Int) := of_decide_eq_true (by (with_reducible assumption))
         have q320 : x7_1 < (l0.length : Int) := of_decide_eq_true (by (with_reducible assumption))
         obtain ⟨ad320, e320, hx320_0⟩ := Kd.at_string HR0.out x7_1 p320 q320
         cases e320
         replace p320 := eq_true p320
         replace q320 := eq_true q320
         have p321 : 0 ≤ (x7_1 : Int) := of_decide_eq_true (by (with_reducible assumption))
         have q321 : x7_1 < (l0.length : Int) := of_decide_eq_true (by (with_reducible assumption))
         obtain ⟨ad321, e321, hx321_0⟩ := Kd.at_string HR0.out x7_1 p321 q321
         obtain rfl : ad320 = ad321 := (by injection e321)
         replace p321 := eq_true p321
         replace q321 := eq_true q321
         go_wp2_with (first | (go_at_call 77; (with_reducible refine (slices_isNaN_string.calls (rdOf eB_ l0 x7_1) true _ A13.out).mono ?_); rintro e w' ⟨rfl, ⟨nd, rfl⟩⟩) | (go_at_call 77; (with_reducible refine (slices_isNaN_string.calls a1 t323 _ A15.out).mono ?_); rintro e w' ⟨rfl, ⟨nd, rfl⟩⟩))
         go_ret2
         exact ⟨by rfl, by repeat (first | exact Drawn0.refl _ | apply Drawn0.step)⟩
        ·
         replace c14 := Bool.eq_false_iff.mpr c14
         subst c14
         have H1 : (some (x7_1, false)) = some (r1, r2) := by rw [if_neg (show ¬ (false = true) by decide)] at H; exact H
         clear H
         have H := H1
         clear H1
         simp only [Option.some.injEq, Prod.mk.injEq] at H
         obtain ⟨rfl, rfl⟩ := H
         have p320 : 0 ≤ (x7_1 : Int) := of_decide_eq_true (by (with_reducible assumption))
         have q320 : x7_1 < (l0.length : Int) := of_decide_eq_true (by (with_reducible assumption))
         obtain ⟨ad320, e320, hx320_0⟩ := Kd.at_string HR0.out x7_1 p320 q320
         cases e320
         replace p320 := eq_true p320
         replace q320 := eq_true q320
         have p321 : 0 ≤ (x7_1 : Int) := of_decide_eq_true (by (with_reducible assumption))
         have q321 : x7_1 < (l0.length : Int) := of_decide_eq_true (by (with_reducible assumption))
         obtain ⟨ad321, e321, hx321_0⟩ := Kd.at_string HR0.out x7_1 p321 q321
         obtain rfl : ad320 = ad321 := (by injection e321)
         replace p321 := eq_true p321
         replace q321 := eq_true q321
         go_wp2_with (first | (go_at_call 77; (with_reducible refine (slices_isNaN_string.calls (rdOf eB_ l0 x7_1) false _ A13.out).mono ?_); rintro e w' ⟨rfl, ⟨nd, rfl⟩⟩))
         go_ret2
         exact ⟨by rfl, by repeat (first | exact Drawn0.refl _ | apply Drawn0.step)⟩
      ·
       rw [if_neg c11] at H
       exact absurd H (by simp)
     ·
      rw [if_neg c10] at H
      exact absurd H (by simp)
    ·
     rw [if_neg c9] at H
     have c9b0 := decide_eq_false c9
     clear c9
     simp only [Option.some.injEq, Prod.mk.injEq] at H
     obtain ⟨rfl, rfl⟩ := H
     go_wp2
     go_ret2
     exact ⟨by rfl, by repeat (first | exact Drawn0.refl _ | apply Drawn0.step)⟩
end Go.Proofs.Ytnnkedeohfbkeaa.P
