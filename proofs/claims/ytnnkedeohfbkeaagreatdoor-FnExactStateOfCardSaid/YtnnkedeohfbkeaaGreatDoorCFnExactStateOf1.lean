/-
  Part 2 of the proof that FnExactStateOf returns true for every input: the functions that it reaches, each with its contract, and the law.
  Conditions: those of the given statement, no others.
-/
import Derived.Test.YtnnkedeohfbkeaaGreatDoorCFnExactStateOfW0
import Derived.Maps.OwnOps
import Derived.Maps.Views
import Derived.Lib.SliceRun
import Derived.Shelf.Abstract
import Derived.Test.YtnnkedeohfbkeaaGreatDoorCFnExactStateOf0
set_option linter.unusedVariables false
set_option linter.unusedSimpArgs false
set_option maxHeartbeats 8000000
set_option maxRecDepth 100000
namespace Go.Proofs.YtnnkedeohfbkeaaGreatDoor.P
open Go.RowKit Go.Proofs.YtnnkedeohfbkeaaGreatDoorW.PrintWords Go.Proofs.YtnnkedeohfbkeaaGreatDoorW.PrintLast Go.Proofs.YtnnkedeohfbkeaaGreatDoorW.PrintMore
open Go.Proofs.YtnnkedeohfbkeaaGreatDoorW.PrintWords renaming blk_frozen → bF_, blk_cell → bC_, below_set → bS_, blk_below → bB_, below_step → bT_, pw_below_drewN → bN_, below_size → bZ_, below_drew1 → bD_, below_alloc → bA_, blk_far → bR_, gate_callee → gC_, gate_dst → gD_, box_event → bE_, blk_drew → b1_, blk_put → bP_, blk_drewN → b2_, blk_alloc → b3_, blk_lt → bL_, cell_far → cF_
open Go.Proofs.YtnnkedeohfbkeaaGreatDoorW.PrintLast renaming any_of → aO_, i64_w → i6_, i32_w → i3_, take_ofW → tW_
open Go.Proofs.YtnnkedeohfbkeaaGreatDoorW.PrintWords.Kd renaming R_below → kB_, R_mono → kM_, R_far → kF_, R_reads' → kR_, R_types → kT_, R_slice → kS_, R_celln → kC_, R_alloc → k1_, R_drewN → k2_, R_drew → k3_, C_below → k4_, R_lower → k5_, R_ne → k6_, own_blk → k7_
open Go.Proofs.YtnnkedeohfbkeaaGreatDoorW.PrintWords.LeO renaming none → l0_, bind → l1_, ite → l2_, refl → l3_
open World renaming block_lt_of_cell? → wB_
open _root_.Option renaming bind_eq_some_iff → oB_
open _root_.ByteArray renaming empty → eB_
open List renaming setIfInBounds_toArray → sA_, set_cons_zero → sB_, set_cons_succ → sC_, map_toArray → sD_, map_cons → sE_, map_nil → sF_, length_drop → sG_, length_take → sH_
open Bool renaming true → ty, false → fy
open Aside0 renaming mk → aM_
attribute [local go_sem] max2_int min2_int max_two min_two max_three min_three max_four min_four
mutual
def sF66.j0 : Nat → List (List Int) → List Int → Int → Int → Bool → List (S96) → Option (Bool)
 | 0, _, _, _, _, _, _ => none
 | k + 1, x1, x2, x3, x4, x39, x225000 => if x39 = true then (some false) else (sF66.l0 k x1 x2 x3 x4 0 x225000)
def sF66.l0 : Nat → List (List Int) → List Int → Int → Int → Int → List (S96) → Option (Bool)
 | 0, _, _, _, _, _, _ => none
 | k + 1, x1, x2, x3, x4, x11, x225000 => if 0 ≤ x3 then (if x3 < (x1.length : Int) then (if x11 < ((rd_L10 x1 x3).length : Int) then (if 0 ≤ x11 then (if 0 ≤ x4 then (if x4 < (x1.length : Int) then (if x11 < ((rd_L10 x1 x4).length : Int) then (if 0 ≤ (rd (rd_L10 x1 x3) x11) then (if (rd (rd_L10 x1 x3) x11) < (x225000.length : Int) then (if 0 ≤ (rd (rd_L10 x1 x4) x11) then (if (rd (rd_L10 x1 x4) x11) < (x225000.length : Int) then (if ((rd_T96 x225000 (rd (rd_L10 x1 x3) x11)).f0) = ((rd_T96 x225000 (rd (rd_L10 x1 x4) x11)).f0) then (if (rd (rd_L10 x1 x3) x11) < (x2.length : Int) then (if (rd (rd_L10 x1 x4) x11) < (x2.length : Int) then (if (rd x2 (rd (rd_L10 x1 x3) x11)) = (rd x2 (rd (rd_L10 x1 x4) x11)) then (sF66.l0 k x1 x2 x3 x4 (wrap64 (x11 + 1)) x225000) else (some false)) else (none)) else (none)) else (some false)) else (none)) else (none)) else (none)) else (none)) else (none)) else (none)) else (none)) else (none)) else (some true)) else (none)) else (none)
end
def sF66.f (k : Nat) (l0_0 : List (S96)) (l1 : List (List Int)) (l2 : List Int) (a3 : Int) (a4 : Int) : Option (Bool) := if 0 ≤ a3 then (if a3 < (l0_0.length : Int) then (if 0 ≤ a4 then (if a4 < (l0_0.length : Int) then (if (((rd_T96 l0_0 a3).f2) != ((rd_T96 l0_0 a4).f2)) = true then (sF66.j0 k l1 l2 a3 a4 true l0_0) else (if a3 < (l1.length : Int) then (if a4 < (l1.length : Int) then (sF66.j0 k l1 l2 a3 a4 (((rd_L10 l1 a3).length : Int) != ((rd_L10 l1 a4).length : Int)) l0_0) else (none)) else (none))) else (none)) else (none)) else (none)) else (none)
theorem sF66.mono_l : ∀ k, (∀ y0 y1 y2 y3 y4 y5, LeO (sF66.j0 k y0 y1 y2 y3 y4 y5) (sF66.j0 (k + 1) y0 y1 y2 y3 y4 y5)) ∧ (∀ y0 y1 y2 y3 y4 y5, LeO (sF66.l0 k y0 y1 y2 y3 y4 y5) (sF66.l0 (k + 1) y0 y1 y2 y3 y4 y5))
 | 0 => ⟨fun _ _ _ _ _ _ r h => by simp [sF66.j0] at h, fun _ _ _ _ _ _ r h => by simp [sF66.l0] at h⟩
 | k + 1 => by
  obtain ⟨ih0, ih1⟩ := sF66.mono_l k
  refine ⟨?_, ?_⟩
  ·
   intro y0 y1 y2 y3 y4 y5
   unfold sF66.j0
   repeat' with_reducible first | exact ih0 _ _ _ _ _ _ | exact ih1 _ _ _ _ _ _ | exact l3_ _ | exact l0_ _ | refine l2_ ?_ ?_ | refine l1_ ?_ (fun _ => ?_)
  intro y0 y1 y2 y3 y4 y5
  unfold sF66.l0
  repeat' with_reducible first | exact ih0 _ _ _ _ _ _ | exact ih1 _ _ _ _ _ _ | exact l3_ _ | exact l0_ _ | refine l2_ ?_ ?_ | refine l1_ ?_ (fun _ => ?_)
theorem sF66.mono : ∀ a0 a1 a2 a3 a4 k, LeO (sF66.f k a0 a1 a2 a3 a4) (sF66.f (k + 1) a0 a1 a2 a3 a4) := by
 intro a0 a1 a2 a3 a4 k
 obtain ⟨ih0, ih1⟩ := sF66.mono_l k
 unfold sF66.f
 repeat' with_reducible first | exact ih0 _ _ _ _ _ _ | exact ih1 _ _ _ _ _ _ | exact l3_ _ | exact l0_ _ | refine l2_ ?_ ?_ | refine l1_ ?_ (fun _ => ?_)
theorem sF66.calls (k : Nat) (A0_0 : Option Addr) (c0_0 : Nat) (l0_0 : List (S96)) (A1 : Option Addr) (c1 : Nat) (l1 : List (List Int)) (A2 : Option Addr) (c2 : Nat) (l2 : List Int) (a3 : Int) (a4 : Int) (r : Bool) (w : World) (hr0_0 : Kd.C k96 w A0_0 l0_0.length l0_0) (hc0_0 : l0_0.length ≤ c0_0) (hr1 : Kd.C (Kd.slice 3 (Kd.int .i64)) w A1 l1.length l1) (hc1 : l1.length ≤ c1) (hr2 : Kd.C (Kd.int .i64) w A2 l2.length l2) (hc2 : l2.length ≤ c2) (h : sF66.f k l0_0 l1 l2 a3 a4 = some r) :
  Calls Tryz.prog 121 #[.agg #[.slice A0_0 l0_0.length c0_0], .slice A1 l1.length c1, .slice A2 l2.length c2, .int .i64 a3, .int .i64 a4] w fun e w' => e = .returned (.bool r) ∧ Below w.heap.size w w' := by
 have hu28 := Tryz.underlying28
 have HR0_0 := aM_ hr0_0
 have HC0_0 := aM_ hc0_0
 clear hr0_0 hc0_0
 have HR1 := aM_ hr1
 have HC1 := aM_ hc1
 clear hr1 hc1
 have HR2 := aM_ hr2
 have HC2 := aM_ hc2
 clear hr2 hc2
 have HB := aM_ (Below.refl w.heap.size w)
 have H : (if 0 ≤ a3 then (if a3 < (l0_0.length : Int) then (if 0 ≤ a4 then (if a4 < (l0_0.length : Int) then (if (((rd_T96 l0_0 a3).f2) != ((rd_T96 l0_0 a4).f2)) = true then (sF66.j0 k l1 l2 a3 a4 true l0_0) else (if a3 < (l1.length : Int) then (if a4 < (l1.length : Int) then (sF66.j0 k l1 l2 a3 a4 (((rd_L10 l1 a3).length : Int) != ((rd_L10 l1 a4).length : Int)) l0_0) else (none)) else (none))) else (none)) else (none)) else (none)) else (none)) = some r := h
 clear h
 have HC6 := aM_ H
 clear H
 go_enter Tryz.func121, Tryz.ntmps121
 go_upto_region 1 with (first | ((with_reducible refine gD_ (N := 5) rfl ?_); (try (refine gate_guard (by rfl) ?_; dsimp only)); refine bE_ ?hg (N := 5) ?hd (cs := #[.slice A0_0 l0_0.length c0_0]) (t := 28) ?hr ?_; (case hd => rfl); (case hg => rfl); (case hr => (go_simp; done)); intro gb224 hg w7 hbox hb; have BK224 := aM_ (hbox); have GW224 := gw_ hg HB; replace HB := b4_ HB hb; clear hb hbox hg))
 repeat (go_quiet (first | ((with_reducible refine gD_ (N := 5) rfl ?_); (try (refine gate_guard (by rfl) ?_; dsimp only)); refine bE_ ?hg (N := 5) ?hd (cs := #[.slice A0_0 l0_0.length c0_0]) (t := 28) ?hr ?_; (case hd => rfl); (case hg => rfl); (case hr => first | (go_simp; done) | (go_simp; rfl)); intro gb224 hg w7 hbox hb; have BK224 := aM_ (hbox); have GW224 := aM_ ((by rw [hg]; exact (bZ_ (by repeat with_reducible first | exact HB.out | apply bA_ | apply bN_ | apply bD_)) : w.heap.size ≤ gb224)); replace HB := aM_ (bT_ (by repeat with_reducible first | exact HB.out | apply bA_ | apply bN_ | apply bD_) hb); clear hb hbox hg)); go_upto_region 1 with (first | ((with_reducible refine gD_ (N := 5) rfl ?_); (try (refine gate_guard (by rfl) ?_; dsimp only)); refine bE_ ?hg (N := 5) ?hd (cs := #[.slice A0_0 l0_0.length c0_0]) (t := 28) ?hr ?_; (case hd => rfl); (case hg => rfl); (case hr => first | (go_simp; done) | (go_simp; rfl)); intro gb224 hg w7 hbox hb; have BK224 := aM_ (hbox); have GW224 := aM_ ((by rw [hg]; exact (bZ_ (by repeat with_reducible first | exact HB.out | apply bA_ | apply bN_ | apply bD_)) : w.heap.size ≤ gb224)); replace HB := aM_ (bT_ (by repeat with_reducible first | exact HB.out | apply bA_ | apply bN_ | apply bD_) hb); clear hb hbox hg)))
 (try simp only [Act.put, sA_, sB_, sC_])
 go_cut [39] (fun v39 wc => ∃ (kq : Nat) (x39_5 : Bool), v39 = .bool x39_5 ∧ Aside0 (sF66.j0 kq l1 l2 a3 a4 x39_5 l0_0 = some r) ∧ Aside0 (kq ≤ k) ∧ Aside0 (wc.heap[gb224]? = some (.cells #[(.slice A0_0 l0_0.length c0_0)] 28 (0, 0))) ∧ Aside0 (Below w.heap.size w wc))
 case first =>
  have H := HC6.out
  clear HC6
  by_cases c8 : 0 ≤ a3
  rotate_left
  ·
   rw [if_neg c8] at H
   exact absurd H (by simp)
  rw [if_pos c8] at H
  have c8b0 := dT_ c8
  clear c8
  (skip)
  by_cases c9 : a3 < (l0_0.length : Int)
  rotate_left
  ·
   rw [if_neg c9] at H
   exact absurd H (by simp)
  rw [if_pos c9] at H
  have c9b0 := dT_ c9
  clear c9
  by_cases c10 : 0 ≤ a4
  rotate_left
  ·
   rw [if_neg c10] at H
   exact absurd H (by simp)
  rw [if_pos c10] at H
  have c10b0 := dT_ c10
  clear c10
  by_cases c11 : a4 < (l0_0.length : Int)
  rotate_left
  ·
   rw [if_neg c11] at H
   exact absurd H (by simp)
  rw [if_pos c11] at H
  have c11b0 := dT_ c11
  clear c11
  by_cases c12 : (((rd_T96 l0_0 a3).f2) != ((rd_T96 l0_0 a4).f2)) = true
  ·
   rw [if_pos c12] at H
   have c12b0 : (((rd_T96 l0_0 a3).f2) != ((rd_T96 l0_0 a4).f2)) = true := c12
   (try (have c12b1 : decide (((rd_T96 l0_0 a3).f2) = ((rd_T96 l0_0 a4).f2)) = false := by simpa using c12))
   (try (have c12b2 : (((rd_T96 l0_0 a3).f2) == ((rd_T96 l0_0 a4).f2)) = false := by simpa using c12))
   (try (have c12b3 : ¬ (((rd_T96 l0_0 a3).f2) = ((rd_T96 l0_0 a4).f2)) := by simpa using c12))
   clear c12
   have H' := aM_ H
   clear H
   have hcz13_0 := c0_ BK224
   have hfz13_0 := bF_ BK224.out 0
   have p225 : 0 ≤ (a3 : Int) := oD_ ‹_›
   have q225 : a3 < (l0_0.length : Int) := oD_ ‹_›
   obtain ⟨ad225, e225, hx225_0, hx225_1, hx225_2⟩ := at_T96 HR0_0.out a3 p225 q225
   cases e225
   replace hx225_0 := cb_ HB hx225_0
   replace hx225_1 := cb_ HB hx225_1
   replace hx225_2 := cb_ HB hx225_2
   replace p225 := eq_true p225
   replace q225 := eq_true q225
   have p226 : 0 ≤ (a4 : Int) := oD_ ‹_›
   have q226 : a4 < (l0_0.length : Int) := oD_ ‹_›
   obtain ⟨ad226, e226, hx226_0, hx226_1, hx226_2⟩ := at_T96 HR0_0.out a4 p226 q226
   obtain rfl : ad225 = ad226 := (by injection e226)
   replace hx226_0 := cb_ HB hx226_0
   replace hx226_1 := cb_ HB hx226_1
   replace hx226_2 := cb_ HB hx226_2
   replace p226 := eq_true p226
   replace q226 := eq_true q226
   go_wp2
   repeat (go_quiet (fail); try go_wp2)
   go_meet
   case rel => exact ⟨_, (true), (by rfl), H', ⟨by omega⟩, ⟨by (with_reducible repeat (first | refine b2_ ?_ _ | refine b1_ ?_ | refine b3_ ?_ _)); exact BK224.out⟩, ⟨by repeat with_reducible first | exact HB.out | apply bA_ | apply bN_ | apply bD_ | refine bS_ ?_ GW224.out⟩⟩
  rw [if_neg c12] at H
  have c12b0 : (((rd_T96 l0_0 a3).f2) != ((rd_T96 l0_0 a4).f2)) = false := by simpa using c12
  (try (have c12b1 : decide (((rd_T96 l0_0 a3).f2) = ((rd_T96 l0_0 a4).f2)) = true := by simpa using c12))
  (try (have c12b2 : (((rd_T96 l0_0 a3).f2) == ((rd_T96 l0_0 a4).f2)) = true := by simpa using c12))
  clear c12
  by_cases c14 : a3 < (l1.length : Int)
  rotate_left
  ·
   rw [if_neg c14] at H
   exact absurd H (by simp)
  rw [if_pos c14] at H
  have c14b0 := dT_ c14
  clear c14
  by_cases c15 : a4 < (l1.length : Int)
  rotate_left
  ·
   rw [if_neg c15] at H
   exact absurd H (by simp)
  rw [if_pos c15] at H
  have c15b0 := dT_ c15
  clear c15
  have H' := aM_ H
  clear H
  have hcz16_0 := c0_ BK224
  have hfz16_0 := bF_ BK224.out 0
  have p225 : 0 ≤ (a3 : Int) := oD_ ‹_›
  have q225 : a3 < (l0_0.length : Int) := oD_ ‹_›
  obtain ⟨ad225, e225, hx225_0, hx225_1, hx225_2⟩ := at_T96 HR0_0.out a3 p225 q225
  cases e225
  replace hx225_0 := cb_ HB hx225_0
  replace hx225_1 := cb_ HB hx225_1
  replace hx225_2 := cb_ HB hx225_2
  replace p225 := eq_true p225
  replace q225 := eq_true q225
  have p226 : 0 ≤ (a4 : Int) := oD_ ‹_›
  have q226 : a4 < (l0_0.length : Int) := oD_ ‹_›
  obtain ⟨ad226, e226, hx226_0, hx226_1, hx226_2⟩ := at_T96 HR0_0.out a4 p226 q226
  obtain rfl : ad225 = ad226 := (by injection e226)
  replace hx226_0 := cb_ HB hx226_0
  replace hx226_1 := cb_ HB hx226_1
  replace hx226_2 := cb_ HB hx226_2
  replace p226 := eq_true p226
  replace q226 := eq_true q226
  have p227 : 0 ≤ (a3 : Int) := oD_ ‹_›
  have q227 : a3 < (l1.length : Int) := oD_ ‹_›
  obtain ⟨ad227, A227_0, c227_0, e227, hx227_0, hl227_0, hi227_0⟩ := at_L10 HR1.out a3 p227 q227
  cases e227
  replace hx227_0 := cb_ HB hx227_0
  have HR227_0 := aM_ hi227_0
  have HC227_0 := aM_ hl227_0
  clear hi227_0 hl227_0
  replace p227 := eq_true p227
  replace q227 := eq_true q227
  have p228 : 0 ≤ (a4 : Int) := oD_ ‹_›
  have q228 : a4 < (l1.length : Int) := oD_ ‹_›
  obtain ⟨ad228, A228_0, c228_0, e228, hx228_0, hl228_0, hi228_0⟩ := at_L10 HR1.out a4 p228 q228
  obtain rfl : ad227 = ad228 := (by injection e228)
  replace hx228_0 := cb_ HB hx228_0
  have HR228_0 := aM_ hi228_0
  have HC228_0 := aM_ hl228_0
  clear hi228_0 hl228_0
  replace p228 := eq_true p228
  replace q228 := eq_true q228
  go_wp2
  repeat (go_quiet (fail); try go_wp2)
  go_meet
  case rel => exact ⟨_, ((((rd_L10 l1 a3).length : Int) != ((rd_L10 l1 a4).length : Int))), (by rfl), H', ⟨by omega⟩, ⟨by (with_reducible repeat (first | refine b2_ ?_ _ | refine b1_ ?_ | refine b3_ ?_ _)); exact BK224.out⟩, ⟨by repeat with_reducible first | exact HB.out | apply bA_ | apply bN_ | apply bD_ | refine bS_ ?_ GW224.out⟩⟩
 clear HC6
 try clear p2
 try clear q2
 try clear hx2
 try clear c8b0
 try clear c9b0
 try clear c10b0
 try clear c11b0
 try clear c12b0
 try clear c12b1
 try clear c12b2
 try clear c14b0
 try clear c15b0
 try clear hcz13_0
 try clear hcz16_0
 try clear hfz13_0
 try clear hfz16_0
 try clear hx225_0
 try clear hx225_1
 try clear hx225_2
 try clear hx226_0
 try clear hx226_1
 try clear hx226_2
 try clear hx227_0
 try clear hx228_0
 try clear p225
 try clear p226
 try clear p227
 try clear p228
 try clear q225
 try clear q226
 try clear q227
 try clear q228
 obtain ⟨kq, x39_5, rfl, HA, HJ5, BK224, HB⟩ := hcut
 cases kq with
 | zero => exact absurd HA.out (by simp [sF66.j0])
 | succ kj5 =>
  have H := HA.out
  clear HA
  simp only [sF66.j0] at H
  by_cases c17 : x39_5 = true
  ·
   subst c17
   rw [if_pos rfl] at H
   obtain rfl := Option.some.inj H
   go_wp2
   repeat (go_quiet (fail); try go_wp2)
   go_ret
   exact ⟨by rfl, by exact HB.out⟩
  replace c17 := Bool.eq_false_iff.mpr c17
  subst c17
  replace H : (sF66.l0 kj5 l1 l2 a3 a4 0 l0_0) = some r := by rw [if_neg (show ¬ (false = true) by decide)] at H; exact H
  have H' := aM_ H
  clear H
  go_wp2
  repeat (go_quiet (fail); try go_wp2)
  go_loopg [11] kj5 (fun kq v11 w' => ∃ (x11_2 : Int), v11 = .int .i64 x11_2 ∧ Aside0 (sF66.l0 kq l1 l2 a3 a4 x11_2 l0_0 = some r) ∧ Aside0 (kq ≤ kj5) ∧ Aside0 (w'.heap[gb224]? = some (.cells #[(.slice A0_0 l0_0.length c0_0)] 28 (0, 0))) ∧ Aside0 (Below w.heap.size w w'))
  case atStart => exact ⟨(0), (by rfl), H', ⟨Nat.le_refl _⟩, ⟨BK224.out⟩, ⟨HB.out⟩⟩
  clear H'
  try clear p2
  try clear q2
  try clear hx2
  try clear c8b0
  try clear c9b0
  try clear c10b0
  try clear c11b0
  try clear c12b0
  try clear c12b1
  try clear c12b2
  try clear c14b0
  try clear c15b0
  try clear hcz13_0
  try clear hcz16_0
  try clear hfz13_0
  try clear hfz16_0
  try clear hx225_0
  try clear hx225_1
  try clear hx225_2
  try clear hx226_0
  try clear hx226_1
  try clear hx226_2
  try clear hx227_0
  try clear hx228_0
  try clear p2
  try clear p225
  try clear p226
  try clear p227
  try clear p228
  try clear q2
  try clear q225
  try clear q226
  try clear q227
  try clear q228
  obtain ⟨x11_2, rfl, HA, HK2, BK224, HB⟩ := hrel
  cases gk with
  | zero => exact absurd HA.out (by simp [sF66.l0])
  | succ k2 =>
   have H := HA.out
   clear HA
   simp only [sF66.l0] at H
   by_cases c18 : 0 ≤ a3
   rotate_left
   ·
    rw [if_neg c18] at H
    exact absurd H (by simp)
   rw [if_pos c18] at H
   have c18b0 := dT_ c18
   clear c18
   by_cases c19 : a3 < (l1.length : Int)
   rotate_left
   ·
    rw [if_neg c19] at H
    exact absurd H (by simp)
   rw [if_pos c19] at H
   have c19b0 := dT_ c19
   clear c19
   by_cases c20 : x11_2 < ((rd_L10 l1 a3).length : Int)
   rotate_left
   ·
    rw [if_neg c20] at H
    have c20b0 := dF_ c20
    clear c20
    obtain rfl := Option.some.inj H
    have p229 : 0 ≤ (a3 : Int) := oD_ ‹_›
    have q229 : a3 < (l1.length : Int) := oD_ ‹_›
    obtain ⟨ad229, A229_0, c229_0, e229, hx229_0, hl229_0, hi229_0⟩ := at_L10 HR1.out a3 p229 q229
    cases e229
    replace hx229_0 := cb_ HB hx229_0
    have HR229_0 := aM_ hi229_0
    have HC229_0 := aM_ hl229_0
    clear hi229_0 hl229_0
    replace p229 := eq_true p229
    replace q229 := eq_true q229
    go_wp2
    repeat (go_quiet (fail); try go_wp2)
    go_ret
    exact ⟨by rfl, by exact HB.out⟩
   rw [if_pos c20] at H
   have c20b0 := dT_ c20
   clear c20
   by_cases c21 : 0 ≤ x11_2
   rotate_left
   ·
    rw [if_neg c21] at H
    exact absurd H (by simp)
   rw [if_pos c21] at H
   have c21b0 := dT_ c21
   clear c21
   by_cases c22 : 0 ≤ a4
   rotate_left
   ·
    rw [if_neg c22] at H
    exact absurd H (by simp)
   rw [if_pos c22] at H
   have c22b0 := dT_ c22
   clear c22
   by_cases c23 : a4 < (l1.length : Int)
   rotate_left
   ·
    rw [if_neg c23] at H
    exact absurd H (by simp)
   rw [if_pos c23] at H
   have c23b0 := dT_ c23
   clear c23
   by_cases c24 : x11_2 < ((rd_L10 l1 a4).length : Int)
   rotate_left
   ·
    rw [if_neg c24] at H
    exact absurd H (by simp)
   rw [if_pos c24] at H
   have c24b0 := dT_ c24
   clear c24
   by_cases c25 : 0 ≤ (rd (rd_L10 l1 a3) x11_2)
   rotate_left
   ·
    rw [if_neg c25] at H
    exact absurd H (by simp)
   rw [if_pos c25] at H
   have c25b0 := dT_ c25
   clear c25
   by_cases c26 : (rd (rd_L10 l1 a3) x11_2) < (l0_0.length : Int)
   rotate_left
   ·
    rw [if_neg c26] at H
    exact absurd H (by simp)
   rw [if_pos c26] at H
   have c26b0 := dT_ c26
   clear c26
   by_cases c27 : 0 ≤ (rd (rd_L10 l1 a4) x11_2)
   rotate_left
   ·
    rw [if_neg c27] at H
    exact absurd H (by simp)
   rw [if_pos c27] at H
   have c27b0 := dT_ c27
   clear c27
   by_cases c28 : (rd (rd_L10 l1 a4) x11_2) < (l0_0.length : Int)
   rotate_left
   ·
    rw [if_neg c28] at H
    exact absurd H (by simp)
   rw [if_pos c28] at H
   have c28b0 := dT_ c28
   clear c28
   by_cases c29 : ((rd_T96 l0_0 (rd (rd_L10 l1 a3) x11_2)).f0) = ((rd_T96 l0_0 (rd (rd_L10 l1 a4) x11_2)).f0)
   rotate_left
   ·
    rw [if_neg c29] at H
    have c29b0 : (((rd_T96 l0_0 (rd (rd_L10 l1 a3) x11_2)).f0) == ((rd_T96 l0_0 (rd (rd_L10 l1 a4) x11_2)).f0)) = false := beq_eq_false_iff_ne.mpr c29
    have c29b1 : (((rd_T96 l0_0 (rd (rd_L10 l1 a3) x11_2)).f0) != ((rd_T96 l0_0 (rd (rd_L10 l1 a4) x11_2)).f0)) = true := bne_iff_ne.mpr c29
    obtain rfl := Option.some.inj H
    have p229 : 0 ≤ (a3 : Int) := oD_ ‹_›
    have q229 : a3 < (l1.length : Int) := oD_ ‹_›
    obtain ⟨ad229, A229_0, c229_0, e229, hx229_0, hl229_0, hi229_0⟩ := at_L10 HR1.out a3 p229 q229
    cases e229
    replace hx229_0 := cb_ HB hx229_0
    have HR229_0 := aM_ hi229_0
    have HC229_0 := aM_ hl229_0
    clear hi229_0 hl229_0
    replace p229 := eq_true p229
    replace q229 := eq_true q229
    have p230 : 0 ≤ (a3 : Int) := oD_ ‹_›
    have q230 : a3 < (l1.length : Int) := oD_ ‹_›
    obtain ⟨ad230, A230_0, c230_0, e230, hx230_0, hl230_0, hi230_0⟩ := at_L10 HR1.out a3 p230 q230
    obtain rfl : ad229 = ad230 := (by injection e230)
    replace hx230_0 := cb_ HB hx230_0
    have HR230_0 := aM_ hi230_0
    have HC230_0 := aM_ hl230_0
    clear hi230_0 hl230_0
    replace p230 := eq_true p230
    replace q230 := eq_true q230
    have ea_ := Option.some.inj (hx229_0.symm.trans hx230_0)
    injection ea_ with ea_ en_ ec_
    subst ea_
    subst ec_
    clear en_
    have p231 : 0 ≤ (x11_2 : Int) := oD_ ‹_›
    have q231 : x11_2 < ((rd_L10 l1 a3).length : Int) := oD_ ‹_›
    obtain ⟨ad231, e231, hx231_0⟩ := Kd.at_int HR230_0.out x11_2 p231 q231
    cases e231
    replace hx231_0 := cb_ HB hx231_0
    replace p231 := eq_true p231
    replace q231 := eq_true q231
    have p232 : 0 ≤ (a4 : Int) := oD_ ‹_›
    have q232 : a4 < (l1.length : Int) := oD_ ‹_›
    obtain ⟨ad232, A232_0, c232_0, e232, hx232_0, hl232_0, hi232_0⟩ := at_L10 HR1.out a4 p232 q232
    obtain rfl : ad229 = ad232 := (by injection e232)
    replace hx232_0 := cb_ HB hx232_0
    have HR232_0 := aM_ hi232_0
    have HC232_0 := aM_ hl232_0
    clear hi232_0 hl232_0
    replace p232 := eq_true p232
    replace q232 := eq_true q232
    have p233 : 0 ≤ (x11_2 : Int) := oD_ ‹_›
    have q233 : x11_2 < ((rd_L10 l1 a4).length : Int) := oD_ ‹_›
    obtain ⟨ad233, e233, hx233_0⟩ := Kd.at_int HR232_0.out x11_2 p233 q233
    cases e233
    replace hx233_0 := cb_ HB hx233_0
    replace p233 := eq_true p233
    replace q233 := eq_true q233
    have hcz35_0 := c0_ BK224
    have hfz35_0 := bF_ BK224.out 0
    have p234 : 0 ≤ ((rd (rd_L10 l1 a3) x11_2) : Int) := oD_ ‹_›
    have q234 : (rd (rd_L10 l1 a3) x11_2) < (l0_0.length : Int) := oD_ ‹_›
    obtain ⟨ad234, e234, hx234_0, hx234_1, hx234_2⟩ := at_T96 HR0_0.out (rd (rd_L10 l1 a3) x11_2) p234 q234
    cases e234
    replace hx234_0 := cb_ HB hx234_0
    replace hx234_1 := cb_ HB hx234_1
    replace hx234_2 := cb_ HB hx234_2
    replace p234 := eq_true p234
    replace q234 := eq_true q234
    have p235 : 0 ≤ ((rd (rd_L10 l1 a4) x11_2) : Int) := oD_ ‹_›
    have q235 : (rd (rd_L10 l1 a4) x11_2) < (l0_0.length : Int) := oD_ ‹_›
    obtain ⟨ad235, e235, hx235_0, hx235_1, hx235_2⟩ := at_T96 HR0_0.out (rd (rd_L10 l1 a4) x11_2) p235 q235
    obtain rfl : ad234 = ad235 := (by injection e235)
    replace hx235_0 := cb_ HB hx235_0
    replace hx235_1 := cb_ HB hx235_1
    replace hx235_2 := cb_ HB hx235_2
    replace p235 := eq_true p235
    replace q235 := eq_true q235
    go_wp2
    repeat (go_quiet (fail); try go_wp2)
    go_ret
    exact ⟨by rfl, by repeat with_reducible first | exact HB.out | apply bA_ | apply bN_ | apply bD_ | refine bS_ ?_ GW224.out⟩
   rw [if_pos c29] at H
   have c29b0 : (((rd_T96 l0_0 (rd (rd_L10 l1 a3) x11_2)).f0) == ((rd_T96 l0_0 (rd (rd_L10 l1 a4) x11_2)).f0)) = true := beq_iff_eq.mpr c29
   have c29b1 : (((rd_T96 l0_0 (rd (rd_L10 l1 a3) x11_2)).f0) != ((rd_T96 l0_0 (rd (rd_L10 l1 a4) x11_2)).f0)) = false := bne_eq_false_iff_eq.mpr c29
   clear c29
   by_cases c30 : (rd (rd_L10 l1 a3) x11_2) < (l2.length : Int)
   rotate_left
   ·
    rw [if_neg c30] at H
    exact absurd H (by simp)
   rw [if_pos c30] at H
   have c30b0 := dT_ c30
   clear c30
   by_cases c31 : (rd (rd_L10 l1 a4) x11_2) < (l2.length : Int)
   rotate_left
   ·
    rw [if_neg c31] at H
    exact absurd H (by simp)
   rw [if_pos c31] at H
   have c31b0 := dT_ c31
   clear c31
   by_cases c32 : (rd l2 (rd (rd_L10 l1 a3) x11_2)) = (rd l2 (rd (rd_L10 l1 a4) x11_2))
   ·
    rw [if_pos c32] at H
    have c32b0 : ((rd l2 (rd (rd_L10 l1 a3) x11_2)) == (rd l2 (rd (rd_L10 l1 a4) x11_2))) = true := beq_iff_eq.mpr c32
    have c32b1 : ((rd l2 (rd (rd_L10 l1 a3) x11_2)) != (rd l2 (rd (rd_L10 l1 a4) x11_2))) = false := bne_eq_false_iff_eq.mpr c32
    clear c32
    have H' := aM_ H
    clear H
    have p229 : 0 ≤ (a3 : Int) := oD_ ‹_›
    have q229 : a3 < (l1.length : Int) := oD_ ‹_›
    obtain ⟨ad229, A229_0, c229_0, e229, hx229_0, hl229_0, hi229_0⟩ := at_L10 HR1.out a3 p229 q229
    cases e229
    replace hx229_0 := cb_ HB hx229_0
    have HR229_0 := aM_ hi229_0
    have HC229_0 := aM_ hl229_0
    clear hi229_0 hl229_0
    replace p229 := eq_true p229
    replace q229 := eq_true q229
    have p230 : 0 ≤ (a3 : Int) := oD_ ‹_›
    have q230 : a3 < (l1.length : Int) := oD_ ‹_›
    obtain ⟨ad230, A230_0, c230_0, e230, hx230_0, hl230_0, hi230_0⟩ := at_L10 HR1.out a3 p230 q230
    obtain rfl : ad229 = ad230 := (by injection e230)
    replace hx230_0 := cb_ HB hx230_0
    have HR230_0 := aM_ hi230_0
    have HC230_0 := aM_ hl230_0
    clear hi230_0 hl230_0
    replace p230 := eq_true p230
    replace q230 := eq_true q230
    have ea_ := Option.some.inj (hx229_0.symm.trans hx230_0)
    injection ea_ with ea_ en_ ec_
    subst ea_
    subst ec_
    clear en_
    have p231 : 0 ≤ (x11_2 : Int) := oD_ ‹_›
    have q231 : x11_2 < ((rd_L10 l1 a3).length : Int) := oD_ ‹_›
    obtain ⟨ad231, e231, hx231_0⟩ := Kd.at_int HR230_0.out x11_2 p231 q231
    cases e231
    replace hx231_0 := cb_ HB hx231_0
    replace p231 := eq_true p231
    replace q231 := eq_true q231
    have p232 : 0 ≤ (a4 : Int) := oD_ ‹_›
    have q232 : a4 < (l1.length : Int) := oD_ ‹_›
    obtain ⟨ad232, A232_0, c232_0, e232, hx232_0, hl232_0, hi232_0⟩ := at_L10 HR1.out a4 p232 q232
    obtain rfl : ad229 = ad232 := (by injection e232)
    replace hx232_0 := cb_ HB hx232_0
    have HR232_0 := aM_ hi232_0
    have HC232_0 := aM_ hl232_0
    clear hi232_0 hl232_0
    replace p232 := eq_true p232
    replace q232 := eq_true q232
    have p233 : 0 ≤ (x11_2 : Int) := oD_ ‹_›
    have q233 : x11_2 < ((rd_L10 l1 a4).length : Int) := oD_ ‹_›
    obtain ⟨ad233, e233, hx233_0⟩ := Kd.at_int HR232_0.out x11_2 p233 q233
    cases e233
    replace hx233_0 := cb_ HB hx233_0
    replace p233 := eq_true p233
    replace q233 := eq_true q233
    have hcz33_0 := c0_ BK224
    have hfz33_0 := bF_ BK224.out 0
    have p234 : 0 ≤ ((rd (rd_L10 l1 a3) x11_2) : Int) := oD_ ‹_›
    have q234 : (rd (rd_L10 l1 a3) x11_2) < (l0_0.length : Int) := oD_ ‹_›
    obtain ⟨ad234, e234, hx234_0, hx234_1, hx234_2⟩ := at_T96 HR0_0.out (rd (rd_L10 l1 a3) x11_2) p234 q234
    cases e234
    replace hx234_0 := cb_ HB hx234_0
    replace hx234_1 := cb_ HB hx234_1
    replace hx234_2 := cb_ HB hx234_2
    replace p234 := eq_true p234
    replace q234 := eq_true q234
    have p235 : 0 ≤ ((rd (rd_L10 l1 a4) x11_2) : Int) := oD_ ‹_›
    have q235 : (rd (rd_L10 l1 a4) x11_2) < (l0_0.length : Int) := oD_ ‹_›
    obtain ⟨ad235, e235, hx235_0, hx235_1, hx235_2⟩ := at_T96 HR0_0.out (rd (rd_L10 l1 a4) x11_2) p235 q235
    obtain rfl : ad234 = ad235 := (by injection e235)
    replace hx235_0 := cb_ HB hx235_0
    replace hx235_1 := cb_ HB hx235_1
    replace hx235_2 := cb_ HB hx235_2
    replace p235 := eq_true p235
    replace q235 := eq_true q235
    have p236 : 0 ≤ ((rd (rd_L10 l1 a3) x11_2) : Int) := oD_ ‹_›
    have q236 : (rd (rd_L10 l1 a3) x11_2) < (l2.length : Int) := oD_ ‹_›
    obtain ⟨ad236, e236, hx236_0⟩ := Kd.at_int HR2.out (rd (rd_L10 l1 a3) x11_2) p236 q236
    cases e236
    replace hx236_0 := cb_ HB hx236_0
    replace p236 := eq_true p236
    replace q236 := eq_true q236
    have p237 : 0 ≤ ((rd (rd_L10 l1 a4) x11_2) : Int) := oD_ ‹_›
    have q237 : (rd (rd_L10 l1 a4) x11_2) < (l2.length : Int) := oD_ ‹_›
    obtain ⟨ad237, e237, hx237_0⟩ := Kd.at_int HR2.out (rd (rd_L10 l1 a4) x11_2) p237 q237
    obtain rfl : ad236 = ad237 := (by injection e237)
    replace hx237_0 := cb_ HB hx237_0
    replace p237 := eq_true p237
    replace q237 := eq_true q237
    go_wp2
    repeat (go_quiet (fail); try go_wp2)
    go_roundg k2
    case measure => have := HJ5.out; have := HK2.out; omega
    case rel => exact ⟨(wrap64 (x11_2 + 1)), (by rfl), H', ⟨by have := HJ5.out; have := HK2.out; omega⟩, ⟨by (with_reducible repeat (first | refine b2_ ?_ _ | refine b1_ ?_ | refine b3_ ?_ _)); exact BK224.out⟩, ⟨by repeat with_reducible first | exact HB.out | apply bA_ | apply bN_ | apply bD_ | refine bS_ ?_ GW224.out⟩⟩
   rw [if_neg c32] at H
   have c32b0 : ((rd l2 (rd (rd_L10 l1 a3) x11_2)) == (rd l2 (rd (rd_L10 l1 a4) x11_2))) = false := beq_eq_false_iff_ne.mpr c32
   have c32b1 : ((rd l2 (rd (rd_L10 l1 a3) x11_2)) != (rd l2 (rd (rd_L10 l1 a4) x11_2))) = true := bne_iff_ne.mpr c32
   obtain rfl := Option.some.inj H
   have p229 : 0 ≤ (a3 : Int) := oD_ ‹_›
   have q229 : a3 < (l1.length : Int) := oD_ ‹_›
   obtain ⟨ad229, A229_0, c229_0, e229, hx229_0, hl229_0, hi229_0⟩ := at_L10 HR1.out a3 p229 q229
   cases e229
   replace hx229_0 := cb_ HB hx229_0
   have HR229_0 := aM_ hi229_0
   have HC229_0 := aM_ hl229_0
   clear hi229_0 hl229_0
   replace p229 := eq_true p229
   replace q229 := eq_true q229
   have p230 : 0 ≤ (a3 : Int) := oD_ ‹_›
   have q230 : a3 < (l1.length : Int) := oD_ ‹_›
   obtain ⟨ad230, A230_0, c230_0, e230, hx230_0, hl230_0, hi230_0⟩ := at_L10 HR1.out a3 p230 q230
   obtain rfl : ad229 = ad230 := (by injection e230)
   replace hx230_0 := cb_ HB hx230_0
   have HR230_0 := aM_ hi230_0
   have HC230_0 := aM_ hl230_0
   clear hi230_0 hl230_0
   replace p230 := eq_true p230
   replace q230 := eq_true q230
   have ea_ := Option.some.inj (hx229_0.symm.trans hx230_0)
   injection ea_ with ea_ en_ ec_
   subst ea_
   subst ec_
   clear en_
   have p231 : 0 ≤ (x11_2 : Int) := oD_ ‹_›
   have q231 : x11_2 < ((rd_L10 l1 a3).length : Int) := oD_ ‹_›
   obtain ⟨ad231, e231, hx231_0⟩ := Kd.at_int HR230_0.out x11_2 p231 q231
   cases e231
   replace hx231_0 := cb_ HB hx231_0
   replace p231 := eq_true p231
   replace q231 := eq_true q231
   have p232 : 0 ≤ (a4 : Int) := oD_ ‹_›
   have q232 : a4 < (l1.length : Int) := oD_ ‹_›
   obtain ⟨ad232, A232_0, c232_0, e232, hx232_0, hl232_0, hi232_0⟩ := at_L10 HR1.out a4 p232 q232
   obtain rfl : ad229 = ad232 := (by injection e232)
   replace hx232_0 := cb_ HB hx232_0
   have HR232_0 := aM_ hi232_0
   have HC232_0 := aM_ hl232_0
   clear hi232_0 hl232_0
   replace p232 := eq_true p232
   replace q232 := eq_true q232
   have p233 : 0 ≤ (x11_2 : Int) := oD_ ‹_›
   have q233 : x11_2 < ((rd_L10 l1 a4).length : Int) := oD_ ‹_›
   obtain ⟨ad233, e233, hx233_0⟩ := Kd.at_int HR232_0.out x11_2 p233 q233
   cases e233
   replace hx233_0 := cb_ HB hx233_0
   replace p233 := eq_true p233
   replace q233 := eq_true q233
   have hcz34_0 := c0_ BK224
   have hfz34_0 := bF_ BK224.out 0
   have p234 : 0 ≤ ((rd (rd_L10 l1 a3) x11_2) : Int) := oD_ ‹_›
   have q234 : (rd (rd_L10 l1 a3) x11_2) < (l0_0.length : Int) := oD_ ‹_›
   obtain ⟨ad234, e234, hx234_0, hx234_1, hx234_2⟩ := at_T96 HR0_0.out (rd (rd_L10 l1 a3) x11_2) p234 q234
   cases e234
   replace hx234_0 := cb_ HB hx234_0
   replace hx234_1 := cb_ HB hx234_1
   replace hx234_2 := cb_ HB hx234_2
   replace p234 := eq_true p234
   replace q234 := eq_true q234
   have p235 : 0 ≤ ((rd (rd_L10 l1 a4) x11_2) : Int) := oD_ ‹_›
   have q235 : (rd (rd_L10 l1 a4) x11_2) < (l0_0.length : Int) := oD_ ‹_›
   obtain ⟨ad235, e235, hx235_0, hx235_1, hx235_2⟩ := at_T96 HR0_0.out (rd (rd_L10 l1 a4) x11_2) p235 q235
   obtain rfl : ad234 = ad235 := (by injection e235)
   replace hx235_0 := cb_ HB hx235_0
   replace hx235_1 := cb_ HB hx235_1
   replace hx235_2 := cb_ HB hx235_2
   replace p235 := eq_true p235
   replace q235 := eq_true q235
   have p236 : 0 ≤ ((rd (rd_L10 l1 a3) x11_2) : Int) := oD_ ‹_›
   have q236 : (rd (rd_L10 l1 a3) x11_2) < (l2.length : Int) := oD_ ‹_›
   obtain ⟨ad236, e236, hx236_0⟩ := Kd.at_int HR2.out (rd (rd_L10 l1 a3) x11_2) p236 q236
   cases e236
   replace hx236_0 := cb_ HB hx236_0
   replace p236 := eq_true p236
   replace q236 := eq_true q236
   have p237 : 0 ≤ ((rd (rd_L10 l1 a4) x11_2) : Int) := oD_ ‹_›
   have q237 : (rd (rd_L10 l1 a4) x11_2) < (l2.length : Int) := oD_ ‹_›
   obtain ⟨ad237, e237, hx237_0⟩ := Kd.at_int HR2.out (rd (rd_L10 l1 a4) x11_2) p237 q237
   obtain rfl : ad236 = ad237 := (by injection e237)
   replace hx237_0 := cb_ HB hx237_0
   replace p237 := eq_true p237
   replace q237 := eq_true q237
   go_wp2
   repeat (go_quiet (fail); try go_wp2)
   go_ret
   exact ⟨by rfl, by repeat with_reducible first | exact HB.out | apply bA_ | apply bN_ | apply bD_ | refine bS_ ?_ GW224.out⟩
mutual
def sF67.l0 : Nat → List (List Int) → List Int → Int → List (S96) → Option (List Int)
 | 0, _, _, _, _ => none
 | k + 1, x3, x4, x5, x239000 => if x5 ≥ 0 then (if 0 ≤ x5 then (if x5 < (x4.length : Int) then (sF67.l1 k x3 (x4.set (x5 : Int).toNat x5) x5 (wrap64 ((x4.length : Int) - 1)) x239000) else (none)) else (none)) else (some x4)
def sF67.l1 : Nat → List (List Int) → List Int → Int → Int → List (S96) → Option (List Int)
 | 0, _, _, _, _, _ => none
 | k + 1, x3, x4, x5, x6, x239000 => if x6 > x5 then (if 0 ≤ x6 then (if x6 < (x4.length : Int) then (if (rd x4 x6) = x6 then ((sF66.f k x239000 x3 x4 x5 x6).bind fun t247 => (if t247 = true then (if 0 ≤ x5 then (if x5 < (x4.length : Int) then (sF67.l0 k x3 (x4.set (x5 : Int).toNat x6) (wrap64 (x5 - 1)) x239000) else (none)) else (none)) else (sF67.l1 k x3 x4 x5 (wrap64 (x6 - 1)) x239000))) else (sF67.l1 k x3 x4 x5 (wrap64 (x6 - 1)) x239000)) else (none)) else (none)) else (sF67.l0 k x3 x4 (wrap64 (x5 - 1)) x239000)
end
def sF67.f (k : Nat) (l0_0 : List (S96)) : Option (List Int) := (sF68.f k l0_0).bind fun t239 => (if 0 ≤ (l0_0.length : Int) then (if ((l0_0.length : Int) : Int).toNat ≤ 35184372088832 then ((some (List.replicate ((l0_0.length : Int) : Int).toNat 0 : List Int)).bind fun y242 => (sF67.l0 k t239 y242 (wrap64 ((y242.length : Int) - 1)) l0_0)) else (none)) else (none))
theorem sF67.mono_l : ∀ k, (∀ y0 y1 y2 y3, LeO (sF67.l0 k y0 y1 y2 y3) (sF67.l0 (k + 1) y0 y1 y2 y3)) ∧ (∀ y0 y1 y2 y3 y4, LeO (sF67.l1 k y0 y1 y2 y3 y4) (sF67.l1 (k + 1) y0 y1 y2 y3 y4))
 | 0 => ⟨fun _ _ _ _ r h => by simp [sF67.l0] at h, fun _ _ _ _ _ r h => by simp [sF67.l1] at h⟩
 | k + 1 => by
  obtain ⟨ih0, ih1⟩ := sF67.mono_l k
  refine ⟨?_, ?_⟩
  ·
   intro y0 y1 y2 y3
   unfold sF67.l0
   repeat' with_reducible first | exact ih0 _ _ _ _ | exact ih1 _ _ _ _ _ | exact sF66.mono _ _ _ _ _ _ | exact sF68.mono _ _ | exact l3_ _ | exact l0_ _ | refine l2_ ?_ ?_ | refine l1_ ?_ (fun _ => ?_)
  intro y0 y1 y2 y3 y4
  unfold sF67.l1
  repeat' with_reducible first | exact ih0 _ _ _ _ | exact ih1 _ _ _ _ _ | exact sF66.mono _ _ _ _ _ _ | exact sF68.mono _ _ | exact l3_ _ | exact l0_ _ | refine l2_ ?_ ?_ | refine l1_ ?_ (fun _ => ?_)
theorem sF67.mono : ∀ a0 k, LeO (sF67.f k a0) (sF67.f (k + 1) a0) := by
 intro a0 k
 obtain ⟨ih0, ih1⟩ := sF67.mono_l k
 unfold sF67.f
 repeat' with_reducible first | exact ih0 _ _ _ _ | exact ih1 _ _ _ _ _ | exact sF66.mono _ _ _ _ _ _ | exact sF68.mono _ _ | exact l3_ _ | exact l0_ _ | refine l2_ ?_ ?_ | refine l1_ ?_ (fun _ => ?_)
def sF67.T1 : Bool × List (List Nat × List Nat) := (true, [([], []), ([0], [0]), ([], []), ([2], [2]), ([3], [3]), ([4, 4], [4]), ([1, 1, 0, 1], [1]), ([5, 6, 0, 1, 2, 3, 4, 5, 6], [5])])
def sF67.B1 : List Nat := [0, 1, 0, 4, 12, 28, 3, 127]
theorem sF67.tab1 : rtab .any (opsOf Tryz.f102 1) = sF67.T1 := by kernel_rfl
theorem sF67.bits1 : waitsOk sF67.T1.2 sF67.B1 = true := by kernel_rfl
theorem sF67.calls (k : Nat) (A0_0 : Option Addr) (c0_0 : Nat) (l0_0 : List (S96)) (r : List Int) (w : World) (hr0_0 : Kd.C k96 w A0_0 l0_0.length l0_0) (hc0_0 : l0_0.length ≤ c0_0) (h : sF67.f k l0_0 = some r) :
  Calls Tryz.prog 102 #[.agg #[.slice A0_0 l0_0.length c0_0]] w fun e w' => ∃ v0_ : Value, e = .returned (v0_) ∧ Kd.R (Kd.int .i64) 3 w' w.heap.size (fun _ => True) v0_ r ∧ Below w.heap.size w w' := by
 have hu28 := Tryz.underlying28
 have HR0_0 := aM_ hr0_0
 have HC0_0 := aM_ hc0_0
 clear hr0_0 hc0_0
 have HB := aM_ (Below.refl w.heap.size w)
 have H : ((sF68.f k l0_0).bind fun t239 => (if 0 ≤ (l0_0.length : Int) then (if ((l0_0.length : Int) : Int).toNat ≤ 35184372088832 then ((some (List.replicate ((l0_0.length : Int) : Int).toNat 0 : List Int)).bind fun y242 => (sF67.l0 k t239 y242 (wrap64 ((y242.length : Int) - 1)) l0_0)) else (none)) else (none))) = some r := h
 clear h
 replace H := oB_.mp H
 obtain ⟨t239, A20, H⟩ := H
 try dsimp only at H
 have A2 := aM_ A20
 clear A20
 by_cases c3 : 0 ≤ (l0_0.length : Int)
 rotate_left
 ·
  rw [if_neg c3] at H
  exact absurd H (by simp)
 rw [if_pos c3] at H
 have c3b0 := eq_true c3
 have c3b1 := dT_ c3
 clear c3
 by_cases c4 : ((l0_0.length : Int) : Int).toNat ≤ 35184372088832
 rotate_left
 ·
  rw [if_neg c4] at H
  exact absurd H (by simp)
 rw [if_pos c4] at H
 have c4b0 := eq_true c4
 have c4b1 := dT_ c4
 clear c4
 obtain ⟨y242, hy242⟩ : ∃ y_ : List Int, y_ = (List.replicate ((l0_0.length : Int) : Int).toNat 0) := ⟨_, rfl⟩
 replace H : (sF67.l0 k t239 y242 (wrap64 ((y242.length : Int) - 1)) l0_0) = some r := by (try rw [hy242]); first | with_reducible exact H | with_reducible exact oS_ H | exact H
 have Ny242 := aM_ hy242
 clear hy242
 have H' := aM_ H
 clear H
 go_enter Tryz.func102, Tryz.ntmps102
 try go_wp2_with (first | (refine bx_ 1 #[.slice A0_0 l0_0.length c0_0] 28 ?_; intro gb238 hg w5 hbox hb; have BK238 := aM_ (hbox); have GW238 := gw_ hg HB; replace HB := b4_ HB hb; clear hb hbox hg))
 have n0_ := aM_ (b1_ BK238.out)
 have n1_ := aM_ (bD_ HB.out)
 clear BK238
 clear HB
 have BK238 := n0_
 have HB := n1_
 clear n0_ n1_
 refine start_ (n := 8) (S := fun w' => w'.cell? ⟨gb238, 0, none⟩ = some (.slice A0_0 l0_0.length c0_0)) (ds := []) #[fy, fy, fy, fy, fy, fy, fy, fy] (by kernel_rfl) rfl rfl ((bC_ BK238.out 0).trans rfl) (fun hHeld => ?_); refine with_tabW sF67.tab1 sF67.bits1 (fun HT_ HW_ => ?_)
 generalize w5.drew = w6 at BK238 HB hHeld ⊢
 refine pu_ HT_ 2 9 #[fy, fy, ty, fy, fy, fy, fy, fy] ?_
 refine take_ (i := 0) (N := some 7) (v := ?_) (a' := ?_) #[ty, fy, ty, fy, fy, fy, fy, fy] rfl rfl (tW_ HT_.out HW_.out (by kernel_rfl)) (fun _ _ _ h => h) (Or.inl ⟨by rfl, ?_⟩) hHeld ?_ ?_; rotate_left; (intro w' s0; go_simp; with_reducible rfl); rotate_left; (simp only [Act.put, sA_, sB_, sC_, i6_, i3_]; rfl)
 refine take_ (i := 3) (N := some 10) (v := ?_) (a' := ?_) #[ty, fy, ty, ty, fy, fy, fy, fy] rfl rfl (tW_ HT_.out HW_.out (by kernel_rfl)) (fun _ _ _ h => h) (Or.inl ⟨by rfl, ?_⟩) hHeld ?_ ?_; rotate_left; (intro w' s0; go_simp; with_reducible rfl); rotate_left; (simp only [Act.put, sA_, sB_, sC_, i6_, i3_]; rfl)
 refine pu_ HT_ 4 11 #[ty, fy, ty, ty, ty, fy, fy, fy] ?_
 refine join_ (σ := Value × Value) 1 #[ty, ty, ty, ty, ty, ty, ty, fy] (fun s_ => [(8, s_.1), (12, s_.2), (3, s_.1)]) (fun s_ w' => (w'.cell? ⟨gb238, 0, none⟩ = some (.slice A0_0 l0_0.length c0_0)) ∧ (Kd.S (Kd.slice 3 (Kd.int .i64)) 56 w' w.heap.size (fun k_ => some k_ ≠ (s_.2 : Value).ownBlock) s_.1 t239) ∧ (Kd.R (Kd.int .i64) 3 w' w.heap.size (fun _ => True) s_.2 y242) ∧ (w'.heap[gb238]? = some (.cells #[.slice A0_0 l0_0.length c0_0] 28 (0, 0))) ∧ (Below w.heap.size w w')) ?_ ?_
 rotate_left
 ·
  intro hCont
  refine two_ (i := 1) (j := 5) (Ni := some 8) (Nj := some 12) #[ty, ty, ty, ty, ty, fy, fy, fy] #[ty, fy, ty, ty, ty, ty, fy, fy] rfl rfl rfl rfl (two_of HT_.out (by kernel_rfl)) (by decide) (by decide) (fun K hK => ?_) (fun K hK => ?_)
  ·
   skip
   refine goes_ Tryz.func101 (by kernel_rfl) rfl #[.agg #[.slice A0_0 l0_0.length c0_0]] (by rfl) rfl rfl (by (try simp only [sD_, sE_, sF_]); rfl) ?_
   with_reducible refine (sF68.calls k _ _ l0_0 t239 _ ?side1 ?side2 A2.out).mono ?_
   (case side1 => repeat (first | exact (k4_ HR0_0.out HB.out) | with_reducible first | apply cA_ | apply cN_ | apply cD_))
   (case side2 => exact HC0_0.out)
   rintro e w7 ⟨v240, rfl, ho0, hb⟩
   refine ⟨_, rfl, ?_⟩
   have n0_ := aM_ (Kd.S_lower ho0 (bZ_ HB.out))
   have n1_ := b5_ BK238 hb
   have n2_ := b4_ HB hb
   clear BK238
   clear HB
   have HO241 := n0_
   have BK238 := n1_
   have HB := n2_
   clear n0_ n1_ n2_
   (try clear hb)
   (try clear ho0)
   refine hK.out _ _ ((bC_ BK238.out 0).trans rfl) (fun hHeld => ?_)
   clear hK K
   refine norm_ (by show Act.put _ (some 8) _ = _; simp only [Act.put, sA_, sB_, sC_, i6_, i3_]; rfl) ?_
   refine pu_ HT_ 6 3 #[ty, ty, ty, ty, ty, fy, ty, fy] ?_
   refine one_ (i := 5) (N := some 12) #[ty, ty, ty, ty, ty, ty, ty, fy] rfl rfl (one_of HT_.out (by kernel_rfl)) (by decide) (fun K hK => ?_)
   refine Kd.R_make_step (Kd.int .i64) _ 3 (by rfl) (N := 12) rfl 56 _ _ rfl (l0_0.length : Int) rfl rfl Tryz.underlying56 (.int .i64 0) 8 info3 rfl (by decide) (by omega) 0 (ok := fun _ => True) (okp := fun _ => True) rfl (fun _ hk => hk) trivial (oD_ ‹_›) (Nat.le_trans (Nat.mul_le_mul_right _ (oD_ ‹_› : (l0_0.length : Int).toNat ≤ 35184372088832)) (by omega)) (Below.refl _ _) (Nat.le_refl _) ?_
   intro v243 w8 ho9 hb hg_ hnew_
   clear hg_ hnew_
   (rw [← Ny242.out] at ho9)
   have n0_ := aM_ (Kd.S_elder' (by (with_reducible repeat (first | apply Kd.S_alloc | apply Kd.S_drewN | apply Kd.S_drew)); exact HO241.out) (Kd.R_base ho9) hb)
   have n1_ := aM_ (k5_ ho9 (bZ_ HB.out))
   have n2_ := b5_ BK238 hb
   have n3_ := b4_ HB hb
   clear HO241
   clear BK238
   clear HB
   have HO241 := n0_
   have HO244 := n1_
   have BK238 := n2_
   have HB := n3_
   clear n0_ n1_ n2_ n3_
   clear hb ho9
   refine hK.out _ _ ((bC_ BK238.out 0).trans rfl) (fun hHeld => ?_)
   clear hK K
   refine norm_ (by show Act.put _ (some 12) _ = _; simp only [Act.put, sA_, sB_, sC_, i6_, i3_]; rfl) ?_
   exact norm_ (by simp only [putAll, Act.put, sA_, sB_, sC_]) (hCont (v240, v243) _ ⟨hHeld, (by (with_reducible repeat (first | apply Kd.S_alloc | apply Kd.S_drewN | apply Kd.S_drew)); exact Kd.S_mono HO241.out (fun _ hk => hk.2)), HO244.out, BK238.out, HB.out⟩)
  skip
  refine Kd.R_make_step (Kd.int .i64) _ 3 (by rfl) (N := 12) rfl 56 _ _ rfl (l0_0.length : Int) rfl rfl Tryz.underlying56 (.int .i64 0) 8 info3 rfl (by decide) (by omega) 0 (ok := fun _ => True) (okp := fun _ => True) rfl (fun _ hk => hk) trivial (oD_ ‹_›) (Nat.le_trans (Nat.mul_le_mul_right _ (oD_ ‹_› : (l0_0.length : Int).toNat ≤ 35184372088832)) (by omega)) (Below.refl _ _) (Nat.le_refl _) ?_
  intro v243 w7 ho8 hb hg_ hnew_
  clear hg_ hnew_
  (rw [← Ny242.out] at ho8)
  have n0_ := aM_ (k5_ ho8 (bZ_ HB.out))
  have n1_ := b5_ BK238 hb
  have n2_ := b4_ HB hb
  clear BK238
  clear HB
  have HO244 := n0_
  have BK238 := n1_
  have HB := n2_
  clear n0_ n1_ n2_
  clear hb ho8
  refine hK.out _ _ ((bC_ BK238.out 0).trans rfl) (fun hHeld => ?_)
  clear hK K
  refine norm_ (by show Act.put _ (some 12) _ = _; simp only [Act.put, sA_, sB_, sC_, i6_, i3_]; rfl) ?_
  refine one_ (i := 1) (N := some 8) #[ty, ty, ty, ty, ty, ty, fy, fy] rfl rfl (one_of HT_.out (by kernel_rfl)) (by decide) (fun K hK => ?_)
  refine goes_ Tryz.func101 (by kernel_rfl) rfl #[.agg #[.slice A0_0 l0_0.length c0_0]] (by rfl) rfl rfl (by (try simp only [sD_, sE_, sF_]); rfl) ?_
  with_reducible refine (sF68.calls k _ _ l0_0 t239 _ ?side1 ?side2 A2.out).mono ?_
  (case side1 => repeat (first | exact (k4_ HR0_0.out HB.out) | with_reducible first | apply cA_ | apply cN_ | apply cD_))
  (case side2 => exact HC0_0.out)
  rintro e w9 ⟨v240, rfl, ho0, hb⟩
  refine ⟨_, rfl, ?_⟩
  have n0_ := k9_ HO244 hb
  have n1_ := aM_ (Kd.S_lower (Kd.S_new' ho0 (Kd.R_lt HO244.out)) (bZ_ HB.out))
  have n2_ := b5_ BK238 hb
  have n3_ := b4_ HB hb
  clear HO244
  clear BK238
  clear HB
  have HO244 := n0_
  have HO241 := n1_
  have BK238 := n2_
  have HB := n3_
  clear n0_ n1_ n2_ n3_
  (try clear hb)
  (try clear ho0)
  refine hK.out _ _ ((bC_ BK238.out 0).trans rfl) (fun hHeld => ?_)
  clear hK K
  refine norm_ (by show Act.put _ (some 8) _ = _; simp only [Act.put, sA_, sB_, sC_, i6_, i3_]; rfl) ?_
  refine pu_ HT_ 6 3 #[ty, ty, ty, ty, ty, ty, ty, fy] ?_
  exact norm_ (by simp only [putAll, Act.put, sA_, sB_, sC_]) (hCont (v240, v243) _ ⟨hHeld, (by (with_reducible repeat (first | apply Kd.S_alloc | apply Kd.S_drewN | apply Kd.S_drew)); exact Kd.S_mono HO241.out (fun _ hk => hk.2)), HO244.out, BK238.out, HB.out⟩)
 rintro ⟨v240, v243⟩ w10 ⟨hS_, h0_, h1_, h2_, h3_⟩
 have n0_ : Aside0 (Kd.S (Kd.slice 3 (Kd.int .i64)) 56 w10 w.heap.size (fun k_ => some k_ ≠ (v243 : Value).ownBlock) v240 t239) := ⟨h0_⟩
 have n1_ : Aside0 (Kd.R (Kd.int .i64) 3 w10 w.heap.size (fun _ => True) v243 y242) := ⟨h1_⟩
 have n2_ : Aside0 (w10.heap[gb238]? = some (.cells #[.slice A0_0 l0_0.length c0_0] 28 (0, 0))) := ⟨h2_⟩
 have n3_ : Aside0 (Below w.heap.size w w10) := ⟨h3_⟩
 clear BK238
 clear HB
 clear h0_ h1_ h2_ h3_
 have HO241 := n0_
 have HO244 := n1_
 have BK238 := n2_
 have HB := n3_
 clear n0_ n1_ n2_ n3_
 have hHeld : w10.cell? ⟨gb238, 0, none⟩ = some (.slice A0_0 l0_0.length c0_0) := hS_
 refine norm_ (a' := ?_) ?_ ?_
 rotate_left
 ·
  simp only [putAll, Act.put, sA_, sB_, sC_]
  rfl
 refine pu_ HT_ 7 4 #[ty, ty, ty, ty, ty, ty, ty, ty] ?_
 refine done_ (done_of HT_.out (by kernel_rfl)) ?_
 obtain ⟨Ao11, co11, eo11⟩ := kS_ HO244.out
 subst eo11
 try go_wp2
 go_loopg [5] k (fun kq v5 w' => ∃ (x4_1 : List Int) (x5_1 : Int), v5 = .int .i64 x5_1 ∧ Aside0 (sF67.l0 kq t239 x4_1 x5_1 l0_0 = some r) ∧ Aside0 (kq ≤ k) ∧ Aside0 (Kd.S (Kd.slice 3 (Kd.int .i64)) 56 w' w.heap.size (fun k_ => some k_ ≠ ((.slice Ao11 y242.length co11) : Value).ownBlock) v240 t239) ∧ Aside0 (Kd.R (Kd.int .i64) 3 w' w.heap.size (fun _ => True) (.slice Ao11 y242.length co11) x4_1) ∧ Aside0 (w'.heap[gb238]? = some (.cells #[(.slice A0_0 l0_0.length c0_0)] 28 (0, 0))) ∧ Aside0 (Below w.heap.size w w'))
 case atStart => exact ⟨(y242), (wrap64 ((y242.length : Int) - 1)), (by rfl), H', ⟨Nat.le_refl _⟩, ⟨by (with_reducible repeat (first | apply Kd.S_alloc | apply Kd.S_drewN | apply Kd.S_drew)); exact HO241.out⟩, ⟨HO244.out⟩, ⟨BK238.out⟩, ⟨HB.out⟩⟩
 clear H'
 try clear p2
 try clear c3b0
 try clear c3b1
 try clear c4b0
 try clear c4b1
 try clear p6
 obtain ⟨x4_1, x5_1, rfl, HA, HK1, HO_3, HO_4, BK238, HB⟩ := hrel
 have hl4_1 := (kR_ HO_4.out).1
 rw [hl4_1] at HO_4
 (try simp only [hl4_1])
 (try simp only [hl4_1] at BK238)
 (try simp only [hl4_1] at HO_3)
 cases gk with
 | zero => exact absurd HA.out (by simp [sF67.l0])
 | succ k1 =>
  have H := HA.out
  clear HA
  simp only [sF67.l0] at H
  by_cases c12 : x5_1 ≥ 0
  rotate_left
  ·
   rw [if_neg c12] at H
   have c12b0 := dF_ c12
   clear c12
   obtain rfl := Option.some.inj H
   go_wp2
   go_ret
   exact ⟨_, by rfl, by exact HO_4.out, by exact HB.out⟩
  rw [if_pos c12] at H
  have c12b0 := dT_ c12
  clear c12
  by_cases c13 : 0 ≤ x5_1
  rotate_left
  ·
   rw [if_neg c13] at H
   exact absurd H (by simp)
  rw [if_pos c13] at H
  have c13b0 := dT_ c13
  clear c13
  by_cases c14 : x5_1 < (x4_1.length : Int)
  rotate_left
  ·
   rw [if_neg c14] at H
   exact absurd H (by simp)
  rw [if_pos c14] at H
  have c14b0 := dT_ c14
  clear c14
  obtain ⟨y245, hy245⟩ : ∃ y_ : List Int, y_ = (x4_1.set (x5_1 : Int).toNat x5_1) := ⟨_, rfl⟩
  replace H : (sF67.l1 k1 t239 y245 x5_1 (wrap64 ((x4_1.length : Int) - 1)) l0_0) = some r := by (try rw [hy245]); first | with_reducible exact H | with_reducible exact oS_ H | exact H
  have Ny245 := aM_ hy245
  clear hy245
  have H' := aM_ H
  clear H
  have p15 : 0 ≤ (x5_1 : Int) := oD_ ‹_›
  have q15 : (x5_1 : Int) < ((x4_1.length : Int) : Int) := oD_ ‹_›
  obtain ⟨go15, co15, eo15, gb15, gl15, cl15, HG15⟩ := Kd.R_form HO_4.out (by omega)
  (cases eo15)
  have GB15 := aM_ gb15
  have GG15 := aM_ HG15
  clear gb15 gl15 HG15
  obtain ⟨hx15_0, hf15_0⟩ := kC_ 0 HO_4.out (x5_1 : Int) p15 q15
  (try simp only [Int.toNat_natCast] at hx15_0 hf15_0)
  replace p15 := eq_true p15
  replace q15 := eq_true q15
  have HP16 := Kd.R_putg HO_4.out (x5_1 : Int) x5_1
  go_wp2_with (first | ((with_reducible refine gate_store (t := 3) (p := 23) rfl ?_); refine store_event (t := 3) (p := 23) (v := ?vo_w17) (w1 := (wr.setCell ⟨go15, (x5_1 : Int).toNat, none⟩ (.int .i64 x5_1))) ?hg ?ho ?hn ?hr ?_; (case ho => rfl); (case hg => rfl); (case hn => rfl); (case hr => (go_simp; done)); intro w17 hw; have hg : wr.grownBy w17 (some go15) := (by rw [hw]; exact HP16.2); have hp_ : Kd.R (Kd.int .i64) 3 w17 w.heap.size (fun _ => True) (.slice (some ⟨go15, 0, none⟩) x4_1.length co11) y245 := (by rw [hw, Ny245.out]; exact HP16.1); clear HP16; replace HO_3 := aM_ (Kd.S_after (v := (.slice (some ⟨go15, 0, none⟩) x4_1.length co11)) (v1 := (.slice (some ⟨go15, 0, none⟩) x4_1.length co11)) (ok := (fun _ => True)) (by (with_reducible repeat (first | apply Kd.S_alloc | apply Kd.S_drewN | apply Kd.S_drew)); exact Kd.S_mono HO_3.out (fun _ hk => ⟨trivial, hk⟩)) hg (.inl rfl)); replace BK238 := aM_ (blk_grown (g := gb238) (o := .cells #[.slice A0_0 l0_0.length c0_0] 28 (0, 0)) BK238.out hg (k6_ HO_4.out BK238.out (by decide))); replace HO_4 := aM_ (hp_); replace HB := aM_ ((by rw [hw]; exact bS_ (HB.out) GB15.out : Below w.heap.size w w17)); clear hg hw hp_))
  go_loopg [6] k1 (fun kq v6 w' => ∃ (x4_2 : List Int) (x6_2 : Int), v6 = .int .i64 x6_2 ∧ Aside0 (sF67.l1 kq t239 x4_2 x5_1 x6_2 l0_0 = some r) ∧ Aside0 (kq ≤ k1) ∧ Aside0 (Kd.S (Kd.slice 3 (Kd.int .i64)) 56 w' w.heap.size (fun k_ => some k_ ≠ ((.slice (some ⟨go15, 0, none⟩) x4_1.length co11) : Value).ownBlock) v240 t239) ∧ Aside0 (Kd.R (Kd.int .i64) 3 w' w.heap.size (fun _ => True) (.slice (some ⟨go15, 0, none⟩) x4_1.length co11) x4_2) ∧ Aside0 (w'.heap[gb238]? = some (.cells #[(.slice A0_0 l0_0.length c0_0)] 28 (0, 0))) ∧ Aside0 (Below w.heap.size w w'))
  case atStart => exact ⟨(y245), (wrap64 ((x4_1.length : Int) - 1)), (by rfl), H', ⟨Nat.le_refl _⟩, ⟨by (try simp only [hl4_1]); (with_reducible repeat (first | apply Kd.S_alloc | apply Kd.S_drewN | apply Kd.S_drew)); exact Kd.S_mono HO_3.out (fun _ hk => hk.2)⟩, ⟨by (try simp only [hl4_1]); exact HO_4.out⟩, ⟨by (try simp only [hl4_1]); exact BK238.out⟩, ⟨HB.out⟩⟩
  clear H'
  try clear p1
  try clear q1
  try clear hx1
  try clear hf1
  try clear p2
  try clear c3b0
  try clear c3b1
  try clear c4b0
  try clear c4b1
  try clear p6
  try clear c12b0
  try clear c13b0
  try clear c14b0
  try clear p15
  try clear q15
  try clear hx15
  try clear hf15
  try clear hx15_0
  try clear p15
  try clear p2
  try clear p6
  try clear q15
  obtain ⟨x4_2, x6_2, rfl, HA, HK2, HO_3, HO_4, BK238, HB⟩ := hrel
  have hl4_2 := (kR_ HO_4.out).1
  rw [hl4_2] at HO_4
  (try simp only [hl4_2])
  (try simp only [hl4_2] at BK238)
  (try simp only [hl4_2] at HO_3)
  cases gk with
  | zero => exact absurd HA.out (by simp [sF67.l1])
  | succ k2 =>
   have H := HA.out
   clear HA
   simp only [sF67.l1] at H
   by_cases c18 : x6_2 > x5_1
   rotate_left
   ·
    rw [if_neg c18] at H
    have c18b0 := dF_ c18
    clear c18
    have H' := aM_ H
    clear H
    go_wp2
    (try simp only [← hl4_1, ← hl4_2])
    go_roundg k2
    case measure => have := HK1.out; have := HK2.out; omega
    case rel => exact ⟨(x4_2), (wrap64 (x5_1 - 1)), (by rfl), H', ⟨by have := HK1.out; have := HK2.out; omega⟩, ⟨by (try simp only [hl4_1]); (try simp only [hl4_2]); (with_reducible repeat (first | apply Kd.S_alloc | apply Kd.S_drewN | apply Kd.S_drew)); exact HO_3.out⟩, ⟨by (try simp only [hl4_1]); (try simp only [hl4_2]); exact HO_4.out⟩, ⟨by (try simp only [hl4_1]); (try simp only [hl4_2]); exact BK238.out⟩, ⟨HB.out⟩⟩
   rw [if_pos c18] at H
   have c18b0 := dT_ c18
   clear c18
   by_cases c19 : 0 ≤ x6_2
   rotate_left
   ·
    rw [if_neg c19] at H
    exact absurd H (by simp)
   rw [if_pos c19] at H
   have c19b0 := dT_ c19
   clear c19
   by_cases c20 : x6_2 < (x4_2.length : Int)
   rotate_left
   ·
    rw [if_neg c20] at H
    exact absurd H (by simp)
   rw [if_pos c20] at H
   have c20b0 := dT_ c20
   clear c20
   by_cases c21 : (rd x4_2 x6_2) = x6_2
   rotate_left
   ·
    rw [if_neg c21] at H
    have c21b0 : ((rd x4_2 x6_2) == x6_2) = false := beq_eq_false_iff_ne.mpr c21
    have c21b1 : ((rd x4_2 x6_2) != x6_2) = true := bne_iff_ne.mpr c21
    have H' := aM_ H
    clear H
    have p246 : 0 ≤ (x6_2 : Int) := oD_ ‹_›
    have q246 : x6_2 < (x4_2.length : Int) := oD_ ‹_›
    obtain ⟨ad246, e246, hx246_0⟩ := Kd.at_int (kR_ HO_4.out).2.2 x6_2 p246 q246
    obtain rfl : (⟨go15, 0, none⟩ : Addr) = ad246 := (by injection e246)
    (simp only [add_plain] at hx246_0)
    (try simp only [Int.toNat_natCast] at hx246_0)
    replace p246 := eq_true p246
    replace q246 := eq_true q246
    go_wp2
    (try simp only [← hl4_2])
    go_roundg k2
    case measure => have := HK1.out; have := HK2.out; omega
    case rel => exact ⟨(x4_2), (wrap64 (x6_2 - 1)), (by rfl), H', ⟨by have := HK1.out; have := HK2.out; omega⟩, ⟨by (try simp only [hl4_1]); (try simp only [hl4_2]); (with_reducible repeat (first | apply Kd.S_alloc | apply Kd.S_drewN | apply Kd.S_drew)); exact HO_3.out⟩, ⟨by (try simp only [hl4_1]); (try simp only [hl4_2]); exact HO_4.out⟩, ⟨by (try simp only [hl4_1]); (try simp only [hl4_2]); exact BK238.out⟩, ⟨HB.out⟩⟩
   rw [if_pos c21] at H
   have c21b0 : ((rd x4_2 x6_2) == x6_2) = true := beq_iff_eq.mpr c21
   have c21b1 : ((rd x4_2 x6_2) != x6_2) = false := bne_eq_false_iff_eq.mpr c21
   clear c21
   replace H := oB_.mp H
   obtain ⟨t247, A220, H⟩ := H
   try dsimp only at H
   have A22 := aM_ A220
   clear A220
   by_cases c23 : t247 = true
   rotate_left
   ·
    replace c23 := Bool.eq_false_iff.mpr c23
    subst c23
    replace H : (sF67.l1 k2 t239 x4_2 x5_1 (wrap64 (x6_2 - 1)) l0_0) = some r := by rw [if_neg (show ¬ (false = true) by decide)] at H; exact H
    have H' := aM_ H
    clear H
    have p246 : 0 ≤ (x6_2 : Int) := oD_ ‹_›
    have q246 : x6_2 < (x4_2.length : Int) := oD_ ‹_›
    obtain ⟨ad246, e246, hx246_0⟩ := Kd.at_int (kR_ HO_4.out).2.2 x6_2 p246 q246
    obtain rfl : (⟨go15, 0, none⟩ : Addr) = ad246 := (by injection e246)
    (simp only [add_plain] at hx246_0)
    (try simp only [Int.toNat_natCast] at hx246_0)
    replace p246 := eq_true p246
    replace q246 := eq_true q246
    have hcz32_0 := c0_ BK238
    have hfz32_0 := bF_ BK238.out 0
    obtain ⟨Ao33, co33, eo33⟩ := Kd.S_slice HO_3.out
    subst eo33
    go_wp2_with (first | (go_at_call 121; (with_reducible refine (sF66.calls k2 _ _ l0_0 _ _ t239 _ _ x4_2 x5_1 x6_2 false _ ?side1 HC0_0.out ?side3 ?side4 ?side5 ?side6 A22.out).mono ?_); (case side1 => repeat (first | exact (k4_ HR0_0.out HB.out) | with_reducible first | apply cA_ | apply cN_ | apply cD_)); (case side3 => repeat (first | exact (Kd.S_reads' HO_3.out).2.2 | with_reducible first | apply cA_ | apply cN_ | apply cD_)); (case side4 => exact (Kd.S_reads' HO_3.out).2.1); (case side5 => repeat (first | exact (kR_ HO_4.out).2.2 | with_reducible first | apply cA_ | apply cN_ | apply cD_)); (case side6 => exact (kR_ HO_4.out).2.1); rintro e w34 ⟨rfl, hb⟩; replace HO_3 := aM_ (Kd.S_below (by (with_reducible repeat (first | apply Kd.S_alloc | apply Kd.S_drewN | apply Kd.S_drew)); exact HO_3.out) hb); replace HO_4 := k9_ HO_4 hb; replace BK238 := b5_ BK238 hb; replace HB := b4_ HB hb; (try clear hb)))
    (try simp only [← hl4_2])
    go_roundg k2
    case measure => have := HK1.out; have := HK2.out; omega
    case rel => exact ⟨(x4_2), (wrap64 (x6_2 - 1)), (by rfl), H', ⟨by have := HK1.out; have := HK2.out; omega⟩, ⟨by (try simp only [hl4_1]); (try simp only [hl4_2]); (with_reducible repeat (first | apply Kd.S_alloc | apply Kd.S_drewN | apply Kd.S_drew)); exact HO_3.out⟩, ⟨by (try simp only [hl4_1]); (try simp only [hl4_2]); exact HO_4.out⟩, ⟨by (try simp only [hl4_1]); (try simp only [hl4_2]); exact BK238.out⟩, ⟨HB.out⟩⟩
   subst c23
   rw [if_pos rfl] at H
   by_cases c24 : 0 ≤ x5_1
   rotate_left
   ·
    rw [if_neg c24] at H
    exact absurd H (by simp)
   rw [if_pos c24] at H
   have c24b0 := dT_ c24
   clear c24
   by_cases c25 : x5_1 < (x4_2.length : Int)
   rotate_left
   ·
    rw [if_neg c25] at H
    exact absurd H (by simp)
   rw [if_pos c25] at H
   have c25b0 := dT_ c25
   clear c25
   obtain ⟨y248, hy248⟩ : ∃ y_ : List Int, y_ = (x4_2.set (x5_1 : Int).toNat x6_2) := ⟨_, rfl⟩
   replace H : (sF67.l0 k2 t239 y248 (wrap64 (x5_1 - 1)) l0_0) = some r := by (try rw [hy248]); first | with_reducible exact H | with_reducible exact oS_ H | exact H
   have Ny248 := aM_ hy248
   clear hy248
   have H' := aM_ H
   clear H
   have p246 : 0 ≤ (x6_2 : Int) := oD_ ‹_›
   have q246 : x6_2 < (x4_2.length : Int) := oD_ ‹_›
   obtain ⟨ad246, e246, hx246_0⟩ := Kd.at_int (kR_ HO_4.out).2.2 x6_2 p246 q246
   obtain rfl : (⟨go15, 0, none⟩ : Addr) = ad246 := (by injection e246)
   (simp only [add_plain] at hx246_0)
   (try simp only [Int.toNat_natCast] at hx246_0)
   replace p246 := eq_true p246
   replace q246 := eq_true q246
   have hcz27_0 := c0_ BK238
   have hfz27_0 := bF_ BK238.out 0
   obtain ⟨Ao28, co28, eo28⟩ := Kd.S_slice HO_3.out
   subst eo28
   go_wp2_with (first | (go_at_call 121; (with_reducible refine (sF66.calls k2 _ _ l0_0 _ _ t239 _ _ x4_2 x5_1 x6_2 true _ ?side1 HC0_0.out ?side3 ?side4 ?side5 ?side6 A22.out).mono ?_); (case side1 => repeat (first | exact (k4_ HR0_0.out HB.out) | with_reducible first | apply cA_ | apply cN_ | apply cD_)); (case side3 => repeat (first | exact (Kd.S_reads' HO_3.out).2.2 | with_reducible first | apply cA_ | apply cN_ | apply cD_)); (case side4 => exact (Kd.S_reads' HO_3.out).2.1); (case side5 => repeat (first | exact (kR_ HO_4.out).2.2 | with_reducible first | apply cA_ | apply cN_ | apply cD_)); (case side6 => exact (kR_ HO_4.out).2.1); rintro e w29 ⟨rfl, hb⟩; replace HO_3 := aM_ (Kd.S_below (by (with_reducible repeat (first | apply Kd.S_alloc | apply Kd.S_drewN | apply Kd.S_drew)); exact HO_3.out) hb); replace HO_4 := k9_ HO_4 hb; replace BK238 := b5_ BK238 hb; replace HB := b4_ HB hb; (try clear hb); have p26 : 0 ≤ (x5_1 : Int) := oD_ ‹_›; have q26 : (x5_1 : Int) < ((x4_2.length : Int) : Int) := oD_ ‹_›; obtain ⟨hx26_0, hf26_0⟩ := kC_ 0 HO_4.out (x5_1 : Int) p26 q26; replace p26 := eq_true p26; replace q26 := eq_true q26; obtain ⟨hy30_, hz30_⟩ := kC_ 0 HO_4.out (x5_1 : Int) (oD_ ‹_›) (oD_ ‹_›); have HP30 := Kd.R_putg HO_4.out (x5_1 : Int) x6_2) | ((with_reducible refine gate_store (t := 3) (p := 49) rfl ?_); refine store_event (t := 3) (p := 49) (v := ?vo_w31) (w1 := (w29.setCell ⟨go15, (x5_1 : Int).toNat, none⟩ (.int .i64 x6_2))) ?hg ?ho ?hn ?hr ?_; (case ho => rfl); (case hg => rfl); (case hn => rfl); (case hr => (go_simp; done)); intro w31 hw; have hg : w29.grownBy w31 (some go15) := (by rw [hw]; exact HP30.2); have hp_ : Kd.R (Kd.int .i64) 3 w31 w.heap.size (fun _ => True) (.slice (some ⟨go15, 0, none⟩) x4_2.length co11) y248 := (by rw [hw, Ny248.out]; exact HP30.1); clear HP30; replace HO_3 := aM_ (Kd.S_after (v := (.slice (some ⟨go15, 0, none⟩) x4_2.length co11)) (v1 := (.slice (some ⟨go15, 0, none⟩) x4_2.length co11)) (ok := (fun _ => True)) (by (with_reducible repeat (first | apply Kd.S_alloc | apply Kd.S_drewN | apply Kd.S_drew)); exact Kd.S_mono HO_3.out (fun _ hk => ⟨trivial, hk⟩)) hg (.inl rfl)); replace BK238 := aM_ (blk_grown (g := gb238) (o := .cells #[.slice A0_0 l0_0.length c0_0] 28 (0, 0)) BK238.out hg (k6_ HO_4.out BK238.out (by decide))); replace HO_4 := aM_ (hp_); replace HB := aM_ ((by rw [hw]; exact bS_ (HB.out) GB15.out : Below w.heap.size w w31)); clear hg hw hp_))
   (try simp only [← hl4_1, ← hl4_2])
   go_roundg k2
   case measure => have := HK1.out; have := HK2.out; omega
   case rel => exact ⟨(y248), (wrap64 (x5_1 - 1)), (by rfl), H', ⟨by have := HK1.out; have := HK2.out; omega⟩, ⟨by (try simp only [hl4_1]); (try simp only [hl4_2]); (with_reducible repeat (first | apply Kd.S_alloc | apply Kd.S_drewN | apply Kd.S_drew)); exact Kd.S_mono HO_3.out (fun _ hk => hk.2)⟩, ⟨by (try simp only [hl4_1]); (try simp only [hl4_2]); exact HO_4.out⟩, ⟨by (try simp only [hl4_1]); (try simp only [hl4_2]); exact BK238.out⟩, ⟨HB.out⟩⟩
mutual
def sF69.l0 : Nat → List (List Int) → List Int → List Int → Int → Int → List (S96) → Option ((List (S72)))
 | 0, _, _, _, _, _, _ => none
 | k + 1, x3, x4, x5, x6, x7, x250000 => if x7 < (x4.length : Int) then (if 0 ≤ x7 then (if x7 < (x5.length : Int) then (sF69.l0 k x3 x4 (x5.set (x7 : Int).toNat (-1)) x6 (wrap64 (x7 + 1)) x250000) else (none)) else (none)) else (sF69.l1 k x3 x4 x5 x6 0 x250000)
def sF69.l1 : Nat → List (List Int) → List Int → List Int → Int → Int → List (S96) → Option ((List (S72)))
 | 0, _, _, _, _, _, _ => none
 | k + 1, x3, x4, x5, x6, x8, x250000 => if x8 < (x4.length : Int) then (if 0 ≤ x8 then (if 0 ≤ (rd x4 x8) then (if (rd x4 x8) < (x5.length : Int) then (if (rd x5 (rd x4 x8)) < 0 then (sF69.l1 k x3 x4 (x5.set ((rd x4 x8) : Int).toNat x6) (wrap64 (x6 + 1)) (wrap64 (x8 + 1)) x250000) else (sF69.l1 k x3 x4 x5 x6 (wrap64 (x8 + 1)) x250000)) else (none)) else (none)) else (none)) else (sF69.l2 k x3 x4 x5 0 x250000 (([] : List (S72))))
def sF69.l2 : Nat → List (List Int) → List Int → List Int → Int → List (S96) → List (S72) → Option ((List (S72)))
 | 0, _, _, _, _, _, _ => none
 | k + 1, x3, x4, x5, x10, x250000, x269000 => if x10 < (x4.length : Int) then (if 0 ≤ x10 then (if 0 ≤ (rd x4 x10) then (if (rd x4 x10) < (x5.length : Int) then (if (rd x5 (rd x4 x10)) = (x269000.length : Int) then (if x10 < (x250000.length : Int) then (sF69.l3 k x3 x4 x5 x10 0 x250000 x269000 ((rd_T96 x250000 x10).f2) (([] : List (S88)))) else (none)) else (sF69.l2 k x3 x4 x5 (wrap64 (x10 + 1)) x250000 x269000)) else (none)) else (none)) else (none)) else (some x269000)
def sF69.l3 : Nat → List (List Int) → List Int → List Int → Int → Int → List (S96) → List (S72) → Bool → List (S88) → Option ((List (S72)))
 | 0, _, _, _, _, _, _, _, _, _ => none
 | k + 1, x3, x4, x5, x10, x12, x250000, x269000, x276000, x276001 => if 0 ≤ x10 then (if x10 < (x3.length : Int) then (if x12 < ((rd_L10 x3 x10).length : Int) then (if 0 ≤ x12 then (if 0 ≤ (rd (rd_L10 x3 x10) x12) then (if (rd (rd_L10 x3 x10) x12) < (x250000.length : Int) then (if (rd (rd_L10 x3 x10) x12) < (x4.length : Int) then (if 0 ≤ (rd x4 (rd (rd_L10 x3 x10) x12)) then (if (rd x4 (rd (rd_L10 x3 x10) x12)) < (x5.length : Int) then (if x276001.length < 8796093022208 then (sF69.l3 k x3 x4 x5 x10 (wrap64 (x12 + 1)) x250000 x269000 x276000 (x276001 ++ [(⟨(rd_T96 x250000 (rd (rd_L10 x3 x10) x12)).f0, rd x5 (rd x4 (rd (rd_L10 x3 x10) x12))⟩ : S88)])) else (none)) else (none)) else (none)) else (none)) else (none)) else (none)) else (none)) else (if x269000.length < 4398046511104 then (sF69.l2 k x3 x4 x5 (wrap64 (x10 + 1)) x250000 (x269000 ++ [(⟨x276000, x276001⟩ : S72)])) else (none))) else (none)) else (none)
end
def sF69.f (k : Nat) (l0_0 : List (S96)) : Option ((List (S72))) := (sF68.f k l0_0).bind fun t251 => ((sF67.f k l0_0).bind fun t254 => (if 0 ≤ (t254.length : Int) then (if ((t254.length : Int) : Int).toNat ≤ 35184372088832 then (sF69.l0 k t251 t254 (List.replicate ((t254.length : Int) : Int).toNat 0) 0 0 l0_0) else (none)) else (none)))
theorem sF69.mono_l : ∀ k, (∀ y0 y1 y2 y3 y4 y5, LeO (sF69.l0 k y0 y1 y2 y3 y4 y5) (sF69.l0 (k + 1) y0 y1 y2 y3 y4 y5)) ∧ (∀ y0 y1 y2 y3 y4 y5, LeO (sF69.l1 k y0 y1 y2 y3 y4 y5) (sF69.l1 (k + 1) y0 y1 y2 y3 y4 y5)) ∧ (∀ y0 y1 y2 y3 y4 y5, LeO (sF69.l2 k y0 y1 y2 y3 y4 y5) (sF69.l2 (k + 1) y0 y1 y2 y3 y4 y5)) ∧ (∀ y0 y1 y2 y3 y4 y5 y6 y7 y8, LeO (sF69.l3 k y0 y1 y2 y3 y4 y5 y6 y7 y8) (sF69.l3 (k + 1) y0 y1 y2 y3 y4 y5 y6 y7 y8))
 | 0 => ⟨fun _ _ _ _ _ _ r h => by simp [sF69.l0] at h, fun _ _ _ _ _ _ r h => by simp [sF69.l1] at h, fun _ _ _ _ _ _ r h => by simp [sF69.l2] at h, fun _ _ _ _ _ _ _ _ _ r h => by simp [sF69.l3] at h⟩
 | k + 1 => by
  obtain ⟨ih0, ih1, ih2, ih3⟩ := sF69.mono_l k
  refine ⟨?_, ?_, ?_, ?_⟩
  ·
   intro y0 y1 y2 y3 y4 y5
   unfold sF69.l0
   repeat' with_reducible first | exact ih0 _ _ _ _ _ _ | exact ih1 _ _ _ _ _ _ | exact ih2 _ _ _ _ _ _ | exact ih3 _ _ _ _ _ _ _ _ _ | exact sF67.mono _ _ | exact sF68.mono _ _ | exact l3_ _ | exact l0_ _ | refine l2_ ?_ ?_ | refine l1_ ?_ (fun _ => ?_)
  ·
   intro y0 y1 y2 y3 y4 y5
   unfold sF69.l1
   repeat' with_reducible first | exact ih0 _ _ _ _ _ _ | exact ih1 _ _ _ _ _ _ | exact ih2 _ _ _ _ _ _ | exact ih3 _ _ _ _ _ _ _ _ _ | exact sF67.mono _ _ | exact sF68.mono _ _ | exact l3_ _ | exact l0_ _ | refine l2_ ?_ ?_ | refine l1_ ?_ (fun _ => ?_)
  ·
   intro y0 y1 y2 y3 y4 y5
   unfold sF69.l2
   repeat' with_reducible first | exact ih0 _ _ _ _ _ _ | exact ih1 _ _ _ _ _ _ | exact ih2 _ _ _ _ _ _ | exact ih3 _ _ _ _ _ _ _ _ _ | exact sF67.mono _ _ | exact sF68.mono _ _ | exact l3_ _ | exact l0_ _ | refine l2_ ?_ ?_ | refine l1_ ?_ (fun _ => ?_)
  intro y0 y1 y2 y3 y4 y5 y6 y7 y8
  unfold sF69.l3
  repeat' with_reducible first | exact ih0 _ _ _ _ _ _ | exact ih1 _ _ _ _ _ _ | exact ih2 _ _ _ _ _ _ | exact ih3 _ _ _ _ _ _ _ _ _ | exact sF67.mono _ _ | exact sF68.mono _ _ | exact l3_ _ | exact l0_ _ | refine l2_ ?_ ?_ | refine l1_ ?_ (fun _ => ?_)
theorem sF69.mono : ∀ a0 k, LeO (sF69.f k a0) (sF69.f (k + 1) a0) := by
 intro a0 k
 obtain ⟨ih0, ih1, ih2, ih3⟩ := sF69.mono_l k
 unfold sF69.f
 repeat' with_reducible first | exact ih0 _ _ _ _ _ _ | exact ih1 _ _ _ _ _ _ | exact ih2 _ _ _ _ _ _ | exact ih3 _ _ _ _ _ _ _ _ _ | exact sF67.mono _ _ | exact sF68.mono _ _ | exact l3_ _ | exact l0_ _ | refine l2_ ?_ ?_ | refine l1_ ?_ (fun _ => ?_)
def sF69.T17 : Bool × List (List Nat × List Nat) := (true, [([], []), ([], []), ([], []), ([1, 2], [1, 2]), ([3], [3]), ([0, 4], [0, 4]), ([5], [5]), ([], []), ([7], [7]), ([8], [8]), ([6, 9], [6, 9])])
def sF69.B17 : List Nat := [0, 0, 0, 6, 14, 31, 63, 0, 128, 384, 1023]
theorem sF69.tab17 : rtab .any (opsOf Tryz.f77 17) = sF69.T17 := by kernel_rfl
theorem sF69.bits17 : waitsOk sF69.T17.2 sF69.B17 = true := by kernel_rfl
def sF69.T22 : Bool × List (List Nat × List Nat) := (true, [([], []), ([0], [0]), ([], []), ([2], [2]), ([], []), ([], []), ([4, 5], [4, 5]), ([6], [6]), ([], []), ([7, 8], [7, 8]), ([9], [9]), ([3, 10], [3, 10]), ([11], [11]), ([12], [12]), ([], []), ([], []), ([], []), ([], []), ([16, 17], [16, 17]), ([18], [18]), ([], []), ([19, 20], [19, 20]), ([21], [21]), ([15, 22], [15, 22]), ([23], [23]), ([14, 24], [14, 24]), ([25], [25]), ([13, 26], [13, 26]), ([27], [27]), ([1, 28], [1, 28]), ([0, 1, 2, 3, 4, 5, 6, 7, 8, 9, 10, 11, 12, 13, 14, 15, 16, 17, 18, 19, 20, 21, 22, 23, 24, 25, 26, 27, 28, 29], []), ([30, 29, 29, 0, 1, 2, 3, 4, 5, 6, 7, 8, 9, 10, 11, 12, 13, 14, 15, 16, 17, 18, 19, 20, 21, 22, 23, 24, 25, 26, 27, 28, 29], [29, 30])])
def sF69.B22 : List Nat := [0, 1, 0, 4, 0, 0, 48, 112, 0, 496, 1008, 2044, 4092, 8188, 0, 0, 0, 0, 196608, 458752, 0, 2031616, 4128768, 8355840, 16744448, 33538048, 67092480, 134217724, 268435452, 536870911, 1073741823, 2147483647]
theorem sF69.tab22 : rtab .any (opsOf Tryz.f77 22) = sF69.T22 := by kernel_rfl
theorem sF69.bits22 : waitsOk sF69.T22.2 sF69.B22 = true := by kernel_rfl
theorem sF69.calls (k : Nat) (A0_0 : Option Addr) (c0_0 : Nat) (l0_0 : List (S96)) (r : List (S72)) (w : World) (hr0_0 : Kd.C k96 w A0_0 l0_0.length l0_0) (hc0_0 : l0_0.length ≤ c0_0) (h : sF69.f k l0_0 = some r) :
  Calls Tryz.prog 77 #[.agg #[.slice A0_0 l0_0.length c0_0]] w fun e w' => ∃ v0_ : Value, e = .returned (.agg #[v0_]) ∧ Kd.S k72 72 w' w.heap.size (fun _ => True) v0_ r ∧ Below w.heap.size w w' := by
 have hu28 := Tryz.underlying28
 have hu33 := Tryz.underlying33
 have hu72 := Tryz.underlying72
 have hu88 := Tryz.underlying88
 have HR0_0 := aM_ hr0_0
 have HC0_0 := aM_ hc0_0
 clear hr0_0 hc0_0
 have HB := aM_ (Below.refl w.heap.size w)
 have H : ((sF68.f k l0_0).bind fun t251 => ((sF67.f k l0_0).bind fun t254 => (if 0 ≤ (t254.length : Int) then (if ((t254.length : Int) : Int).toNat ≤ 35184372088832 then (sF69.l0 k t251 t254 (List.replicate ((t254.length : Int) : Int).toNat 0) 0 0 l0_0) else (none)) else (none)))) = some r := h
 clear h
 replace H := oB_.mp H
 obtain ⟨t251, A20, H⟩ := H
 try dsimp only at H
 have A2 := aM_ A20
 clear A20
 replace H := oB_.mp H
 obtain ⟨t254, A30, H⟩ := H
 try dsimp only at H
 have A3 := aM_ A30
 clear A30
 by_cases c4 : 0 ≤ (t254.length : Int)
 rotate_left
 ·
  rw [if_neg c4] at H
  exact absurd H (by simp)
 rw [if_pos c4] at H
 have c4b0 := eq_true c4
 have c4b1 := dT_ c4
 clear c4
 by_cases c5 : ((t254.length : Int) : Int).toNat ≤ 35184372088832
 rotate_left
 ·
  rw [if_neg c5] at H
  exact absurd H (by simp)
 rw [if_pos c5] at H
 have c5b0 := eq_true c5
 have c5b1 := dT_ c5
 clear c5
 obtain ⟨y257, hy257⟩ : ∃ y_ : List Int, y_ = (List.replicate ((t254.length : Int) : Int).toNat 0) := ⟨_, rfl⟩
 replace H : (sF69.l0 k t251 t254 y257 0 0 l0_0) = some r := by (try rw [hy257]); first | with_reducible exact H | with_reducible exact oS_ H | exact H
 have Ny257 := aM_ hy257
 clear hy257
 have H' := aM_ H
 clear H
 go_enter Tryz.func77, Tryz.ntmps77
 try go_wp2_with (first | (refine bx_ 1 #[.slice A0_0 l0_0.length c0_0] 28 ?_; intro gb249 hg w6 hbox hb; have BK249 := aM_ (hbox); have GW249 := gw_ hg HB; replace HB := b4_ HB hb; clear hb hbox hg) | (refine bx_ 2 #[.slice none 0 0] 33 ?_; intro gb250 hg w7 hbox hb; have BK250 := aM_ (hbox); have GW250 := gw_ hg HB; replace HB := b4_ HB hb; have NB249_250 := nb_ hg BK249; have NB250_249 := ns_ NB249_250; replace BK249 := b5_ BK249 hb; clear hb hbox hg))
 have n0_ := aM_ (b1_ BK249.out)
 have n1_ := aM_ (b1_ BK250.out)
 have n2_ := aM_ (bD_ HB.out)
 clear BK249
 clear BK250
 clear HB
 have BK249 := n0_
 have BK250 := n1_
 have HB := n2_
 clear n0_ n1_ n2_
 refine start_ (n := 6) (S := fun w' => w'.cell? ⟨gb249, 0, none⟩ = some (.slice A0_0 l0_0.length c0_0)) (ds := []) #[fy, fy, fy, fy, fy, fy] (by kernel_rfl) rfl rfl ((bC_ BK249.out 0).trans rfl) (fun hHeld => ?_)
 generalize w7.drew = w8 at BK249 BK250 HB hHeld ⊢
 refine take_ (i := 0) (N := some 13) (v := ?_) (a' := ?_) #[ty, fy, fy, fy, fy, fy] rfl rfl (by kernel_rfl) (fun _ _ _ h => h) (Or.inl ⟨by rfl, ?_⟩) hHeld ?_ ?_; rotate_left; (intro w' s0; go_simp; with_reducible rfl); rotate_left; (simp only [Act.put, sA_, sB_, sC_, i6_, i3_]; rfl)
 refine take_ (i := 2) (N := some 15) (v := ?_) (a' := ?_) #[ty, fy, ty, fy, fy, fy] rfl rfl (by kernel_rfl) (fun _ _ _ h => h) (Or.inl ⟨by rfl, ?_⟩) hHeld ?_ ?_; rotate_left; (intro w' s0; go_simp; with_reducible rfl); rotate_left; (simp only [Act.put, sA_, sB_, sC_, i6_, i3_]; rfl)
 refine one_ (i := 1) (N := some 14) #[ty, ty, ty, fy, fy, fy] rfl rfl (by kernel_rfl) (by decide) (fun K hK => ?_)
 refine goes_ Tryz.func101 (by kernel_rfl) rfl #[.agg #[.slice A0_0 l0_0.length c0_0]] (by rfl) rfl rfl (by (try simp only [sD_, sE_, sF_]); rfl) ?_
 with_reducible refine (sF68.calls k _ _ l0_0 t251 _ ?side1 ?side2 A2.out).mono ?_
 (case side1 => repeat (first | exact (k4_ HR0_0.out HB.out) | with_reducible first | apply cA_ | apply cN_ | apply cD_))
 (case side2 => exact HC0_0.out)
 rintro e w9 ⟨v252, rfl, ho0, hb⟩
 refine ⟨_, rfl, ?_⟩
 have n0_ := aM_ (Kd.S_lower ho0 (bZ_ HB.out))
 have n1_ := b5_ BK249 hb
 have n2_ := b5_ BK250 hb
 have n3_ := b4_ HB hb
 clear BK249
 clear BK250
 clear HB
 have HO253 := n0_
 have BK249 := n1_
 have BK250 := n2_
 have HB := n3_
 clear n0_ n1_ n2_ n3_
 (try clear hb)
 (try clear ho0)
 refine hK.out _ _ ((bC_ BK249.out 0).trans rfl) (fun hHeld => ?_)
 clear hK K
 refine norm_ (by show Act.put _ (some 14) _ = _; simp only [Act.put, sA_, sB_, sC_, i6_, i3_]; rfl) ?_
 refine one_ (i := 3) (N := some 16) #[ty, ty, ty, ty, fy, fy] rfl rfl (by kernel_rfl) (by decide) (fun K hK => ?_)
 refine goes_ Tryz.func102 (by kernel_rfl) rfl #[.agg #[.slice A0_0 l0_0.length c0_0]] (by rfl) rfl rfl (by (try simp only [sD_, sE_, sF_]); rfl) ?_
 with_reducible refine (sF67.calls k _ _ l0_0 t254 _ ?side1 ?side2 A3.out).mono ?_
 (case side1 => repeat (first | exact (k4_ HR0_0.out HB.out) | with_reducible first | apply cA_ | apply cN_ | apply cD_))
 (case side2 => exact HC0_0.out)
 rintro e w10 ⟨v255, rfl, ho0, hb⟩
 refine ⟨_, rfl, ?_⟩
 have n0_ := aM_ (Kd.S_elder' (by (with_reducible repeat (first | apply Kd.S_alloc | apply Kd.S_drewN | apply Kd.S_drew)); exact HO253.out) (Kd.R_base ho0) hb)
 have n1_ := aM_ (k5_ ho0 (bZ_ HB.out))
 have n2_ := b5_ BK249 hb
 have n3_ := b5_ BK250 hb
 have n4_ := b4_ HB hb
 clear HO253
 clear BK249
 clear BK250
 clear HB
 have HO253 := n0_
 have HO256 := n1_
 have BK249 := n2_
 have BK250 := n3_
 have HB := n4_
 clear n0_ n1_ n2_ n3_ n4_
 (try clear hb)
 (try clear ho0)
 refine hK.out _ _ ((bC_ BK249.out 0).trans rfl) (fun hHeld => ?_)
 clear hK K
 refine norm_ (by show Act.put _ (some 16) _ = _; simp only [Act.put, sA_, sB_, sC_, i6_, i3_]; rfl) ?_
 refine pure_ (i := 4) (N := some 3) (v := ?_) (a' := ?_) #[ty, ty, ty, ty, ty, fy] rfl rfl (by kernel_rfl) (fun _ _ _ h => h) (Or.inl ⟨by rfl, ?_⟩) ?_ ?_; rotate_left; (intro w'; go_simp; with_reducible rfl); rotate_left; (simp only [Act.put, sA_, sB_, sC_, i6_, i3_]; rfl)
 refine pure_ (i := 5) (N := some 4) (v := ?_) (a' := ?_) #[ty, ty, ty, ty, ty, ty] rfl rfl (by kernel_rfl) (fun _ _ _ h => h) (Or.inl ⟨by rfl, ?_⟩) ?_ ?_; rotate_left; (intro w'; go_simp; with_reducible rfl); rotate_left; (simp only [Act.put, sA_, sB_, sC_, i6_, i3_]; rfl)
 refine done_ (by kernel_rfl) ?_
 obtain ⟨Ao11, co11, eo11⟩ := kS_ HO256.out
 subst eo11
 try go_wp2_with (first | ((with_reducible refine gD_ (N := 19) rfl ?_); refine Kd.R_make (Kd.int .i64) _ 3 rfl (N := 19) rfl 56 _ _ rfl (t254.length : Int) rfl rfl Tryz.underlying56 (.int .i64 0) 8 info3 rfl (by decide) (by omega) 0 (ok := fun _ => True) (okp := fun _ => True) rfl (fun _ hk => hk) trivial (oD_ ‹_›) (Nat.le_trans (Nat.mul_le_mul_right _ (oD_ ‹_› : (t254.length : Int).toNat ≤ 35184372088832)) (by omega)) (Below.refl _ _) (Nat.le_refl _) ?_; intro v258 w12 ho13 hb hg_ hnew_; clear hg_ hnew_; (rw [← Ny257.out] at ho13); replace HO253 := aM_ (Kd.S_elder' (by (with_reducible repeat (first | apply Kd.S_alloc | apply Kd.S_drewN | apply Kd.S_drew)); exact HO253.out) (Kd.R_base ho13) hb); have HO259 := aM_ (k5_ (Kd.R_new' ho13 (Kd.R_lt HO256.out)) (bZ_ HB.out)); replace HO256 := aM_ (Kd.R_elder' HO256.out (Kd.R_base ho13) hb); replace BK249 := b5_ BK249 hb; replace BK250 := b5_ BK250 hb; replace HB := b4_ HB hb; clear hb ho13))
 go_loopg [7] k (fun kq v7 w' => ∃ (x5_1 : List Int) (x7_1 : Int), v7 = .int .i64 x7_1 ∧ Aside0 (sF69.l0 kq t251 t254 x5_1 0 x7_1 l0_0 = some r) ∧ Aside0 (kq ≤ k) ∧ Aside0 (Kd.S (Kd.slice 3 (Kd.int .i64)) 56 w' w.heap.size (fun k_ => some k_ ≠ ((.slice Ao11 t254.length co11) : Value).ownBlock ∧ some k_ ≠ (v258 : Value).ownBlock) v252 t251) ∧ Aside0 (Kd.R (Kd.int .i64) 3 w' w.heap.size (fun k_ => some k_ ≠ (v258 : Value).ownBlock) (.slice Ao11 t254.length co11) t254) ∧ Aside0 (Kd.R (Kd.int .i64) 3 w' w.heap.size (fun k_ => some k_ ≠ ((.slice Ao11 t254.length co11) : Value).ownBlock) v258 x5_1) ∧ Aside0 (w'.heap[gb249]? = some (.cells #[(.slice A0_0 l0_0.length c0_0)] 28 (0, 0))) ∧ Aside0 (w'.heap[gb250]? = some (.cells #[(.slice none 0 0)] 33 (0, 0))) ∧ Aside0 (Below w.heap.size w w'))
 case atStart => exact ⟨(y257), (0), (by rfl), H', ⟨Nat.le_refl _⟩, ⟨by (with_reducible repeat (first | apply Kd.S_alloc | apply Kd.S_drewN | apply Kd.S_drew)); exact Kd.S_mono HO253.out (fun _ hk => ⟨hk.1.2, hk.2⟩)⟩, ⟨by exact kM_ HO256.out (fun _ hk => hk.2)⟩, ⟨by exact kM_ HO259.out (fun _ hk => hk.2)⟩, ⟨BK249.out⟩, ⟨BK250.out⟩, ⟨HB.out⟩⟩
 clear H'
 try clear p2
 try clear c4b0
 try clear c4b1
 try clear c5b0
 try clear c5b1
 obtain ⟨x5_1, x7_1, rfl, HA, HK1, HO_3, HO_4, HO_5, BK249, BK250, HB⟩ := hrel
 cases gk with
 | zero => exact absurd HA.out (by simp [sF69.l0])
 | succ k1 =>
  have H := HA.out
  clear HA
  simp only [sF69.l0] at H
  by_cases c14 : x7_1 < (t254.length : Int)
  ·
   rw [if_pos c14] at H
   have c14b0 := dT_ c14
   clear c14
   by_cases c15 : 0 ≤ x7_1
   rotate_left
   ·
    rw [if_neg c15] at H
    exact absurd H (by simp)
   rw [if_pos c15] at H
   have c15b0 := dT_ c15
   clear c15
   by_cases c16 : x7_1 < (x5_1.length : Int)
   rotate_left
   ·
    rw [if_neg c16] at H
    exact absurd H (by simp)
   rw [if_pos c16] at H
   have c16b0 := dT_ c16
   clear c16
   obtain ⟨y260, hy260⟩ : ∃ y_ : List Int, y_ = (x5_1.set (x7_1 : Int).toNat (-1)) := ⟨_, rfl⟩
   replace H : (sF69.l0 k1 t251 t254 y260 0 (wrap64 (x7_1 + 1)) l0_0) = some r := by (try rw [hy260]); first | with_reducible exact H | with_reducible exact oS_ H | exact H
   have Ny260 := aM_ hy260
   clear hy260
   have H' := aM_ H
   clear H
   have p17 : 0 ≤ (x7_1 : Int) := oD_ ‹_›
   have q17 : (x7_1 : Int) < ((x5_1.length : Int) : Int) := oD_ ‹_›
   obtain ⟨go17, co17, eo17, gb17, gl17, cl17, HG17⟩ := Kd.R_form HO_5.out (by omega)
   (cases eo17)
   have GB17 := aM_ gb17
   have GG17 := aM_ HG17
   clear gb17 gl17 HG17
   obtain ⟨hx17_0, hf17_0⟩ := kC_ 0 HO_5.out (x7_1 : Int) p17 q17
   (try simp only [Int.toNat_natCast] at hx17_0 hf17_0)
   replace p17 := eq_true p17
   replace q17 := eq_true q17
   have HP18 := Kd.R_putg HO_5.out (x7_1 : Int) (-1)
   go_wp2_with (first | ((with_reducible refine gate_store (t := 3) (p := 28) rfl ?_); refine store_event (t := 3) (p := 28) (v := ?vo_w19) (w1 := (wr.setCell ⟨go17, (x7_1 : Int).toNat, none⟩ (.int .i64 (-1)))) ?hg ?ho ?hn ?hr ?_; (case ho => rfl); (case hg => rfl); (case hn => rfl); (case hr => (go_simp; done)); intro w19 hw; have hg : wr.grownBy w19 (some go17) := (by rw [hw]; exact HP18.2); have hp_ : Kd.R (Kd.int .i64) 3 w19 w.heap.size (fun k_ => some k_ ≠ (.slice Ao11 t254.length co11 : Value).ownBlock) (.slice (some ⟨go17, 0, none⟩) x5_1.length co17) y260 := (by rw [hw, Ny260.out]; exact HP18.1); clear HP18; replace HO_3 := aM_ (Kd.S_after (v := (.slice (some ⟨go17, 0, none⟩) x5_1.length co17)) (v1 := (.slice (some ⟨go17, 0, none⟩) x5_1.length co17)) (ok := (fun k_ => some k_ ≠ (.slice Ao11 t254.length co11 : Value).ownBlock)) (by (with_reducible repeat (first | apply Kd.S_alloc | apply Kd.S_drewN | apply Kd.S_drew)); exact HO_3.out) hg (.inl rfl)); replace HO_4 := aM_ (Kd.R_after (v := (.slice (some ⟨go17, 0, none⟩) x5_1.length co17)) (v1 := (.slice (some ⟨go17, 0, none⟩) x5_1.length co17)) (ok := (fun _ => True)) (by exact kM_ HO_4.out (fun _ hk => ⟨trivial, hk⟩)) hg (.inl rfl)); replace BK249 := aM_ (blk_grown (g := gb249) (o := .cells #[.slice A0_0 l0_0.length c0_0] 28 (0, 0)) BK249.out hg (k6_ HO_5.out BK249.out (by decide))); replace BK250 := aM_ (blk_grown (g := gb250) (o := .cells #[.slice none 0 0] 33 (0, 0)) BK250.out hg (k6_ HO_5.out BK250.out (by decide))); replace HO_5 := aM_ (hp_); replace HB := aM_ ((by rw [hw]; exact bS_ (HB.out) GB17.out : Below w.heap.size w w19)); clear hg hw hp_))
   go_roundg k1
   case measure => have := HK1.out; omega
   case rel => exact ⟨(y260), (wrap64 (x7_1 + 1)), (by rfl), H', ⟨by have := HK1.out; omega⟩, ⟨by (with_reducible repeat (first | apply Kd.S_alloc | apply Kd.S_drewN | apply Kd.S_drew)); exact HO_3.out⟩, ⟨by exact kM_ HO_4.out (fun _ hk => hk.2)⟩, ⟨HO_5.out⟩, ⟨BK249.out⟩, ⟨BK250.out⟩, ⟨HB.out⟩⟩
  rw [if_neg c14] at H
  have c14b0 := dF_ c14
  clear c14
  have H' := aM_ H
  clear H
  go_wp2
  go_loopg [6, 8] k1 (fun kq v6 v8 w' => ∃ (x5_2 : List Int) (x6_2 : Int) (x8_2 : Int), v6 = .int .i64 x6_2 ∧ v8 = .int .i64 x8_2 ∧ Aside0 (sF69.l1 kq t251 t254 x5_2 x6_2 x8_2 l0_0 = some r) ∧ Aside0 (kq ≤ k1) ∧ Aside0 (Kd.S (Kd.slice 3 (Kd.int .i64)) 56 w' w.heap.size (fun k_ => some k_ ≠ ((.slice Ao11 t254.length co11) : Value).ownBlock ∧ some k_ ≠ (v258 : Value).ownBlock) v252 t251) ∧ Aside0 (Kd.R (Kd.int .i64) 3 w' w.heap.size (fun k_ => some k_ ≠ (v258 : Value).ownBlock) (.slice Ao11 t254.length co11) t254) ∧ Aside0 (Kd.R (Kd.int .i64) 3 w' w.heap.size (fun k_ => some k_ ≠ ((.slice Ao11 t254.length co11) : Value).ownBlock) v258 x5_2) ∧ Aside0 (w'.heap[gb249]? = some (.cells #[(.slice A0_0 l0_0.length c0_0)] 28 (0, 0))) ∧ Aside0 (w'.heap[gb250]? = some (.cells #[(.slice none 0 0)] 33 (0, 0))) ∧ Aside0 (Below w.heap.size w w'))
  case atStart => exact ⟨(x5_1), (0), (0), (by rfl), (by rfl), H', ⟨Nat.le_refl _⟩, ⟨by (with_reducible repeat (first | apply Kd.S_alloc | apply Kd.S_drewN | apply Kd.S_drew)); exact HO_3.out⟩, ⟨HO_4.out⟩, ⟨HO_5.out⟩, ⟨BK249.out⟩, ⟨BK250.out⟩, ⟨HB.out⟩⟩
  clear H'
  try clear p1
  try clear q1
  try clear hx1
  try clear hf1
  try clear p2
  try clear c4b0
  try clear c4b1
  try clear c5b0
  try clear c5b1
  try clear p6
  try clear c14b0
  try clear c15b0
  try clear c16b0
  try clear p17
  try clear q17
  try clear hx17
  try clear hf17
  try clear hx17_0
  try clear p17
  try clear p2
  try clear q17
  obtain ⟨x5_2, x6_2, x8_2, rfl, rfl, HA, HK2, HO_3, HO_4, HO_5, BK249, BK250, HB⟩ := hrel
  cases gk with
  | zero => exact absurd HA.out (by simp [sF69.l1])
  | succ k2 =>
   have H := HA.out
   clear HA
   simp only [sF69.l1] at H
   by_cases c20 : x8_2 < (t254.length : Int)
   ·
    rw [if_pos c20] at H
    have c20b0 := dT_ c20
    clear c20
    by_cases c21 : 0 ≤ x8_2
    rotate_left
    ·
     rw [if_neg c21] at H
     exact absurd H (by simp)
    rw [if_pos c21] at H
    have c21b0 := dT_ c21
    clear c21
    by_cases c22 : 0 ≤ (rd t254 x8_2)
    rotate_left
    ·
     rw [if_neg c22] at H
     exact absurd H (by simp)
    rw [if_pos c22] at H
    have c22b0 := dT_ c22
    clear c22
    by_cases c23 : (rd t254 x8_2) < (x5_2.length : Int)
    rotate_left
    ·
     rw [if_neg c23] at H
     exact absurd H (by simp)
    rw [if_pos c23] at H
    have c23b0 := dT_ c23
    clear c23
    by_cases c24 : (rd x5_2 (rd t254 x8_2)) < 0
    rotate_left
    ·
     rw [if_neg c24] at H
     have c24b0 := dF_ c24
     clear c24
     have H' := aM_ H
     clear H
     have p261 : 0 ≤ (x8_2 : Int) := oD_ ‹_›
     have q261 : x8_2 < (t254.length : Int) := oD_ ‹_›
     obtain ⟨ad261, e261, hx261_0⟩ := Kd.at_int (kR_ HO_4.out).2.2 x8_2 p261 q261
     cases e261
     replace p261 := eq_true p261
     replace q261 := eq_true q261
     obtain ⟨Ao29, co29, eo29⟩ := kS_ HO_5.out
     subst eo29
     have p262 : 0 ≤ ((rd t254 x8_2) : Int) := oD_ ‹_›
     have q262 : (rd t254 x8_2) < (x5_2.length : Int) := oD_ ‹_›
     obtain ⟨ad262, e262, hx262_0⟩ := Kd.at_int (kR_ HO_5.out).2.2 (rd t254 x8_2) p262 q262
     cases e262
     replace p262 := eq_true p262
     replace q262 := eq_true q262
     go_wp2
     go_roundg k2
     case measure => have := HK1.out; have := HK2.out; omega
     case rel => exact ⟨(x5_2), (x6_2), (wrap64 (x8_2 + 1)), (by rfl), (by rfl), H', ⟨by have := HK1.out; have := HK2.out; omega⟩, ⟨by (with_reducible repeat (first | apply Kd.S_alloc | apply Kd.S_drewN | apply Kd.S_drew)); exact HO_3.out⟩, ⟨HO_4.out⟩, ⟨HO_5.out⟩, ⟨BK249.out⟩, ⟨BK250.out⟩, ⟨HB.out⟩⟩
    rw [if_pos c24] at H
    have c24b0 := dT_ c24
    clear c24
    obtain ⟨y264, hy264⟩ : ∃ y_ : List Int, y_ = (x5_2.set ((rd t254 x8_2) : Int).toNat x6_2) := ⟨_, rfl⟩
    replace H : (sF69.l1 k2 t251 t254 y264 (wrap64 (x6_2 + 1)) (wrap64 (x8_2 + 1)) l0_0) = some r := by (try rw [hy264]); first | with_reducible exact H | with_reducible exact oS_ H | exact H
    have Ny264 := aM_ hy264
    clear hy264
    have H' := aM_ H
    clear H
    have p261 : 0 ≤ (x8_2 : Int) := oD_ ‹_›
    have q261 : x8_2 < (t254.length : Int) := oD_ ‹_›
    obtain ⟨ad261, e261, hx261_0⟩ := Kd.at_int (kR_ HO_4.out).2.2 x8_2 p261 q261
    cases e261
    replace p261 := eq_true p261
    replace q261 := eq_true q261
    obtain ⟨Ao26, co26, eo26⟩ := kS_ HO_5.out
    subst eo26
    have p262 : 0 ≤ ((rd t254 x8_2) : Int) := oD_ ‹_›
    have q262 : (rd t254 x8_2) < (x5_2.length : Int) := oD_ ‹_›
    obtain ⟨ad262, e262, hx262_0⟩ := Kd.at_int (kR_ HO_5.out).2.2 (rd t254 x8_2) p262 q262
    cases e262
    replace p262 := eq_true p262
    replace q262 := eq_true q262
    have p263 : 0 ≤ (x8_2 : Int) := oD_ ‹_›
    have q263 : x8_2 < (t254.length : Int) := oD_ ‹_›
    obtain ⟨ad263, e263, hx263_0⟩ := Kd.at_int (kR_ HO_4.out).2.2 x8_2 p263 q263
    obtain rfl : ad261 = ad263 := (by injection e263)
    replace p263 := eq_true p263
    replace q263 := eq_true q263
    have p25 : 0 ≤ ((rd t254 x8_2) : Int) := oD_ ‹_›
    have q25 : ((rd t254 x8_2) : Int) < ((x5_2.length : Int) : Int) := oD_ ‹_›
    obtain ⟨go25, co25, eo25, gb25, gl25, cl25, HG25⟩ := Kd.R_form HO_5.out (by omega)
    (cases eo25)
    have GB25 := aM_ gb25
    have GG25 := aM_ HG25
    clear gb25 gl25 HG25
    (simp only [add_plain] at hx262_0)
    (try simp only [Int.toNat_natCast] at hx262_0)
    obtain ⟨hx25_0, hf25_0⟩ := kC_ 0 HO_5.out ((rd t254 x8_2) : Int) p25 q25
    (try simp only [Int.toNat_natCast] at hx25_0 hf25_0)
    replace p25 := eq_true p25
    replace q25 := eq_true q25
    have HP27 := Kd.R_putg HO_5.out ((rd t254 x8_2) : Int) x6_2
    go_wp2_with (first | ((with_reducible refine gate_store (t := 3) (p := 49) rfl ?_); refine store_event (t := 3) (p := 49) (v := ?vo_w28) (w1 := (wr.setCell ⟨go25, ((rd t254 x8_2) : Int).toNat, none⟩ (.int .i64 x6_2))) ?hg ?ho ?hn ?hr ?_; (case ho => rfl); (case hg => rfl); (case hn => rfl); (case hr => (go_simp; done)); intro w28 hw; have hg : wr.grownBy w28 (some go25) := (by rw [hw]; exact HP27.2); have hp_ : Kd.R (Kd.int .i64) 3 w28 w.heap.size (fun k_ => some k_ ≠ (.slice (some ad261) t254.length co11 : Value).ownBlock) (.slice (some ⟨go25, 0, none⟩) x5_2.length co26) y264 := (by rw [hw, Ny264.out]; exact HP27.1); clear HP27; replace HO_3 := aM_ (Kd.S_after (v := (.slice (some ⟨go25, 0, none⟩) x5_2.length co26)) (v1 := (.slice (some ⟨go25, 0, none⟩) x5_2.length co26)) (ok := (fun k_ => some k_ ≠ (.slice (some ad261) t254.length co11 : Value).ownBlock)) (by (with_reducible repeat (first | apply Kd.S_alloc | apply Kd.S_drewN | apply Kd.S_drew)); exact HO_3.out) hg (.inl rfl)); replace HO_4 := aM_ (Kd.R_after (v := (.slice (some ⟨go25, 0, none⟩) x5_2.length co26)) (v1 := (.slice (some ⟨go25, 0, none⟩) x5_2.length co26)) (ok := (fun _ => True)) (by exact kM_ HO_4.out (fun _ hk => ⟨trivial, hk⟩)) hg (.inl rfl)); replace BK249 := aM_ (blk_grown (g := gb249) (o := .cells #[.slice A0_0 l0_0.length c0_0] 28 (0, 0)) BK249.out hg (k6_ HO_5.out BK249.out (by decide))); replace BK250 := aM_ (blk_grown (g := gb250) (o := .cells #[.slice none 0 0] 33 (0, 0)) BK250.out hg (k6_ HO_5.out BK250.out (by decide))); replace HO_5 := aM_ (hp_); replace HB := aM_ ((by rw [hw]; exact bS_ (HB.out) GB25.out : Below w.heap.size w w28)); clear hg hw hp_))
    go_roundg k2
    case measure => have := HK1.out; have := HK2.out; omega
    case rel => exact ⟨(y264), (wrap64 (x6_2 + 1)), (wrap64 (x8_2 + 1)), (by rfl), (by rfl), H', ⟨by have := HK1.out; have := HK2.out; omega⟩, ⟨by (with_reducible repeat (first | apply Kd.S_alloc | apply Kd.S_drewN | apply Kd.S_drew)); exact HO_3.out⟩, ⟨by exact kM_ HO_4.out (fun _ hk => hk.2)⟩, ⟨HO_5.out⟩, ⟨BK249.out⟩, ⟨BK250.out⟩, ⟨HB.out⟩⟩
   rw [if_neg c20] at H
   have c20b0 := dF_ c20
   clear c20
   obtain ⟨y265, hy265⟩ : ∃ y_ : List (S72), y_ = (([] : List (S72))) := ⟨_, rfl⟩
   replace H : (sF69.l2 k2 t251 t254 x5_2 0 l0_0 y265) = some r := by (try rw [hy265]); first | with_reducible exact H | with_reducible exact oS_ H | exact H
   have Ny265 := aM_ hy265
   clear hy265
   have H' := aM_ H
   clear H
   go_wp2_with (first | ((with_reducible refine gD_ (N := 52) rfl ?_); refine Kd.S_lit k72 _ 72 ?hg (N := 52) ?hd (xs := ([] : List (S72))) (inner := []) (ok := fun _ => True) (okp := fun _ => True) ?hr ?hp (fun _ hk => hk) trivial (Below.refl _ _) (Nat.le_refl _) (by simp) ?_; (case hd => rfl); (case hg => rfl); (case hr => (go_simp; done)); (case hp => exact (Reps.none _ _)); intro v266 w30 ho31 hb hg_ hnew_; clear hg_ hnew_; (rw [← Ny265.out] at ho31); replace HO_3 := aM_ (Kd.S_below (by (with_reducible repeat (first | apply Kd.S_alloc | apply Kd.S_drewN | apply Kd.S_drew)); exact HO_3.out) hb); replace HO_4 := k9_ HO_4 hb; replace HO_5 := k9_ HO_5 hb; have HO267 := aM_ (Kd.S_lower ho31 (bZ_ HB.out)); replace BK249 := b5_ BK249 hb; replace BK250 := b5_ BK250 hb; replace HB := b4_ HB hb; clear hb ho31; obtain ⟨Ao32, co32, eo32⟩ := Kd.S_slice HO267.out; subst eo32) | (refine bx_ 9 #[.slice none 0 0] 33 ?_; intro gb268 hg w33 hbox hb; replace HO_3 := aM_ (Kd.S_below (by (with_reducible repeat (first | apply Kd.S_alloc | apply Kd.S_drewN | apply Kd.S_drew)); exact HO_3.out) hb); replace HO_4 := k9_ HO_4 hb; replace HO_5 := k9_ HO_5 hb; replace HO267 := aM_ (Kd.S_below (by (with_reducible repeat (first | apply Kd.S_alloc | apply Kd.S_drewN | apply Kd.S_drew)); exact HO267.out) hb); have BK268 := aM_ (hbox); have GW268 := gw_ hg HB; replace HB := b4_ HB hb; have NB249_268 := nb_ hg BK249; have NB268_249 := ns_ NB249_268; replace BK249 := b5_ BK249 hb; have NB250_268 := nb_ hg BK250; have NB268_250 := ns_ NB250_268; replace BK250 := b5_ BK250 hb; clear hb hbox hg; have hnb34 := NB268_249.out; have hnc34 := NB249_268.out; have hnb35 := NB268_250.out; have hnc35 := NB250_268.out; have hcz36_0 := c0_ BK268; have hfz36_0 := bF_ BK268.out 0))
   go_loopg [10] k2 (fun kq v10 w' => ∃ (x10_3 : Int) (x269000_3 : List (S72)) (u269000 : Value), v10 = .int .i64 x10_3 ∧ Aside0 (sF69.l2 kq t251 t254 x5_2 x10_3 l0_0 x269000_3 = some r) ∧ Aside0 (kq ≤ k2) ∧ Aside0 (Kd.S (Kd.slice 3 (Kd.int .i64)) 56 w' w.heap.size (fun k_ => some k_ ≠ ((.slice Ao11 t254.length co11) : Value).ownBlock ∧ some k_ ≠ (v258 : Value).ownBlock) v252 t251) ∧ Aside0 (Kd.R (Kd.int .i64) 3 w' w.heap.size (fun k_ => some k_ ≠ (v258 : Value).ownBlock) (.slice Ao11 t254.length co11) t254) ∧ Aside0 (Kd.R (Kd.int .i64) 3 w' w.heap.size (fun k_ => some k_ ≠ ((.slice Ao11 t254.length co11) : Value).ownBlock) v258 x5_2) ∧ Aside0 (Kd.S k72 72 w' w.heap.size (fun _ => True) u269000 x269000_3) ∧ Aside0 (w'.heap[gb249]? = some (.cells #[(.slice A0_0 l0_0.length c0_0)] 28 (0, 0))) ∧ Aside0 (w'.heap[gb250]? = some (.cells #[(.slice none 0 0)] 33 (0, 0))) ∧ Aside0 (w'.heap[gb268]? = some (.cells #[u269000] 33 (0, 0))) ∧ Aside0 (Below w.heap.size w w'))
   case atStart => exact ⟨(0), (y265), (.slice Ao32 y265.length co32), (by rfl), H', ⟨Nat.le_refl _⟩, ⟨by (with_reducible repeat (first | apply Kd.S_alloc | apply Kd.S_drewN | apply Kd.S_drew)); exact Kd.S_mono (Kd.S_far (p := ⟨gb268, 0, none⟩) (Kd.S_types HO_3.out BK268.out (by decide)) (fun _ hk => hk.2) (.slice Ao32 y265.length co32)) (fun _ hk => ⟨hk.1.1, hk.1.2⟩)⟩, ⟨by exact kM_ (kG_ (kT_ HO_4.out BK268.out (by decide))) (fun _ hk => hk.1)⟩, ⟨by exact kM_ (kG_ (kT_ HO_5.out BK268.out (by decide))) (fun _ hk => hk.1)⟩, ⟨by (with_reducible repeat (first | apply Kd.S_alloc | apply Kd.S_drewN | apply Kd.S_drew)); exact Kd.S_mono (Kd.S_far (p := ⟨gb268, 0, none⟩) (Kd.S_types HO267.out BK268.out (by decide)) (fun _ hk => hk.2) (.slice Ao32 y265.length co32)) (fun _ hk => trivial)⟩, ⟨by exact br_ NB249_268.out (BK249.out)⟩, ⟨by exact br_ NB250_268.out (BK250.out)⟩, ⟨by refine bP_ (cs := #[.slice none 0 0]) ?_ 0 _ rfl; exact BK268.out⟩, ⟨by repeat with_reducible first | exact HB.out | apply bA_ | apply bN_ | apply bD_ | refine bS_ ?_ (Aside0.out ‹_›)⟩⟩
   clear H'
   try clear p1
   try clear q1
   try clear hx1
   try clear hf1
   try clear p2
   try clear q2
   try clear hx2
   try clear hf2
   try clear c4b0
   try clear c4b1
   try clear c5b0
   try clear c5b1
   try clear p6
   try clear c14b0
   try clear c15b0
   try clear c16b0
   try clear p17
   try clear q17
   try clear hx17
   try clear hf17
   try clear c20b0
   try clear c21b0
   try clear c22b0
   try clear c23b0
   try clear c24b0
   try clear p25
   try clear q25
   try clear hx25
   try clear hf25
   try clear p26
   try clear q26
   try clear hx26
   try clear hcz36_0
   try clear hfz36_0
   try clear hx17_0
   try clear hx25_0
   try clear hx261_0
   try clear hx262_0
   try clear hx263_0
   try clear p1
   try clear p17
   try clear p2
   try clear p25
   try clear p261
   try clear p262
   try clear p263
   try clear p6
   try clear q1
   try clear q17
   try clear q25
   try clear q261
   try clear q262
   try clear q263
   obtain ⟨x10_3, x269000_3, u269000, rfl, HA, HK3, HO_3, HO_4, HO_5, HO_269000, BK249, BK250, BK268, HB⟩ := hrel
   cases gk with
   | zero => exact absurd HA.out (by simp [sF69.l2])
   | succ k3 =>
    have H := HA.out
    clear HA
    simp only [sF69.l2] at H
    by_cases c37 : x10_3 < (t254.length : Int)
    rotate_left
    ·
     rw [if_neg c37] at H
     have c37b0 := dF_ c37
     clear c37
     obtain rfl := Option.some.inj H
     have hnb88 := NB268_249.out
     have hnc88 := NB249_268.out
     have hnb89 := NB268_250.out
     have hnc89 := NB250_268.out
     have hcz90_0 := c0_ BK268
     have hfz90_0 := bF_ BK268.out 0
     obtain ⟨Ao91, co91, eo91⟩ := Kd.S_slice HO_269000.out
     subst eo91
     have hnb92 := NB250_249.out
     have hnc92 := NB249_250.out
     have hcz93_0 := c0_ BK250
     have hfz93_0 := bF_ BK250.out 0
     go_wp2
     refine bodyPost_ret (results_cell_row rfl _ _ gb250 33 #[.slice Ao91 x269000_3.length co91] (0, 0) _ rfl (by refine bP_ (cs := #[.slice none 0 0]) ?_ 0 _ rfl; exact BK250.out) Tryz.underlying33 rfl (by kernel_rfl)) rfl ?_
     exact ⟨_, by rfl, by (with_reducible repeat (first | apply Kd.S_alloc | apply Kd.S_drewN | apply Kd.S_drew)); exact Kd.S_mono (Kd.S_far (p := ⟨gb250, 0, none⟩) (Kd.S_types HO_269000.out BK250.out (by decide)) (fun _ hk => hk.2) (.slice Ao91 x269000_3.length co91)) (fun _ hk => trivial), by repeat with_reducible first | exact HB.out | apply bA_ | apply bN_ | apply bD_ | refine bS_ ?_ (Aside0.out ‹_›)⟩
    rw [if_pos c37] at H
    have c37b0 := dT_ c37
    clear c37
    by_cases c38 : 0 ≤ x10_3
    rotate_left
    ·
     rw [if_neg c38] at H
     exact absurd H (by simp)
    rw [if_pos c38] at H
    have c38b0 := dT_ c38
    clear c38
    by_cases c39 : 0 ≤ (rd t254 x10_3)
    rotate_left
    ·
     rw [if_neg c39] at H
     exact absurd H (by simp)
    rw [if_pos c39] at H
    have c39b0 := dT_ c39
    clear c39
    by_cases c40 : (rd t254 x10_3) < (x5_2.length : Int)
    rotate_left
    ·
     rw [if_neg c40] at H
     exact absurd H (by simp)
    rw [if_pos c40] at H
    have c40b0 := dT_ c40
    clear c40
    by_cases c41 : (rd x5_2 (rd t254 x10_3)) = (x269000_3.length : Int)
    rotate_left
    ·
     rw [if_neg c41] at H
     have c41b0 : ((rd x5_2 (rd t254 x10_3)) == (x269000_3.length : Int)) = false := beq_eq_false_iff_ne.mpr c41
     have c41b1 : ((rd x5_2 (rd t254 x10_3)) != (x269000_3.length : Int)) = true := bne_iff_ne.mpr c41
     have H' := aM_ H
     clear H
     try go_wp2
     have n0_ := aM_ (Kd.S_drew HO_3.out)
     have n1_ := aM_ (k3_ HO_4.out)
     have n2_ := aM_ (k3_ HO_5.out)
     have n3_ := aM_ (Kd.S_drew HO_269000.out)
     have n4_ := aM_ (b1_ BK249.out)
     have n5_ := aM_ (b1_ BK250.out)
     have n6_ := aM_ (b1_ BK268.out)
     have n7_ := aM_ (bD_ HB.out)
     clear HO_3
     clear HO_4
     clear HO_5
     clear HO_269000
     clear BK249
     clear BK250
     clear BK268
     clear HB
     have HO_3 := n0_
     have HO_4 := n1_
     have HO_5 := n2_
     have HO_269000 := n3_
     have BK249 := n4_
     have BK250 := n5_
     have BK268 := n6_
     have HB := n7_
     clear n0_ n1_ n2_ n3_ n4_ n5_ n6_ n7_
     have p269 : 0 ≤ (x10_3 : Int) := oD_ ‹_›
     have q269 : x10_3 < (t254.length : Int) := oD_ ‹_›
     obtain ⟨ad269, e269, hx269_0⟩ := Kd.at_int (kR_ HO_4.out).2.2 x10_3 p269 q269
     cases e269
     replace p269 := eq_true p269
     replace q269 := eq_true q269
     obtain ⟨Ao86, co86, eo86⟩ := kS_ HO_5.out
     (subst eo86)
     have p270 : 0 ≤ ((rd t254 x10_3) : Int) := oD_ ‹_›
     have q270 : (rd t254 x10_3) < (x5_2.length : Int) := oD_ ‹_›
     obtain ⟨ad270, e270, hx270_0⟩ := Kd.at_int (kR_ HO_5.out).2.2 (rd t254 x10_3) p270 q270
     cases e270
     replace p270 := eq_true p270
     replace q270 := eq_true q270
     obtain ⟨Ao87, co87, eo87⟩ := Kd.S_slice HO_269000.out
     (subst eo87)
     refine start_ (n := 11) (S := fun w' => w'.cell? ⟨gb268, 0, none⟩ = some (.slice Ao87 x269000_3.length co87) ∧ w'.cell? (ad269.add (x10_3).toNat) = some (.int .i64 (rd t254 x10_3)) ∧ w'.cell? (ad270.add ((rd t254 x10_3)).toNat) = some (.int .i64 (rd x5_2 (rd t254 x10_3)))) (ds := []) #[fy, fy, fy, fy, fy, fy, fy, fy, fy, fy, fy] (by kernel_rfl) rfl rfl ⟨(bC_ BK268.out 0).trans rfl, hx269_0, hx270_0⟩ (fun hHeld => ?_); refine with_tabW sF69.tab17 sF69.bits17 (fun HT_ HW_ => ?_)
     generalize wr.drew = w85 at HO_3 HO_4 HO_5 HO_269000 BK249 BK250 BK268 HB hx269_0 hx270_0 hHeld ⊢
     refine pu_ HT_ 0 60 #[ty, fy, fy, fy, fy, fy, fy, fy, fy, fy, fy] ?_
     refine pu_ HT_ 1 61 #[ty, ty, fy, fy, fy, fy, fy, fy, fy, fy, fy] ?_
     refine pu_ HT_ 2 62 #[ty, ty, ty, fy, fy, fy, fy, fy, fy, fy, fy] ?_
     refine pu_ HT_ 3 63 #[ty, ty, ty, ty, fy, fy, fy, fy, fy, fy, fy] ?_
     refine pu_ HT_ 7 67 #[ty, ty, ty, ty, fy, fy, fy, ty, fy, fy, fy] ?_
     refine tk_ HT_ HW_ 4 64 #[ty, ty, ty, ty, ty, fy, fy, ty, fy, fy, fy] hHeld ?_ (hr := by rintro w' ⟨s0, s1, s2⟩; go_simp; with_reducible rfl)
     refine pu_ HT_ 5 65 #[ty, ty, ty, ty, ty, ty, fy, ty, fy, fy, fy] ?_
     refine tk_ HT_ HW_ 6 66 #[ty, ty, ty, ty, ty, ty, ty, ty, fy, fy, fy] hHeld ?_ (hr := by rintro w' ⟨s0, s1, s2⟩; go_simp; with_reducible rfl)
     refine tk_ HT_ HW_ 8 68 #[ty, ty, ty, ty, ty, ty, ty, ty, ty, fy, fy] hHeld ?_ (hr := by rintro w' ⟨s0, s1, s2⟩; go_simp; with_reducible rfl)
     refine pu_ HT_ 9 69 #[ty, ty, ty, ty, ty, ty, ty, ty, ty, ty, fy] ?_
     refine pu_ HT_ 10 70 #[ty, ty, ty, ty, ty, ty, ty, ty, ty, ty, ty] ?_
     refine done_ (done_of HT_.out (by kernel_rfl)) ?_
     try go_wp2
     go_roundg k3
     case measure => have := HK1.out; have := HK2.out; have := HK3.out; omega
     case rel => exact ⟨(wrap64 (x10_3 + 1)), (x269000_3), (.slice Ao87 x269000_3.length co87), (by rfl), H', ⟨by have := HK1.out; have := HK2.out; have := HK3.out; omega⟩, ⟨by (with_reducible repeat (first | apply Kd.S_alloc | apply Kd.S_drewN | apply Kd.S_drew)); exact HO_3.out⟩, ⟨HO_4.out⟩, ⟨HO_5.out⟩, ⟨by (with_reducible repeat (first | apply Kd.S_alloc | apply Kd.S_drewN | apply Kd.S_drew)); exact HO_269000.out⟩, ⟨BK249.out⟩, ⟨BK250.out⟩, ⟨BK268.out⟩, ⟨HB.out⟩⟩
    rw [if_pos c41] at H
    have c41b0 : ((rd x5_2 (rd t254 x10_3)) == (x269000_3.length : Int)) = true := beq_iff_eq.mpr c41
    have c41b1 : ((rd x5_2 (rd t254 x10_3)) != (x269000_3.length : Int)) = false := bne_eq_false_iff_eq.mpr c41
    clear c41
    by_cases c42 : x10_3 < (l0_0.length : Int)
    rotate_left
    ·
     rw [if_neg c42] at H
     exact absurd H (by simp)
    rw [if_pos c42] at H
    have c42b0 := dT_ c42
    clear c42
    obtain ⟨y272, hy272⟩ : ∃ y_ : List (S88), y_ = (([] : List (S88))) := ⟨_, rfl⟩
    replace H : (sF69.l3 k3 t251 t254 x5_2 x10_3 0 l0_0 x269000_3 ((rd_T96 l0_0 x10_3).f2) y272) = some r := by (try rw [hy272]); first | with_reducible exact H | with_reducible exact oS_ H | exact H
    have Ny272 := aM_ hy272
    clear hy272
    have H' := aM_ H
    clear H
    try go_wp2
    have n0_ := aM_ (Kd.S_drew HO_3.out)
    have n1_ := aM_ (k3_ HO_4.out)
    have n2_ := aM_ (k3_ HO_5.out)
    have n3_ := aM_ (Kd.S_drew HO_269000.out)
    have n4_ := aM_ (b1_ BK249.out)
    have n5_ := aM_ (b1_ BK250.out)
    have n6_ := aM_ (b1_ BK268.out)
    have n7_ := aM_ (bD_ HB.out)
    clear HO_3
    clear HO_4
    clear HO_5
    clear HO_269000
    clear BK249
    clear BK250
    clear BK268
    clear HB
    have HO_3 := n0_
    have HO_4 := n1_
    have HO_5 := n2_
    have HO_269000 := n3_
    have BK249 := n4_
    have BK250 := n5_
    have BK268 := n6_
    have HB := n7_
    clear n0_ n1_ n2_ n3_ n4_ n5_ n6_ n7_
    have p269 : 0 ≤ (x10_3 : Int) := oD_ ‹_›
    have q269 : x10_3 < (t254.length : Int) := oD_ ‹_›
    obtain ⟨ad269, e269, hx269_0⟩ := Kd.at_int (kR_ HO_4.out).2.2 x10_3 p269 q269
    cases e269
    replace p269 := eq_true p269
    replace q269 := eq_true q269
    obtain ⟨Ao44, co44, eo44⟩ := kS_ HO_5.out
    (subst eo44)
    have p270 : 0 ≤ ((rd t254 x10_3) : Int) := oD_ ‹_›
    have q270 : (rd t254 x10_3) < (x5_2.length : Int) := oD_ ‹_›
    obtain ⟨ad270, e270, hx270_0⟩ := Kd.at_int (kR_ HO_5.out).2.2 (rd t254 x10_3) p270 q270
    cases e270
    replace p270 := eq_true p270
    replace q270 := eq_true q270
    obtain ⟨Ao45, co45, eo45⟩ := Kd.S_slice HO_269000.out
    (subst eo45)
    refine start_ (n := 11) (S := fun w' => w'.cell? ⟨gb268, 0, none⟩ = some (.slice Ao45 x269000_3.length co45) ∧ w'.cell? (ad269.add (x10_3).toNat) = some (.int .i64 (rd t254 x10_3)) ∧ w'.cell? (ad270.add ((rd t254 x10_3)).toNat) = some (.int .i64 (rd x5_2 (rd t254 x10_3)))) (ds := []) #[fy, fy, fy, fy, fy, fy, fy, fy, fy, fy, fy] (by kernel_rfl) rfl rfl ⟨(bC_ BK268.out 0).trans rfl, hx269_0, hx270_0⟩ (fun hHeld => ?_); refine with_tabW sF69.tab17 sF69.bits17 (fun HT_ HW_ => ?_)
    generalize wr.drew = w43 at HO_3 HO_4 HO_5 HO_269000 BK249 BK250 BK268 HB hx269_0 hx270_0 hHeld ⊢
    refine pu_ HT_ 0 60 #[ty, fy, fy, fy, fy, fy, fy, fy, fy, fy, fy] ?_
    refine pu_ HT_ 1 61 #[ty, ty, fy, fy, fy, fy, fy, fy, fy, fy, fy] ?_
    refine pu_ HT_ 2 62 #[ty, ty, ty, fy, fy, fy, fy, fy, fy, fy, fy] ?_
    refine pu_ HT_ 3 63 #[ty, ty, ty, ty, fy, fy, fy, fy, fy, fy, fy] ?_
    refine pu_ HT_ 7 67 #[ty, ty, ty, ty, fy, fy, fy, ty, fy, fy, fy] ?_
    refine tk_ HT_ HW_ 4 64 #[ty, ty, ty, ty, ty, fy, fy, ty, fy, fy, fy] hHeld ?_ (hr := by rintro w' ⟨s0, s1, s2⟩; go_simp; with_reducible rfl)
    refine pu_ HT_ 5 65 #[ty, ty, ty, ty, ty, ty, fy, ty, fy, fy, fy] ?_
    refine tk_ HT_ HW_ 6 66 #[ty, ty, ty, ty, ty, ty, ty, ty, fy, fy, fy] hHeld ?_ (hr := by rintro w' ⟨s0, s1, s2⟩; go_simp; with_reducible rfl)
    refine tk_ HT_ HW_ 8 68 #[ty, ty, ty, ty, ty, ty, ty, ty, ty, fy, fy] hHeld ?_ (hr := by rintro w' ⟨s0, s1, s2⟩; go_simp; with_reducible rfl)
    refine pu_ HT_ 9 69 #[ty, ty, ty, ty, ty, ty, ty, ty, ty, ty, fy] ?_
    refine pu_ HT_ 10 70 #[ty, ty, ty, ty, ty, ty, ty, ty, ty, ty, ty] ?_
    refine done_ (done_of HT_.out (by kernel_rfl)) ?_
    have hnb46 := NB249_250.out
    have hnc46 := NB250_249.out
    have hnb47 := NB249_268.out
    have hnc47 := NB268_249.out
    have hcz48_0 := c0_ BK249
    have hfz48_0 := bF_ BK249.out 0
    have p271 : 0 ≤ (x10_3 : Int) := oD_ ‹_›
    have q271 : x10_3 < (l0_0.length : Int) := oD_ ‹_›
    obtain ⟨ad271, e271, hx271_0, hx271_1, hx271_2⟩ := at_T96 HR0_0.out x10_3 p271 q271
    cases e271
    replace hx271_0 := cb_ HB hx271_0
    replace hx271_1 := cb_ HB hx271_1
    replace hx271_2 := cb_ HB hx271_2
    replace p271 := eq_true p271
    replace q271 := eq_true q271
    try go_wp2_with (first | ((with_reducible refine gD_ (N := 77) rfl ?_); refine Kd.R_lit k88 _ 88 ?hg (N := 77) ?hd (xs := ([] : List (S88))) (inner := []) (ok := fun _ => True) (okp := fun _ => True) ?hr ?hp (fun _ hk => hk) trivial (Below.refl _ _) (Nat.le_refl _) (by simp) ?_; (case hd => rfl); (case hg => rfl); (case hr => (go_simp; done)); (case hp => exact (Reps.none _ _)); intro v273 w49 ho50 hb hg_ hnew_; clear hg_ hnew_; (rw [← Ny272.out] at ho50); replace HO_3 := aM_ (Kd.S_below (by (with_reducible repeat (first | apply Kd.S_alloc | apply Kd.S_drewN | apply Kd.S_drew)); exact HO_3.out) hb); replace HO_4 := k9_ HO_4 hb; replace HO_5 := k9_ HO_5 hb; replace HO_269000 := aM_ (Kd.S_elder' (by (with_reducible repeat (first | apply Kd.S_alloc | apply Kd.S_drewN | apply Kd.S_drew)); exact HO_269000.out) (Kd.R_base ho50) hb); have HO274 := aM_ (k5_ ho50 (bZ_ HB.out)); replace BK249 := b5_ BK249 hb; replace BK250 := b5_ BK250 hb; replace BK268 := b5_ BK268 hb; replace HB := b4_ HB hb; clear hb ho50; obtain ⟨Ao51, co51, eo51⟩ := kS_ HO274.out; subst eo51) | (refine bx_ 11 #[.bool false, .slice none 0 0] 72 ?_; intro gb275 hg w52 hbox hb; replace HO_3 := aM_ (Kd.S_below (by (with_reducible repeat (first | apply Kd.S_alloc | apply Kd.S_drewN | apply Kd.S_drew)); exact HO_3.out) hb); replace HO_4 := k9_ HO_4 hb; replace HO_5 := k9_ HO_5 hb; replace HO_269000 := aM_ (Kd.S_below (Kd.S_elderB (by (with_reducible repeat (first | apply Kd.S_alloc | apply Kd.S_drewN | apply Kd.S_drew)); exact HO_269000.out) gb275 (Nat.le_of_eq hg.symm)) hb); replace HO274 := k9_ HO274 hb; have BK275 := aM_ (hbox); have GW275 := gw_ hg HB; replace HB := b4_ HB hb; have NB249_275 := nb_ hg BK249; have NB275_249 := ns_ NB249_275; replace BK249 := b5_ BK249 hb; have NB250_275 := nb_ hg BK250; have NB275_250 := ns_ NB250_275; replace BK250 := b5_ BK250 hb; have NB268_275 := nb_ hg BK268; have NB275_268 := ns_ NB268_275; replace BK268 := b5_ BK268 hb; clear hb hbox hg; have hnb53 := NB275_249.out; have hnc53 := NB249_275.out; have hnb54 := NB275_250.out; have hnc54 := NB250_275.out; have hnb55 := NB275_268.out; have hnc55 := NB268_275.out; have hcz56_0 := c0_ BK275; have hcz56_1 := c1_ BK275; have hfz56_0 := bF_ BK275.out 0; have hfz56_1 := bF_ BK275.out 1))
    go_loopg [12] k3 (fun kq v12 w' => ∃ (x12_4 : Int) (x276001_4 : List (S88)) (u276001 : Value), v12 = .int .i64 x12_4 ∧ Aside0 (sF69.l3 kq t251 t254 x5_2 x10_3 x12_4 l0_0 x269000_3 ((rd_T96 l0_0 x10_3).f2) x276001_4 = some r) ∧ Aside0 (kq ≤ k3) ∧ Aside0 (Kd.S (Kd.slice 3 (Kd.int .i64)) 56 w' w.heap.size (fun k_ => some k_ ≠ ((.slice (some ad269) t254.length co11) : Value).ownBlock ∧ some k_ ≠ ((.slice (some ad270) x5_2.length co44) : Value).ownBlock) v252 t251) ∧ Aside0 (Kd.R (Kd.int .i64) 3 w' w.heap.size (fun k_ => some k_ ≠ ((.slice (some ad270) x5_2.length co44) : Value).ownBlock) (.slice (some ad269) t254.length co11) t254) ∧ Aside0 (Kd.R (Kd.int .i64) 3 w' w.heap.size (fun k_ => some k_ ≠ ((.slice (some ad269) t254.length co11) : Value).ownBlock) (.slice (some ad270) x5_2.length co44) x5_2) ∧ Aside0 (Kd.S k72 72 w' w.heap.size (fun k_ => some k_ ≠ (u276001 : Value).ownBlock ∧ k_ ≠ gb275) (.slice Ao45 x269000_3.length co45) x269000_3) ∧ Aside0 (Kd.R k88 88 w' w.heap.size (fun _ => True) u276001 x276001_4) ∧ Aside0 (w'.heap[gb249]? = some (.cells #[(.slice (some ad271) l0_0.length c0_0)] 28 (0, 0))) ∧ Aside0 (w'.heap[gb250]? = some (.cells #[(.slice none 0 0)] 33 (0, 0))) ∧ Aside0 (w'.heap[gb268]? = some (.cells #[(.slice Ao45 x269000_3.length co45)] 33 (0, 0))) ∧ Aside0 (w'.heap[gb275]? = some (.cells #[.bool ((rd_T96 l0_0 x10_3).f2), u276001] 72 (0, 0))) ∧ Aside0 (Below w.heap.size w w'))
    case atStart => exact ⟨(0), (y272), (.slice Ao51 y272.length co51), (by rfl), H', ⟨Nat.le_refl _⟩, ⟨by (with_reducible repeat (first | apply Kd.S_alloc | apply Kd.S_drewN | apply Kd.S_drew)); exact Kd.S_mono (Kd.S_far (p := ⟨gb275, 1, none⟩) (Kd.S_far (p := ⟨gb275, 0, none⟩) (Kd.S_types HO_3.out BK275.out (by decide)) (fun _ hk => hk.2) (.bool ((rd_T96 l0_0 x10_3).f2))) (fun _ hk => hk.2) (.slice Ao51 y272.length co51)) (fun _ hk => ⟨hk.1.1, hk.1.2⟩)⟩, ⟨by exact kM_ (kG_ (kG_ (kT_ HO_4.out BK275.out (by decide)))) (fun _ hk => hk.1)⟩, ⟨by exact kM_ (kG_ (kG_ (kT_ HO_5.out BK275.out (by decide)))) (fun _ hk => hk.1)⟩, ⟨by (with_reducible repeat (first | apply Kd.S_alloc | apply Kd.S_drewN | apply Kd.S_drew)); exact Kd.S_mono (Kd.S_far (p := ⟨gb275, 1, none⟩) (Kd.S_far (p := ⟨gb275, 0, none⟩) (Kd.S_mono HO_269000.out (fun k_ hk => (⟨hk, hk.2⟩ : _ ∧ k_ ≠ gb275))) (fun _ hk => hk.2) (.bool ((rd_T96 l0_0 x10_3).f2))) (fun _ hk => hk.2) (.slice Ao51 y272.length co51)) (fun _ hk => ⟨hk.1.1.2, hk.1.2⟩)⟩, ⟨by exact kM_ (kG_ (kG_ (kT_ HO274.out BK275.out (by decide)))) (fun _ hk => trivial)⟩, ⟨by exact br_ NB249_275.out (br_ NB249_275.out (BK249.out))⟩, ⟨by exact br_ NB250_275.out (br_ NB250_275.out (BK250.out))⟩, ⟨by exact br_ NB268_275.out (br_ NB268_275.out (BK268.out))⟩, ⟨by refine bP_ (cs := #[.bool ((rd_T96 l0_0 x10_3).f2), .slice none 0 0]) ?_ 1 _ rfl; refine bP_ (cs := #[.bool false, .slice none 0 0]) ?_ 0 _ rfl; exact BK275.out⟩, ⟨by repeat with_reducible first | exact HB.out | apply bA_ | apply bN_ | apply bD_ | refine bS_ ?_ (Aside0.out ‹_›)⟩⟩
    clear H'
    try clear p1
    try clear q1
    try clear hx1
    try clear hf1
    try clear p2
    try clear q2
    try clear hx2
    try clear hf2
    try clear c4b0
    try clear c4b1
    try clear c5b0
    try clear c5b1
    try clear p6
    try clear c14b0
    try clear c15b0
    try clear c16b0
    try clear p17
    try clear q17
    try clear hx17
    try clear hf17
    try clear c20b0
    try clear c21b0
    try clear c22b0
    try clear c23b0
    try clear c24b0
    try clear p25
    try clear q25
    try clear hx25
    try clear hf25
    try clear p26
    try clear q26
    try clear hx26
    try clear p27
    try clear q27
    try clear hx27
    try clear c37b0
    try clear c38b0
    try clear c39b0
    try clear c40b0
    try clear c41b0
    try clear c41b1
    try clear c42b0
    try clear hcz36_0
    try clear hcz48_0
    try clear hcz56_0
    try clear hcz56_1
    try clear hfz36_0
    try clear hfz48_0
    try clear hfz56_0
    try clear hfz56_1
    try clear hx17_0
    try clear hx25_0
    try clear hx261_0
    try clear hx262_0
    try clear hx263_0
    try clear hx269_0
    try clear hx270_0
    try clear hx271_0
    try clear hx271_1
    try clear hx271_2
    try clear p1
    try clear p17
    try clear p2
    try clear p25
    try clear p26
    try clear p261
    try clear p262
    try clear p263
    try clear p269
    try clear p270
    try clear p271
    try clear p6
    try clear q1
    try clear q17
    try clear q2
    try clear q25
    try clear q26
    try clear q261
    try clear q262
    try clear q263
    try clear q269
    try clear q270
    try clear q271
    obtain ⟨x12_4, x276001_4, u276001, rfl, HA, HK4, HO_3, HO_4, HO_5, HO_269000, HO_276001, BK249, BK250, BK268, BK275, HB⟩ := hrel
    cases gk with
    | zero => exact absurd HA.out (by simp [sF69.l3])
    | succ k4 =>
     have H := HA.out
     clear HA
     simp only [sF69.l3] at H
     by_cases c57 : 0 ≤ x10_3
     rotate_left
     ·
      rw [if_neg c57] at H
      exact absurd H (by simp)
     rw [if_pos c57] at H
     have c57b0 := dT_ c57
     clear c57
     by_cases c58 : x10_3 < (t251.length : Int)
     rotate_left
     ·
      rw [if_neg c58] at H
      exact absurd H (by simp)
     rw [if_pos c58] at H
     have c58b0 := dT_ c58
     clear c58
     by_cases c59 : x12_4 < ((rd_L10 t251 x10_3).length : Int)
     rotate_left
     ·
      rw [if_neg c59] at H
      have c59b0 := dF_ c59
      clear c59
      by_cases c72 : x269000_3.length < 4398046511104
      rotate_left
      ·
       rw [if_neg c72] at H
       exact absurd H (by simp)
      rw [if_pos c72] at H
      have LMc72 := aM_ c72
      clear c72
      obtain ⟨y287, hy287⟩ : ∃ y_ : List (S72), y_ = (x269000_3 ++ [(⟨((rd_T96 l0_0 x10_3).f2), x276001_4⟩ : S72)]) := ⟨_, rfl⟩
      replace H : (sF69.l2 k4 t251 t254 x5_2 (wrap64 (x10_3 + 1)) l0_0 y287) = some r := by (try rw [hy287]); first | with_reducible exact H | with_reducible exact oS_ H | exact H
      have Ny287 := aM_ hy287
      clear hy287
      have H' := aM_ H
      clear H
      obtain ⟨Ao73, co73, eo73⟩ := Kd.S_slice HO_3.out
      subst eo73
      have p276 : 0 ≤ (x10_3 : Int) := oD_ ‹_›
      have q276 : x10_3 < (t251.length : Int) := oD_ ‹_›
      obtain ⟨ad276, A276_0, c276_0, e276, hx276_0, hl276_0, hi276_0⟩ := at_L10 (Kd.S_reads' HO_3.out).2.2 x10_3 p276 q276
      cases e276
      obtain ⟨ce276, hce276, hMe276, hcc276⟩ := Kd.S_get HO_3.out [] x10_3 p276 (by exact q276)
      obtain ⟨ve276_0, rfl, ge276_0⟩ := hMe276
      have hv276_0 := hcc276 0 _ rfl
      rw [Nat.add_zero, show ((Kd.slice 3 (Kd.int .i64))).sz = 1 from rfl, Nat.mul_one] at hv276_0
      replace hv276_0 := Option.some.inj (hv276_0.symm.trans hx276_0)
      rw [hv276_0] at ge276_0
      have HL276_0 := aM_ (show Kd.R (Kd.int .i64) 3 _ _ _ _ (rd_L10 t251 x10_3) from ge276_0)
      clear hv276_0 ge276_0
      clear hcc276 hce276
      have HR276_0 := aM_ hi276_0
      have HC276_0 := aM_ hl276_0
      clear hi276_0 hl276_0
      replace p276 := eq_true p276
      replace q276 := eq_true q276
      have hnb74 := NB268_249.out
      have hnc74 := NB249_268.out
      have hnb75 := NB268_250.out
      have hnc75 := NB250_268.out
      have hnb76 := NB268_275.out
      have hnc76 := NB275_268.out
      have hcz77_0 := c0_ BK268
      have hfz77_0 := bF_ BK268.out 0
      have hnb78 := NB275_249.out
      have hnc78 := NB249_275.out
      have hnb79 := NB275_250.out
      have hnc79 := NB250_275.out
      have hcz80_0 := c0_ BK275
      have hcz80_1 := c1_ BK275
      have hfz80_0 := bF_ BK275.out 0
      have hfz80_1 := bF_ BK275.out 1
      obtain ⟨Ao82, co82, eo82⟩ := kS_ HO_276001.out
      subst eo82
      go_wp2_with (first | ((with_reducible refine gate_builtin (b := .append) (xs := #[.tmp 120, .tmp 122]) rfl ?_); at_builtin; refine Kd.S_append k72 (w0 := w) w.heap.size rfl (.tmp 120) (.tmp 122) 31 72 (.agg #[(.bool false), (.slice none 0 0)]) 32 rfl Tryz.underlying31 info72 rfl (by decide) (by omega) (.slice Ao45 x269000_3.length co45) x269000_3 (⟨((rd_T96 l0_0 x10_3).f2), x276001_4⟩ : S72) [.bool ((rd_T96 l0_0 x10_3).f2), .slice Ao82 x276001_4.length co82] (fun k_ => k_ ≠ gb275) (fun k_ => some k_ = (.slice Ao82 x276001_4.length co82 : Value).ownBlock) rfl rfl ?aP (fun k_ hk_ => ((kM_ (ok' := fun k_ => ((fun k_ => k_ ≠ gb275)) k_ ∧ some k_ ≠ (.slice Ao45 x269000_3.length co45 : Value).ownBlock) (kT_ (Kd.R_apart' (HO_276001.out) (Kd.S_typed HO_269000.out) (by decide)) BK275.out (by decide)) (fun k_ hk => ⟨hk.2, hk.1.2⟩))).1 k_ hk_.symm) ?aF ?aO ?aB ?aS ?aL ?_; (case aP => exact k72_mkM _ _ _ (⟨((rd_T96 l0_0 x10_3).f2), x276001_4⟩ : S72) (kM_ (Kd.R_tight rfl (kM_ (ok' := fun k_ => ((fun k_ => k_ ≠ gb275)) k_ ∧ some k_ ≠ (.slice Ao45 x269000_3.length co45 : Value).ownBlock) (kT_ (Kd.R_apart' (HO_276001.out) (Kd.S_typed HO_269000.out) (by decide)) BK275.out (by decide)) (fun k_ hk => ⟨hk.2, hk.1.2⟩))) (fun _ h_ => h_))); (case aB => exact HB.out); (case aF => exact (fun k_ hk => Kd.freshB (g := gb275) (o := .cells #[.bool ((rd_T96 l0_0 x10_3).f2), .slice Ao82 x276001_4.length co82] 72 (0, 0)) BK275.out k_ hk)); (case aO => exact (by (with_reducible repeat (first | apply Kd.S_alloc | apply Kd.S_drewN | apply Kd.S_drew)); exact Kd.S_mono HO_269000.out (fun k_ hk => ⟨hk.2, fun e_ => hk.1 e_⟩))); (case aS => exact (bZ_ HB.out)); (case aL => have := LMc72.out; omega); intro v288 w81 ho hb hg hat; rw [← Ny287.out] at ho; have n0_ := aM_ (Kd.S_over' (by (with_reducible repeat (first | apply Kd.S_alloc | apply Kd.S_drewN | apply Kd.S_drew)); exact HO_3.out) (Kd.S_typed (by (with_reducible repeat (first | apply Kd.S_alloc | apply Kd.S_drewN | apply Kd.S_drew)); exact HO_269000.out)) (by decide) hg); have n1_ := aM_ (Kd.R_over' HO_4.out (Kd.S_typed (by (with_reducible repeat (first | apply Kd.S_alloc | apply Kd.S_drewN | apply Kd.S_drew)); exact HO_269000.out)) (by decide) hg); have n2_ := aM_ (Kd.R_over' HO_5.out (Kd.S_typed (by (with_reducible repeat (first | apply Kd.S_alloc | apply Kd.S_drewN | apply Kd.S_drew)); exact HO_269000.out)) (by decide) hg); have n3_ := aM_ (blk_grown (g := gb249) (o := .cells #[.slice (some ad271) l0_0.length c0_0] 28 (0, 0)) BK249.out hg (Kd.S_ne HO_269000.out BK249.out (by decide))); have n4_ := aM_ (blk_grown (g := gb250) (o := .cells #[.slice none 0 0] 33 (0, 0)) BK250.out hg (Kd.S_ne HO_269000.out BK250.out (by decide))); have n5_ := aM_ (blk_grown (g := gb268) (o := .cells #[.slice Ao45 x269000_3.length co45] 33 (0, 0)) BK268.out hg (Kd.S_ne HO_269000.out BK268.out (by decide))); have n6_ := aM_ (blk_grown (g := gb275) (o := .cells #[.bool ((rd_T96 l0_0 x10_3).f2), .slice Ao82 x276001_4.length co82] 72 (0, 0)) BK275.out hg (Kd.S_away HO_269000.out (fun _ hk => hk.2))); have n7_ := aM_ (Kd.R_over' (by exact HL276_0.out) (Kd.S_typed (by (with_reducible repeat (first | apply Kd.S_alloc | apply Kd.S_drewN | apply Kd.S_drew)); exact HO_269000.out)) (by decide) hg); have n8_ := aM_ (hb); have n9_ := aM_ (ho); clear HO_3; clear HO_4; clear HO_5; clear BK249; clear BK250; clear BK268; clear BK275; clear HL276_0; clear HB; clear HO_269000; clear HO_276001; have HO_3 := n0_; have HO_4 := n1_; have HO_5 := n2_; have BK249 := n3_; have BK250 := n4_; have BK268 := n5_; have BK275 := n6_; have HL276_0 := n7_; have HB := n8_; have HO289 := n9_; clear n0_ n1_ n2_ n3_ n4_ n5_ n6_ n7_ n8_ n9_; clear ho hb hg hat; obtain ⟨Ao83, co83, eo83⟩ := Kd.S_slice HO289.out; subst eo83; have hcz84_0 := c0_ BK268; have hfz84_0 := bF_ BK268.out 0))
      go_roundg k4
      case measure => have := HK1.out; have := HK2.out; have := HK3.out; have := HK4.out; omega
      case rel => exact ⟨(wrap64 (x10_3 + 1)), (y287), (.slice Ao83 y287.length co83), (by rfl), H', ⟨by have := HK1.out; have := HK2.out; have := HK3.out; have := HK4.out; omega⟩, ⟨by (with_reducible repeat (first | apply Kd.S_alloc | apply Kd.S_drewN | apply Kd.S_drew)); exact Kd.S_mono (Kd.S_far (p := ⟨gb268, 0, none⟩) (Kd.S_types HO_3.out BK268.out (by decide)) (fun _ hk => hk.2) (.slice Ao83 y287.length co83)) (fun _ hk => ⟨hk.1.1, hk.1.2⟩)⟩, ⟨by exact kM_ (kG_ (kT_ HO_4.out BK268.out (by decide))) (fun _ hk => hk.1)⟩, ⟨by exact kM_ (kG_ (kT_ HO_5.out BK268.out (by decide))) (fun _ hk => hk.1)⟩, ⟨by (with_reducible repeat (first | apply Kd.S_alloc | apply Kd.S_drewN | apply Kd.S_drew)); exact Kd.S_mono (Kd.S_far (p := ⟨gb268, 0, none⟩) (Kd.S_types HO289.out BK268.out (by decide)) (fun _ hk => hk.2) (.slice Ao83 y287.length co83)) (fun _ hk => trivial)⟩, ⟨by exact br_ NB249_268.out (BK249.out)⟩, ⟨by exact br_ NB250_268.out (BK250.out)⟩, ⟨by refine bP_ (cs := #[.slice Ao45 x269000_3.length co45]) ?_ 0 _ rfl; exact BK268.out⟩, ⟨by repeat with_reducible first | exact HB.out | apply bA_ | apply bN_ | apply bD_ | refine bS_ ?_ (Aside0.out ‹_›)⟩⟩
     rw [if_pos c59] at H
     have c59b0 := dT_ c59
     clear c59
     by_cases c60 : 0 ≤ x12_4
     rotate_left
     ·
      rw [if_neg c60] at H
      exact absurd H (by simp)
     rw [if_pos c60] at H
     have c60b0 := dT_ c60
     clear c60
     by_cases c61 : 0 ≤ (rd (rd_L10 t251 x10_3) x12_4)
     rotate_left
     ·
      rw [if_neg c61] at H
      exact absurd H (by simp)
     rw [if_pos c61] at H
     have c61b0 := dT_ c61
     clear c61
     by_cases c62 : (rd (rd_L10 t251 x10_3) x12_4) < (l0_0.length : Int)
     rotate_left
     ·
      rw [if_neg c62] at H
      exact absurd H (by simp)
     rw [if_pos c62] at H
     have c62b0 := dT_ c62
     clear c62
     by_cases c63 : (rd (rd_L10 t251 x10_3) x12_4) < (t254.length : Int)
     rotate_left
     ·
      rw [if_neg c63] at H
      exact absurd H (by simp)
     rw [if_pos c63] at H
     have c63b0 := dT_ c63
     clear c63
     by_cases c64 : 0 ≤ (rd t254 (rd (rd_L10 t251 x10_3) x12_4))
     rotate_left
     ·
      rw [if_neg c64] at H
      exact absurd H (by simp)
     rw [if_pos c64] at H
     have c64b0 := dT_ c64
     clear c64
     by_cases c65 : (rd t254 (rd (rd_L10 t251 x10_3) x12_4)) < (x5_2.length : Int)
     rotate_left
     ·
      rw [if_neg c65] at H
      exact absurd H (by simp)
     rw [if_pos c65] at H
     have c65b0 := dT_ c65
     clear c65
     by_cases c66 : x276001_4.length < 8796093022208
     rotate_left
     ·
      rw [if_neg c66] at H
      exact absurd H (by simp)
     rw [if_pos c66] at H
     have LMc66 := aM_ c66
     clear c66
     obtain ⟨y284, hy284⟩ : ∃ y_ : List (S88), y_ = (x276001_4 ++ [(⟨(rd_T96 l0_0 (rd (rd_L10 t251 x10_3) x12_4)).f0, rd x5_2 (rd t254 (rd (rd_L10 t251 x10_3) x12_4))⟩ : S88)]) := ⟨_, rfl⟩
     replace H : (sF69.l3 k4 t251 t254 x5_2 x10_3 (wrap64 (x12_4 + 1)) l0_0 x269000_3 ((rd_T96 l0_0 x10_3).f2) y284) = some r := by (try rw [hy284]); first | with_reducible exact H | with_reducible exact oS_ H | exact H
     have Ny284 := aM_ hy284
     clear hy284
     have H' := aM_ H
     clear H
     obtain ⟨Ao67, co67, eo67⟩ := Kd.S_slice HO_3.out
     subst eo67
     have p276 : 0 ≤ (x10_3 : Int) := oD_ ‹_›
     have q276 : x10_3 < (t251.length : Int) := oD_ ‹_›
     obtain ⟨ad276, A276_0, c276_0, e276, hx276_0, hl276_0, hi276_0⟩ := at_L10 (Kd.S_reads' HO_3.out).2.2 x10_3 p276 q276
     cases e276
     obtain ⟨ce276, hce276, hMe276, hcc276⟩ := Kd.S_get HO_3.out [] x10_3 p276 (by exact q276)
     obtain ⟨ve276_0, rfl, ge276_0⟩ := hMe276
     have hv276_0 := hcc276 0 _ rfl
     rw [Nat.add_zero, show ((Kd.slice 3 (Kd.int .i64))).sz = 1 from rfl, Nat.mul_one] at hv276_0
     replace hv276_0 := Option.some.inj (hv276_0.symm.trans hx276_0)
     rw [hv276_0] at ge276_0
     have HL276_0 := aM_ (show Kd.R (Kd.int .i64) 3 _ _ _ _ (rd_L10 t251 x10_3) from ge276_0)
     clear hv276_0 ge276_0
     clear hcc276 hce276
     have HR276_0 := aM_ hi276_0
     have HC276_0 := aM_ hl276_0
     clear hi276_0 hl276_0
     replace p276 := eq_true p276
     replace q276 := eq_true q276
     try go_wp2
     have n0_ := aM_ (Kd.S_drew HO_3.out)
     have n1_ := aM_ (k3_ HO_4.out)
     have n2_ := aM_ (k3_ HO_5.out)
     have n3_ := aM_ (Kd.S_drew HO_269000.out)
     have n4_ := aM_ (k3_ HO_276001.out)
     have n5_ := aM_ (k3_ HL276_0.out)
     have n6_ := aM_ (b1_ BK249.out)
     have n7_ := aM_ (b1_ BK250.out)
     have n8_ := aM_ (b1_ BK268.out)
     have n9_ := aM_ (b1_ BK275.out)
     have n10_ := aM_ (Kd.C_drew HR276_0.out)
     have n11_ := aM_ (bD_ HB.out)
     clear HO_3
     clear HO_4
     clear HO_5
     clear HO_269000
     clear HO_276001
     clear HL276_0
     clear BK249
     clear BK250
     clear BK268
     clear BK275
     clear HR276_0
     clear HB
     have HO_3 := n0_
     have HO_4 := n1_
     have HO_5 := n2_
     have HO_269000 := n3_
     have HO_276001 := n4_
     have HL276_0 := n5_
     have BK249 := n6_
     have BK250 := n7_
     have BK268 := n8_
     have BK275 := n9_
     have HR276_0 := n10_
     have HB := n11_
     clear n0_ n1_ n2_ n3_ n4_ n5_ n6_ n7_ n8_ n9_ n10_ n11_
     have p277 : 0 ≤ (x10_3 : Int) := oD_ ‹_›
     have q277 : x10_3 < (t251.length : Int) := oD_ ‹_›
     obtain ⟨ad277, A277_0, c277_0, e277, hx277_0, hl277_0, hi277_0⟩ := at_L10 (Kd.S_reads' HO_3.out).2.2 x10_3 p277 q277
     obtain rfl : ad276 = ad277 := (by injection e277)
     obtain ⟨ce277, hce277, hMe277, hcc277⟩ := Kd.S_get HO_3.out [] x10_3 p277 (by exact q277)
     obtain ⟨ve277_0, rfl, ge277_0⟩ := hMe277
     have hv277_0 := hcc277 0 _ rfl
     rw [Nat.add_zero, show ((Kd.slice 3 (Kd.int .i64))).sz = 1 from rfl, Nat.mul_one] at hv277_0
     replace hv277_0 := Option.some.inj (hv277_0.symm.trans hx277_0)
     rw [hv277_0] at ge277_0
     have HL277_0 := aM_ (show Kd.R (Kd.int .i64) 3 _ _ _ _ (rd_L10 t251 x10_3) from ge277_0)
     clear hv277_0 ge277_0
     clear hcc277 hce277
     have HR277_0 := aM_ hi277_0
     have HC277_0 := aM_ hl277_0
     clear hi277_0 hl277_0
     replace p277 := eq_true p277
     replace q277 := eq_true q277
     have p278 : 0 ≤ (x12_4 : Int) := oD_ ‹_›
     have q278 : x12_4 < ((rd_L10 t251 x10_3).length : Int) := oD_ ‹_›
     obtain ⟨ad278, e278, hx278_0⟩ := Kd.at_int (by repeat (first | (with_reducible exact HR277_0.out) | (with_reducible refine Kd.C_alloc ?_ _) | (with_reducible refine Kd.C_drewN ?_ _) | (with_reducible refine Kd.C_drew ?_) | exact HR277_0.out)) x12_4 p278 q278
     cases e278
     replace p278 := eq_true p278
     replace q278 := eq_true q278
     have p279 : 0 ≤ ((rd (rd_L10 t251 x10_3) x12_4) : Int) := oD_ ‹_›
     have q279 : (rd (rd_L10 t251 x10_3) x12_4) < (l0_0.length : Int) := oD_ ‹_›
     obtain ⟨ad279, e279, hx279_0, hx279_1, hx279_2⟩ := at_T96 HR0_0.out (rd (rd_L10 t251 x10_3) x12_4) p279 q279
     have hw279_2 := hx279_2
     have hw279_1 := hx279_1
     have hw279_0 := hx279_0
     obtain rfl : ad271 = ad279 := (by injection e279)
     replace hx279_0 := cb_ HB hx279_0
     replace hx279_1 := cb_ HB hx279_1
     replace hx279_2 := cb_ HB hx279_2
     replace p279 := eq_true p279
     replace q279 := eq_true q279
     have p280 : 0 ≤ (x10_3 : Int) := oD_ ‹_›
     have q280 : x10_3 < (t251.length : Int) := oD_ ‹_›
     obtain ⟨ad280, A280_0, c280_0, e280, hx280_0, hl280_0, hi280_0⟩ := at_L10 (Kd.S_reads' HO_3.out).2.2 x10_3 p280 q280
     obtain rfl : ad276 = ad280 := (by injection e280)
     obtain ⟨ce280, hce280, hMe280, hcc280⟩ := Kd.S_get HO_3.out [] x10_3 p280 (by exact q280)
     obtain ⟨ve280_0, rfl, ge280_0⟩ := hMe280
     have hv280_0 := hcc280 0 _ rfl
     rw [Nat.add_zero, show ((Kd.slice 3 (Kd.int .i64))).sz = 1 from rfl, Nat.mul_one] at hv280_0
     replace hv280_0 := Option.some.inj (hv280_0.symm.trans hx280_0)
     rw [hv280_0] at ge280_0
     have HL280_0 := aM_ (show Kd.R (Kd.int .i64) 3 _ _ _ _ (rd_L10 t251 x10_3) from ge280_0)
     clear hv280_0 ge280_0
     clear hcc280 hce280
     have HR280_0 := aM_ hi280_0
     have HC280_0 := aM_ hl280_0
     clear hi280_0 hl280_0
     replace p280 := eq_true p280
     replace q280 := eq_true q280
     have ea_ := Option.some.inj (hx277_0.symm.trans hx280_0)
     injection ea_ with ea_ en_ ec_
     subst ea_
     subst ec_
     clear en_
     have p281 : 0 ≤ (x12_4 : Int) := oD_ ‹_›
     have q281 : x12_4 < ((rd_L10 t251 x10_3).length : Int) := oD_ ‹_›
     obtain ⟨ad278, e281, hx281_0⟩ := Kd.at_int (by repeat (first | (with_reducible exact HR280_0.out) | (with_reducible refine Kd.C_alloc ?_ _) | (with_reducible refine Kd.C_drewN ?_ _) | (with_reducible refine Kd.C_drew ?_) | exact HR280_0.out)) x12_4 p281 q281
     cases e281
     replace p281 := eq_true p281
     replace q281 := eq_true q281
     have p282 : 0 ≤ ((rd (rd_L10 t251 x10_3) x12_4) : Int) := oD_ ‹_›
     have q282 : (rd (rd_L10 t251 x10_3) x12_4) < (t254.length : Int) := oD_ ‹_›
     obtain ⟨ad282, e282, hx282_0⟩ := Kd.at_int (kR_ HO_4.out).2.2 (rd (rd_L10 t251 x10_3) x12_4) p282 q282
     obtain rfl : ad269 = ad282 := (by injection e282)
     replace p282 := eq_true p282
     replace q282 := eq_true q282
     have p283 : 0 ≤ ((rd t254 (rd (rd_L10 t251 x10_3) x12_4)) : Int) := oD_ ‹_›
     have q283 : (rd t254 (rd (rd_L10 t251 x10_3) x12_4)) < (x5_2.length : Int) := oD_ ‹_›
     obtain ⟨ad283, e283, hx283_0⟩ := Kd.at_int (kR_ HO_5.out).2.2 (rd t254 (rd (rd_L10 t251 x10_3) x12_4)) p283 q283
     obtain rfl : ad270 = ad283 := (by injection e283)
     replace p283 := eq_true p283
     replace q283 := eq_true q283
     refine start_ (n := 32) (S := fun w' => w'.cell? ⟨gb275, 0, none⟩ = some (.bool ((rd_T96 l0_0 x10_3).f2)) ∧ w'.cell? ⟨gb275, 1, none⟩ = some (u276001) ∧ w'.cell? ⟨gb249, 0, none⟩ = some (.slice (some ad271) l0_0.length c0_0) ∧ w'.cell? (ad276.add (x10_3).toNat) = some (.slice (some ad278) (rd_L10 t251 x10_3).length c277_0) ∧ w'.cell? (ad278.add (x12_4).toNat) = some (.int .i64 (rd (rd_L10 t251 x10_3) x12_4)) ∧ w'.cell? (ad271.add (((rd (rd_L10 t251 x10_3) x12_4)).toNat * 3)) = some (.int .i64 ((rd_T96 l0_0 (rd (rd_L10 t251 x10_3) x12_4)).f0)) ∧ w'.cell? ⟨(ad271.add (((rd (rd_L10 t251 x10_3) x12_4)).toNat * 3)).block, (ad271.add (((rd (rd_L10 t251 x10_3) x12_4)).toNat * 3)).off + 1, none⟩ = some (.int .i64 ((rd_T96 l0_0 (rd (rd_L10 t251 x10_3) x12_4)).f1)) ∧ w'.cell? ⟨(ad271.add (((rd (rd_L10 t251 x10_3) x12_4)).toNat * 3)).block, (ad271.add (((rd (rd_L10 t251 x10_3) x12_4)).toNat * 3)).off + 2, none⟩ = some (.bool ((rd_T96 l0_0 (rd (rd_L10 t251 x10_3) x12_4)).f2)) ∧ w'.cell? (ad276.add (x10_3).toNat) = some (.slice (some ad278) (rd_L10 t251 x10_3).length c277_0) ∧ w'.cell? (ad278.add (x12_4).toNat) = some (.int .i64 (rd (rd_L10 t251 x10_3) x12_4)) ∧ w'.cell? (ad269.add ((rd (rd_L10 t251 x10_3) x12_4)).toNat) = some (.int .i64 (rd t254 (rd (rd_L10 t251 x10_3) x12_4))) ∧ w'.cell? (ad270.add ((rd t254 (rd (rd_L10 t251 x10_3) x12_4))).toNat) = some (.int .i64 (rd x5_2 (rd t254 (rd (rd_L10 t251 x10_3) x12_4))))) (ds := [29, 31]) #[fy, fy, fy, fy, fy, fy, fy, fy, fy, fy, fy, fy, fy, fy, fy, fy, fy, fy, fy, fy, fy, fy, fy, fy, fy, fy, fy, fy, fy, fy, fy, fy] (by kernel_rfl) rfl rfl ⟨(bC_ BK275.out 0).trans rfl, (bC_ BK275.out 1).trans rfl, (bC_ BK249.out 0).trans rfl, hx277_0, hx278_0, (cb_ HB hw279_0), (cb_ HB hw279_1), (cb_ HB hw279_2), hx280_0, hx281_0, hx282_0, hx283_0⟩ (fun hHeld => ?_); refine with_tabW sF69.tab22 sF69.bits22 (fun HT_ HW_ => ?_)
     generalize wr.drew = w68 at HO_3 HO_4 HO_5 HO_269000 HO_276001 HL276_0 BK249 BK250 BK268 BK275 HR276_0 HB HL277_0 HL280_0 HR277_0 HR280_0 hx277_0 hx278_0 hx279_0 hx279_1 hx279_2 hx280_0 hx281_0 hx282_0 hx283_0 hHeld ⊢
     refine pu_ HT_ 0 88 #[ty, fy, fy, fy, fy, fy, fy, fy, fy, fy, fy, fy, fy, fy, fy, fy, fy, fy, fy, fy, fy, fy, fy, fy, fy, fy, fy, fy, fy, fy, fy, fy] ?_
     refine pu_ HT_ 2 90 #[ty, fy, ty, fy, fy, fy, fy, fy, fy, fy, fy, fy, fy, fy, fy, fy, fy, fy, fy, fy, fy, fy, fy, fy, fy, fy, fy, fy, fy, fy, fy, fy] ?_
     refine pu_ HT_ 4 92 #[ty, fy, ty, fy, ty, fy, fy, fy, fy, fy, fy, fy, fy, fy, fy, fy, fy, fy, fy, fy, fy, fy, fy, fy, fy, fy, fy, fy, fy, fy, fy, fy] ?_
     refine pu_ HT_ 5 93 #[ty, fy, ty, fy, ty, ty, fy, fy, fy, fy, fy, fy, fy, fy, fy, fy, fy, fy, fy, fy, fy, fy, fy, fy, fy, fy, fy, fy, fy, fy, fy, fy] ?_
     refine pu_ HT_ 6 94 #[ty, fy, ty, fy, ty, ty, ty, fy, fy, fy, fy, fy, fy, fy, fy, fy, fy, fy, fy, fy, fy, fy, fy, fy, fy, fy, fy, fy, fy, fy, fy, fy] ?_
     refine pu_ HT_ 8 96 #[ty, fy, ty, fy, ty, ty, ty, fy, ty, fy, fy, fy, fy, fy, fy, fy, fy, fy, fy, fy, fy, fy, fy, fy, fy, fy, fy, fy, fy, fy, fy, fy] ?_
     refine pu_ HT_ 14 102 #[ty, fy, ty, fy, ty, ty, ty, fy, ty, fy, fy, fy, fy, fy, ty, fy, fy, fy, fy, fy, fy, fy, fy, fy, fy, fy, fy, fy, fy, fy, fy, fy] ?_
     refine pu_ HT_ 15 103 #[ty, fy, ty, fy, ty, ty, ty, fy, ty, fy, fy, fy, fy, fy, ty, ty, fy, fy, fy, fy, fy, fy, fy, fy, fy, fy, fy, fy, fy, fy, fy, fy] ?_
     refine pu_ HT_ 16 104 #[ty, fy, ty, fy, ty, ty, ty, fy, ty, fy, fy, fy, fy, fy, ty, ty, ty, fy, fy, fy, fy, fy, fy, fy, fy, fy, fy, fy, fy, fy, fy, fy] ?_
     refine pu_ HT_ 17 105 #[ty, fy, ty, fy, ty, ty, ty, fy, ty, fy, fy, fy, fy, fy, ty, ty, ty, ty, fy, fy, fy, fy, fy, fy, fy, fy, fy, fy, fy, fy, fy, fy] ?_
     refine pu_ HT_ 18 106 #[ty, fy, ty, fy, ty, ty, ty, fy, ty, fy, fy, fy, fy, fy, ty, ty, ty, ty, ty, fy, fy, fy, fy, fy, fy, fy, fy, fy, fy, fy, fy, fy] ?_
     refine pu_ HT_ 20 108 #[ty, fy, ty, fy, ty, ty, ty, fy, ty, fy, fy, fy, fy, fy, ty, ty, ty, ty, ty, fy, ty, fy, fy, fy, fy, fy, fy, fy, fy, fy, fy, fy] ?_
     refine tk_ HT_ HW_ 1 89 #[ty, ty, ty, fy, ty, ty, ty, fy, ty, fy, fy, fy, fy, fy, ty, ty, ty, ty, ty, fy, ty, fy, fy, fy, fy, fy, fy, fy, fy, fy, fy, fy] hHeld ?_ (hr := by rintro w' ⟨s0, s1, s2, s3, s4, s5, s6, s7, s8, s9, s10, s11⟩; go_simp; with_reducible rfl)
     refine tk_ HT_ HW_ 3 91 #[ty, ty, ty, ty, ty, ty, ty, fy, ty, fy, fy, fy, fy, fy, ty, ty, ty, ty, ty, fy, ty, fy, fy, fy, fy, fy, fy, fy, fy, fy, fy, fy] hHeld ?_ (hr := by rintro w' ⟨s0, s1, s2, s3, s4, s5, s6, s7, s8, s9, s10, s11⟩; go_simp; with_reducible rfl)
     refine tk_ HT_ HW_ 7 95 #[ty, ty, ty, ty, ty, ty, ty, ty, ty, fy, fy, fy, fy, fy, ty, ty, ty, ty, ty, fy, ty, fy, fy, fy, fy, fy, fy, fy, fy, fy, fy, fy] hHeld ?_ (hr := by rintro w' ⟨s0, s1, s2, s3, s4, s5, s6, s7, s8, s9, s10, s11⟩; go_simp; with_reducible rfl)
     refine pu_ HT_ 9 97 #[ty, ty, ty, ty, ty, ty, ty, ty, ty, ty, fy, fy, fy, fy, ty, ty, ty, ty, ty, fy, ty, fy, fy, fy, fy, fy, fy, fy, fy, fy, fy, fy] ?_
     refine tk_ HT_ HW_ 10 98 #[ty, ty, ty, ty, ty, ty, ty, ty, ty, ty, ty, fy, fy, fy, ty, ty, ty, ty, ty, fy, ty, fy, fy, fy, fy, fy, fy, fy, fy, fy, fy, fy] hHeld ?_ (hr := by rintro w' ⟨s0, s1, s2, s3, s4, s5, s6, s7, s8, s9, s10, s11⟩; go_simp; with_reducible rfl)
     refine pu_ HT_ 11 99 #[ty, ty, ty, ty, ty, ty, ty, ty, ty, ty, ty, ty, fy, fy, ty, ty, ty, ty, ty, fy, ty, fy, fy, fy, fy, fy, fy, fy, fy, fy, fy, fy] ?_
     refine pu_ HT_ 12 100 #[ty, ty, ty, ty, ty, ty, ty, ty, ty, ty, ty, ty, ty, fy, ty, ty, ty, ty, ty, fy, ty, fy, fy, fy, fy, fy, fy, fy, fy, fy, fy, fy] ?_
     refine tk_ HT_ HW_ 13 101 #[ty, ty, ty, ty, ty, ty, ty, ty, ty, ty, ty, ty, ty, ty, ty, ty, ty, ty, ty, fy, ty, fy, fy, fy, fy, fy, fy, fy, fy, fy, fy, fy] hHeld ?_ (hr := by rintro w' ⟨s0, s1, s2, s3, s4, s5, s6, s7, s8, s9, s10, s11⟩; go_simp; with_reducible rfl)
     refine tk_ HT_ HW_ 19 107 #[ty, ty, ty, ty, ty, ty, ty, ty, ty, ty, ty, ty, ty, ty, ty, ty, ty, ty, ty, ty, ty, fy, fy, fy, fy, fy, fy, fy, fy, fy, fy, fy] hHeld ?_ (hr := by rintro w' ⟨s0, s1, s2, s3, s4, s5, s6, s7, s8, s9, s10, s11⟩; go_simp; with_reducible rfl)
     refine pu_ HT_ 21 109 #[ty, ty, ty, ty, ty, ty, ty, ty, ty, ty, ty, ty, ty, ty, ty, ty, ty, ty, ty, ty, ty, ty, fy, fy, fy, fy, fy, fy, fy, fy, fy, fy] ?_
     refine tk_ HT_ HW_ 22 110 #[ty, ty, ty, ty, ty, ty, ty, ty, ty, ty, ty, ty, ty, ty, ty, ty, ty, ty, ty, ty, ty, ty, ty, fy, fy, fy, fy, fy, fy, fy, fy, fy] hHeld ?_ (hr := by rintro w' ⟨s0, s1, s2, s3, s4, s5, s6, s7, s8, s9, s10, s11⟩; go_simp; with_reducible rfl)
     refine pu_ HT_ 23 111 #[ty, ty, ty, ty, ty, ty, ty, ty, ty, ty, ty, ty, ty, ty, ty, ty, ty, ty, ty, ty, ty, ty, ty, ty, fy, fy, fy, fy, fy, fy, fy, fy] ?_
     refine tk_ HT_ HW_ 24 112 #[ty, ty, ty, ty, ty, ty, ty, ty, ty, ty, ty, ty, ty, ty, ty, ty, ty, ty, ty, ty, ty, ty, ty, ty, ty, fy, fy, fy, fy, fy, fy, fy] hHeld ?_ (hr := by rintro w' ⟨s0, s1, s2, s3, s4, s5, s6, s7, s8, s9, s10, s11⟩; go_simp; with_reducible rfl)
     refine pu_ HT_ 25 113 #[ty, ty, ty, ty, ty, ty, ty, ty, ty, ty, ty, ty, ty, ty, ty, ty, ty, ty, ty, ty, ty, ty, ty, ty, ty, ty, fy, fy, fy, fy, fy, fy] ?_
     refine tk_ HT_ HW_ 26 114 #[ty, ty, ty, ty, ty, ty, ty, ty, ty, ty, ty, ty, ty, ty, ty, ty, ty, ty, ty, ty, ty, ty, ty, ty, ty, ty, ty, fy, fy, fy, fy, fy] hHeld ?_ (hr := by rintro w' ⟨s0, s1, s2, s3, s4, s5, s6, s7, s8, s9, s10, s11⟩; go_simp; with_reducible rfl)
     refine pu_ HT_ 27 115 #[ty, ty, ty, ty, ty, ty, ty, ty, ty, ty, ty, ty, ty, ty, ty, ty, ty, ty, ty, ty, ty, ty, ty, ty, ty, ty, ty, ty, fy, fy, fy, fy] ?_
     refine one_ (i := 28) (N := some 116) #[ty, ty, ty, ty, ty, ty, ty, ty, ty, ty, ty, ty, ty, ty, ty, ty, ty, ty, ty, ty, ty, ty, ty, ty, ty, ty, ty, ty, ty, fy, fy, fy] rfl rfl (one_of HT_.out (by kernel_rfl)) (by decide) (fun K hK => ?_)
     refine value_ (w1 := ?_) (v := ?_) (by rfl) rfl ?_ ?_
     rotate_left 2
     ·
      go_simp
      constructor
      ·
       rfl
      rfl
     refine hK.out _ _ ⟨(bC_ (b3_ BK275.out _) 0).trans rfl, (bC_ (b3_ BK275.out _) 1).trans rfl, (bC_ (b3_ BK249.out _) 0).trans rfl, (World.cell?_alloc_lt _ _ _ (wB_ _ _ (hHeld.2.2.2.1))).trans (hHeld.2.2.2.1), (World.cell?_alloc_lt _ _ _ (wB_ _ _ (hHeld.2.2.2.2.1))).trans (hHeld.2.2.2.2.1), (World.cell?_alloc_lt _ _ _ (wB_ _ _ ((cb_ HB hw279_0)))).trans ((cb_ HB hw279_0)), (World.cell?_alloc_lt _ _ _ (wB_ _ _ ((cb_ HB hw279_1)))).trans ((cb_ HB hw279_1)), (World.cell?_alloc_lt _ _ _ (wB_ _ _ ((cb_ HB hw279_2)))).trans ((cb_ HB hw279_2)), (World.cell?_alloc_lt _ _ _ (wB_ _ _ (hHeld.2.2.2.2.2.2.2.2.1))).trans (hHeld.2.2.2.2.2.2.2.2.1), (World.cell?_alloc_lt _ _ _ (wB_ _ _ (hHeld.2.2.2.2.2.2.2.2.2.1))).trans (hHeld.2.2.2.2.2.2.2.2.2.1), (World.cell?_alloc_lt _ _ _ (wB_ _ _ (hHeld.2.2.2.2.2.2.2.2.2.2.1))).trans (hHeld.2.2.2.2.2.2.2.2.2.2.1), (World.cell?_alloc_lt _ _ _ (wB_ _ _ (hHeld.2.2.2.2.2.2.2.2.2.2.2))).trans (hHeld.2.2.2.2.2.2.2.2.2.2.2)⟩ (fun hHeld => ?_)
     clear hK K
     refine norm_ (by show Act.put _ (some 116) _ = _; simp only [Act.put, sA_, sB_, sC_, i6_, i3_]; rfl) ?_
     refine last_ (i := 29) (N := some 117) #[ty, ty, ty, ty, ty, ty, ty, ty, ty, ty, ty, ty, ty, ty, ty, ty, ty, ty, ty, ty, ty, ty, ty, ty, ty, ty, ty, ty, ty, ty, fy, fy] rfl rfl (one_of HT_.out (by kernel_rfl)) (by decide) (fun K hK => ?_)
     refine Kd.R_append_step k88 (w0 := w) w.heap.size (by rfl) (.tmp 89) (.tmp 116) 70 88 (.agg #[(.int .i64 0), (.int .i64 0)]) 16 rfl Tryz.underlying70 info88 rfl (by decide) (by omega) u276001 x276001_4 (⟨(rd_T96 l0_0 (rd (rd_L10 t251 x10_3) x12_4)).f0, rd x5_2 (rd t254 (rd (rd_L10 t251 x10_3) x12_4))⟩ : S88) [.int .i64 ((rd_T96 l0_0 (rd (rd_L10 t251 x10_3) x12_4)).f0), .int .i64 (rd x5_2 (rd t254 (rd (rd_L10 t251 x10_3) x12_4)))] (fun _ => True) (fun _ => False) rfl rfl ?aP (fun _ hk => hk.elim) ?aF ?aO ?aB ?aS ?aL ?_
     (case aP => exact k88_mkM _ _ _ (⟨(rd_T96 l0_0 (rd (rd_L10 t251 x10_3) x12_4)).f0, rd x5_2 (rd t254 (rd (rd_L10 t251 x10_3) x12_4))⟩ : S88))
     (case aB => exact HB.out)
     (case aF => exact (fun _ _ => trivial))
     (case aO => exact HO_276001.out)
     (case aS => exact (bZ_ HB.out))
     (case aL => have := LMc66.out; omega)
     intro v285 w69 ho hb hg hat
     rw [← Ny284.out] at ho
     have n0_ := aM_ (Kd.S_over' (by (with_reducible repeat (first | apply Kd.S_alloc | apply Kd.S_drewN | apply Kd.S_drew)); exact HO_3.out) (Kd.R_typed HO_276001.out) (by decide) hg)
     have n1_ := aM_ (Kd.R_over' HO_4.out (Kd.R_typed HO_276001.out) (by decide) hg)
     have n2_ := aM_ (Kd.R_over' HO_5.out (Kd.R_typed HO_276001.out) (by decide) hg)
     have n3_ := aM_ (Kd.S_after (ok := (fun k_ => k_ ≠ gb275)) (by (with_reducible repeat (first | apply Kd.S_alloc | apply Kd.S_drewN | apply Kd.S_drew)); exact Kd.S_mono HO_269000.out (fun _ hk => ⟨hk.2, hk.1⟩)) hg hat)
     have n4_ := aM_ (blk_grown (g := gb249) (o := .cells #[.slice (some ad271) l0_0.length c0_0] 28 (0, 0)) BK249.out hg (k6_ HO_276001.out BK249.out (by decide)))
     have n5_ := aM_ (blk_grown (g := gb250) (o := .cells #[.slice none 0 0] 33 (0, 0)) BK250.out hg (k6_ HO_276001.out BK250.out (by decide)))
     have n6_ := aM_ (blk_grown (g := gb268) (o := .cells #[.slice Ao45 x269000_3.length co45] 33 (0, 0)) BK268.out hg (k6_ HO_276001.out BK268.out (by decide)))
     have n7_ := aM_ (blk_grown (g := gb275) (o := .cells #[.bool ((rd_T96 l0_0 x10_3).f2), u276001] 72 (0, 0)) BK275.out hg (k6_ HO_276001.out BK275.out (by decide)))
     have n8_ := aM_ (Kd.R_over' (by exact HL276_0.out) (Kd.R_typed HO_276001.out) (by decide) hg)
     have n9_ := aM_ (Kd.R_over' (by exact HL277_0.out) (Kd.R_typed HO_276001.out) (by decide) hg)
     have n10_ := aM_ (Kd.R_over' (by exact HL280_0.out) (Kd.R_typed HO_276001.out) (by decide) hg)
     have n11_ := aM_ (hb)
     have n12_ := aM_ (ho)
     clear HO_3
     clear HO_4
     clear HO_5
     clear HO_269000
     clear BK249
     clear BK250
     clear BK268
     clear BK275
     clear HL276_0
     clear HL277_0
     clear HL280_0
     clear HB
     clear HO_276001
     have HO_3 := n0_
     have HO_4 := n1_
     have HO_5 := n2_
     have HO_269000 := n3_
     have BK249 := n4_
     have BK250 := n5_
     have BK268 := n6_
     have BK275 := n7_
     have HL276_0 := n8_
     have HL277_0 := n9_
     have HL280_0 := n10_
     have HB := n11_
     have HO286 := n12_
     clear n0_ n1_ n2_ n3_ n4_ n5_ n6_ n7_ n8_ n9_ n10_ n11_ n12_
     clear ho hb hg hat
     obtain ⟨Ao70, co70, eo70⟩ := kS_ HO286.out
     (subst eo70)
     refine hK.out _ _ ?_
     clear hK K
     refine norm_ (by show Act.put _ (some 117) _ = _; simp only [Act.put, sA_, sB_, sC_, i6_, i3_]; rfl) ?_
     refine pu_ HT_ 30 118 #[ty, ty, ty, ty, ty, ty, ty, ty, ty, ty, ty, ty, ty, ty, ty, ty, ty, ty, ty, ty, ty, ty, ty, ty, ty, ty, ty, ty, ty, ty, ty, fy] ?_
     refine last_ (i := 31) (N := none) #[ty, ty, ty, ty, ty, ty, ty, ty, ty, ty, ty, ty, ty, ty, ty, ty, ty, ty, ty, ty, ty, ty, ty, ty, ty, ty, ty, ty, ty, ty, ty, ty] rfl rfl (one_of HT_.out (by kernel_rfl)) (by decide) (fun K hK => ?_)
     have hs71 : w69.cell? ⟨gb275, 1, none⟩ = some (u276001) := (bC_ BK275.out 1).trans rfl
     have hfs71 := bF_ BK275.out 1
     have hns71_0 := NB249_275.out
     have hns71_1 := NB250_275.out
     have hns71_2 := NB268_275.out
     have hms71_0 := NB275_249.out
     have hms71_1 := NB275_250.out
     have hms71_2 := NB275_268.out
     refine skip_ (w1 := ?_) (by rfl) rfl ?_ ?_
     rotate_left
     ·
      go_simp
      rfl
     refine hK.out _ _ ?_
     clear hK K
     refine done_ (done_of HT_.out (by kernel_rfl)) ?_
     try go_wp2
     go_roundg k4
     case measure => have := HK1.out; have := HK2.out; have := HK3.out; have := HK4.out; omega
     case rel => exact ⟨(wrap64 (x12_4 + 1)), (y284), (.slice Ao70 y284.length co70), (by rfl), H', ⟨by have := HK1.out; have := HK2.out; have := HK3.out; have := HK4.out; omega⟩, ⟨by (with_reducible repeat (first | apply Kd.S_alloc | apply Kd.S_drewN | apply Kd.S_drew)); exact Kd.S_mono (Kd.S_far (p := ⟨gb275, 1, none⟩) (Kd.S_types HO_3.out BK275.out (by decide)) (fun _ hk => hk.2) (.slice Ao70 y284.length co70)) (fun _ hk => ⟨hk.1.1, hk.1.2⟩)⟩, ⟨by exact kM_ (kG_ (kT_ HO_4.out BK275.out (by decide))) (fun _ hk => hk.1)⟩, ⟨by exact kM_ (kG_ (kT_ HO_5.out BK275.out (by decide))) (fun _ hk => hk.1)⟩, ⟨by (with_reducible repeat (first | apply Kd.S_alloc | apply Kd.S_drewN | apply Kd.S_drew)); exact Kd.S_mono (Kd.S_far (p := ⟨gb275, 1, none⟩) (Kd.S_mono HO_269000.out (fun k_ hk => (⟨hk, hk.1⟩ : _ ∧ k_ ≠ gb275))) (fun _ hk => hk.2) (.slice Ao70 y284.length co70)) (fun _ hk => ⟨hk.1.2, hk.1.1⟩)⟩, ⟨by exact kM_ (kG_ (kT_ HO286.out BK275.out (by decide))) (fun _ hk => trivial)⟩, ⟨by exact br_ NB249_275.out (BK249.out)⟩, ⟨by exact br_ NB250_275.out (BK250.out)⟩, ⟨by exact br_ NB268_275.out (BK268.out)⟩, ⟨by refine bP_ (cs := #[.bool ((rd_T96 l0_0 x10_3).f2), u276001]) ?_ 1 _ rfl; exact BK275.out⟩, ⟨by repeat with_reducible first | exact HB.out | apply bA_ | apply bN_ | apply bD_ | refine bS_ ?_ (Aside0.out ‹_›)⟩⟩
mutual
def sF71.l0 : Nat → ByteArray → Int → Int → List (S72) → Option (Int)
 | 0, _, _, _, _ => none
 | k + 1, x1, x5, x6, x599000 => if x6 < (x1.size : Int) then (sF71.j1 k x1 x5 x6 (decide (x5 ≥ 0)) x599000) else (sF71.j1 k x1 x5 x6 false x599000)
def sF71.j1 : Nat → ByteArray → Int → Int → Bool → List (S72) → Option (Int)
 | 0, _, _, _, _, _ => none
 | k + 1, x1, x5, x6, x17, x599000 => if x17 = true then (sF71.l1 k x1 x5 x6 (-1) 0 x599000) else (some x5)
def sF71.l1 : Nat → ByteArray → Int → Int → Int → Int → List (S72) → Option (Int)
 | 0, _, _, _, _, _, _ => none
 | k + 1, x1, x5, x6, x7, x8, x599000 => if 0 ≤ x5 then (if x5 < (x599000.length : Int) then (if x8 < (((rd_T72 x599000 x5).f1).length : Int) then (if 0 ≤ x8 then (if 0 ≤ x6 then (if x6 < (x1.size : Int) then (if ((rd_T88 ((rd_T72 x599000 x5).f1) x8).f0) = (wrap64 ((wrap64 (bt x1 x6)) - 97)) then (sF71.l1 k x1 x5 x6 ((rd_T88 ((rd_T72 x599000 x5).f1) x8).f1) (wrap64 (x8 + 1)) x599000) else (sF71.l1 k x1 x5 x6 x7 (wrap64 (x8 + 1)) x599000)) else (none)) else (none)) else (none)) else (sF71.l0 k x1 x7 (wrap64 (x6 + 1)) x599000)) else (none)) else (none)
end
def sF71.f (k : Nat) (l0_0 : List (S72)) (a1 : ByteArray) : Option (Int) := sF71.l0 k a1 0 0 l0_0
theorem sF71.mono_l : ∀ k, (∀ y0 y1 y2 y3, LeO (sF71.l0 k y0 y1 y2 y3) (sF71.l0 (k + 1) y0 y1 y2 y3)) ∧ (∀ y0 y1 y2 y3 y4, LeO (sF71.j1 k y0 y1 y2 y3 y4) (sF71.j1 (k + 1) y0 y1 y2 y3 y4)) ∧ (∀ y0 y1 y2 y3 y4 y5, LeO (sF71.l1 k y0 y1 y2 y3 y4 y5) (sF71.l1 (k + 1) y0 y1 y2 y3 y4 y5))
 | 0 => ⟨fun _ _ _ _ r h => by simp [sF71.l0] at h, fun _ _ _ _ _ r h => by simp [sF71.j1] at h, fun _ _ _ _ _ _ r h => by simp [sF71.l1] at h⟩
 | k + 1 => by
  obtain ⟨ih0, ih1, ih2⟩ := sF71.mono_l k
  refine ⟨?_, ?_, ?_⟩
  ·
   intro y0 y1 y2 y3
   unfold sF71.l0
   repeat' with_reducible first | exact ih0 _ _ _ _ | exact ih1 _ _ _ _ _ | exact ih2 _ _ _ _ _ _ | exact l3_ _ | exact l0_ _ | refine l2_ ?_ ?_ | refine l1_ ?_ (fun _ => ?_)
  ·
   intro y0 y1 y2 y3 y4
   unfold sF71.j1
   repeat' with_reducible first | exact ih0 _ _ _ _ | exact ih1 _ _ _ _ _ | exact ih2 _ _ _ _ _ _ | exact l3_ _ | exact l0_ _ | refine l2_ ?_ ?_ | refine l1_ ?_ (fun _ => ?_)
  intro y0 y1 y2 y3 y4 y5
  unfold sF71.l1
  repeat' with_reducible first | exact ih0 _ _ _ _ | exact ih1 _ _ _ _ _ | exact ih2 _ _ _ _ _ _ | exact l3_ _ | exact l0_ _ | refine l2_ ?_ ?_ | refine l1_ ?_ (fun _ => ?_)
theorem sF71.mono : ∀ a0 a1 k, LeO (sF71.f k a0 a1) (sF71.f (k + 1) a0 a1) := by
 intro a0 a1 k
 obtain ⟨ih0, ih1, ih2⟩ := sF71.mono_l k
 unfold sF71.f
 repeat' with_reducible first | exact ih0 _ _ _ _ | exact ih1 _ _ _ _ _ | exact ih2 _ _ _ _ _ _ | exact l3_ _ | exact l0_ _ | refine l2_ ?_ ?_ | refine l1_ ?_ (fun _ => ?_)
theorem sF71.calls (k : Nat) (A0_0 : Option Addr) (c0_0 : Nat) (l0_0 : List (S72)) (a1 : ByteArray) (r : Int) (w : World) (hr0_0 : Kd.C k72 w A0_0 l0_0.length l0_0) (hc0_0 : l0_0.length ≤ c0_0) (h : sF71.f k l0_0 a1 = some r) :
  Calls Tryz.prog 59 #[.agg #[.slice A0_0 l0_0.length c0_0], .string a1] w fun e w' => e = .returned (.int .i64 r) ∧ Below w.heap.size w w' := by
 have hu33 := Tryz.underlying33
 have hu88 := Tryz.underlying88
 have HR0_0 := aM_ hr0_0
 have HC0_0 := aM_ hc0_0
 clear hr0_0 hc0_0
 have HB := aM_ (Below.refl w.heap.size w)
 have H : (sF71.l0 k a1 0 0 l0_0) = some r := h
 clear h
 have H' := aM_ H
 clear H
 go_enter Tryz.func59, Tryz.ntmps59
 go_wp2_with (first | (refine bx_ 2 #[.slice A0_0 l0_0.length c0_0] 33 ?_; intro gb598 hg w3 hbox hb; have BK598 := aM_ (hbox); have GW598 := gw_ hg HB; replace HB := b4_ HB hb; clear hb hbox hg))
 repeat (go_quiet (first | ((with_reducible refine gD_ (N := 2) rfl ?_); refine bE_ ?hg (N := 2) ?hd (cs := #[.slice A0_0 l0_0.length c0_0]) (t := 33) ?hr ?_; (case hd => rfl); (case hg => rfl); (case hr => first | (go_simp; done) | (go_simp; rfl)); intro gb598 hg w3 hbox hb; have BK598 := aM_ (hbox); have GW598 := aM_ ((by rw [hg]; exact (bZ_ (by repeat with_reducible first | exact HB.out | apply bA_ | apply bN_ | apply bD_)) : w.heap.size ≤ gb598)); replace HB := aM_ (bT_ (by repeat with_reducible first | exact HB.out | apply bA_ | apply bN_ | apply bD_) hb); clear hb hbox hg)); try go_wp2_with (first | fail))
 go_loopg [5, 6] k (fun kq v5 v6 w' => ∃ (x5_1 : Int) (x6_1 : Int), v5 = .int .i64 x5_1 ∧ v6 = .int .i64 x6_1 ∧ Aside0 (sF71.l0 kq a1 x5_1 x6_1 l0_0 = some r) ∧ Aside0 (kq ≤ k) ∧ Aside0 (w'.heap[gb598]? = some (.cells #[(.slice A0_0 l0_0.length c0_0)] 33 (0, 0))) ∧ Aside0 (Below w.heap.size w w'))
 case atStart => exact ⟨(0), (0), (by rfl), (by rfl), H', ⟨Nat.le_refl _⟩, ⟨BK598.out⟩, ⟨HB.out⟩⟩
 clear H'
 try clear p2
 obtain ⟨x5_1, x6_1, rfl, rfl, HA, HK1, BK598, HB⟩ := hrel
 cases gk with
 | zero => exact absurd HA.out (by simp [sF71.l0])
 | succ k1 =>
  have H := HA.out
  clear HA
  simp only [sF71.l0] at H
  have HC4 := aM_ H
  clear H
  go_upto_region 3 with (fail)
  repeat (go_quiet (fail); go_upto_region 3 with (fail))
  go_cut [17] (fun v17 wc => ∃ (kq : Nat) (x17_3 : Bool), v17 = .bool x17_3 ∧ Aside0 (sF71.j1 kq a1 x5_1 x6_1 x17_3 l0_0 = some r) ∧ Aside0 (kq ≤ k1) ∧ Aside0 (wc.heap[gb598]? = some (.cells #[(.slice A0_0 l0_0.length c0_0)] 33 (0, 0))) ∧ Aside0 (Below w.heap.size w wc))
  case first =>
   have H := HC4.out
   clear HC4
   by_cases c5 : x6_1 < (a1.size : Int)
   ·
    rw [if_pos c5] at H
    have c5b0 := dT_ c5
    clear c5
    (skip)
    have H' := aM_ H
    clear H
    go_wp2
    repeat (go_quiet (fail); try go_wp2)
    go_meet
    case rel => exact ⟨_, (decide (x5_1 ≥ 0)), (by rfl), H', ⟨by have := HK1.out; omega⟩, ⟨BK598.out⟩, ⟨HB.out⟩⟩
   rw [if_neg c5] at H
   have c5b0 := dF_ c5
   clear c5
   (skip)
   have H' := aM_ H
   clear H
   go_wp2
   repeat (go_quiet (fail); try go_wp2)
   go_meet
   case rel => exact ⟨_, (false), (by rfl), H', ⟨by have := HK1.out; omega⟩, ⟨BK598.out⟩, ⟨HB.out⟩⟩
  clear HC4
  try clear p2
  try clear c5b0
  try clear p2
  obtain ⟨kq, x17_3, rfl, HA, HJ3, BK598, HB⟩ := hcut
  cases kq with
  | zero => exact absurd HA.out (by simp [sF71.j1])
  | succ kj3 =>
   have H := HA.out
   clear HA
   simp only [sF71.j1] at H
   by_cases c6 : x17_3 = true
   rotate_left
   ·
    replace c6 := Bool.eq_false_iff.mpr c6
    subst c6
    replace H : (some x5_1) = some r := by rw [if_neg (show ¬ (false = true) by decide)] at H; exact H
    obtain rfl := Option.some.inj H
    go_wp2
    repeat (go_quiet (fail); try go_wp2)
    go_ret
    exact ⟨by rfl, by exact HB.out⟩
   subst c6
   rw [if_pos rfl] at H
   have H' := aM_ H
   clear H
   go_wp2
   repeat (go_quiet (fail); try go_wp2)
   go_loopg [7, 8] kj3 (fun kq v7 v8 w' => ∃ (x7_3 : Int) (x8_3 : Int), v7 = .int .i64 x7_3 ∧ v8 = .int .i64 x8_3 ∧ Aside0 (sF71.l1 kq a1 x5_1 x6_1 x7_3 x8_3 l0_0 = some r) ∧ Aside0 (kq ≤ kj3) ∧ Aside0 (w'.heap[gb598]? = some (.cells #[(.slice A0_0 l0_0.length c0_0)] 33 (0, 0))) ∧ Aside0 (Below w.heap.size w w'))
   case atStart => exact ⟨((-1)), (0), (by rfl), (by rfl), H', ⟨Nat.le_refl _⟩, ⟨BK598.out⟩, ⟨HB.out⟩⟩
   clear H'
   try clear p2
   try clear c5b0
   try clear p2
   obtain ⟨x7_3, x8_3, rfl, rfl, HA, HK3, BK598, HB⟩ := hrel
   cases gk with
   | zero => exact absurd HA.out (by simp [sF71.l1])
   | succ k3 =>
    have H := HA.out
    clear HA
    simp only [sF71.l1] at H
    by_cases c7 : 0 ≤ x5_1
    rotate_left
    ·
     rw [if_neg c7] at H
     exact absurd H (by simp)
    rw [if_pos c7] at H
    have c7b0 := dT_ c7
    clear c7
    by_cases c8 : x5_1 < (l0_0.length : Int)
    rotate_left
    ·
     rw [if_neg c8] at H
     exact absurd H (by simp)
    rw [if_pos c8] at H
    have c8b0 := dT_ c8
    clear c8
    by_cases c9 : x8_3 < (((rd_T72 l0_0 x5_1).f1).length : Int)
    rotate_left
    ·
     rw [if_neg c9] at H
     have c9b0 := dF_ c9
     clear c9
     have H' := aM_ H
     clear H
     have hcz23_0 := c0_ BK598
     have hfz23_0 := bF_ BK598.out 0
     have p599 : 0 ≤ (x5_1 : Int) := oD_ ‹_›
     have q599 : x5_1 < (l0_0.length : Int) := oD_ ‹_›
     obtain ⟨ad599, A599_1, c599_1, e599, hx599_0, hx599_1, hl599_1, hi599_1⟩ := at_T72 HR0_0.out x5_1 p599 q599
     cases e599
     replace hx599_0 := cb_ HB hx599_0
     replace hx599_1 := cb_ HB hx599_1
     have HR599_1 := aM_ hi599_1
     have HC599_1 := aM_ hl599_1
     clear hi599_1 hl599_1
     replace p599 := eq_true p599
     replace q599 := eq_true q599
     go_wp2
     repeat (go_quiet (fail); try go_wp2)
     go_roundg k3
     case measure => have := HK1.out; have := HJ3.out; have := HK3.out; omega
     case rel => exact ⟨(x7_3), (wrap64 (x6_1 + 1)), (by rfl), (by rfl), H', ⟨by have := HK1.out; have := HJ3.out; have := HK3.out; omega⟩, ⟨BK598.out⟩, ⟨HB.out⟩⟩
    rw [if_pos c9] at H
    have c9b0 := dT_ c9
    clear c9
    by_cases c10 : 0 ≤ x8_3
    rotate_left
    ·
     rw [if_neg c10] at H
     exact absurd H (by simp)
    rw [if_pos c10] at H
    have c10b0 := dT_ c10
    clear c10
    by_cases c11 : 0 ≤ x6_1
    rotate_left
    ·
     rw [if_neg c11] at H
     exact absurd H (by simp)
    rw [if_pos c11] at H
    have c11b0 := dT_ c11
    clear c11
    by_cases c12 : x6_1 < (a1.size : Int)
    rotate_left
    ·
     rw [if_neg c12] at H
     exact absurd H (by simp)
    rw [if_pos c12] at H
    have c12b0 := dT_ c12
    clear c12
    by_cases c14 : ((rd_T88 ((rd_T72 l0_0 x5_1).f1) x8_3).f0) = (wrap64 ((wrap64 (bt a1 x6_1)) - 97))
    ·
     rw [if_pos c14] at H
     have c14b0 : (((rd_T88 ((rd_T72 l0_0 x5_1).f1) x8_3).f0) == (wrap64 ((wrap64 (bt a1 x6_1)) - 97))) = true := beq_iff_eq.mpr c14
     have c14b1 : (((rd_T88 ((rd_T72 l0_0 x5_1).f1) x8_3).f0) != (wrap64 ((wrap64 (bt a1 x6_1)) - 97))) = false := bne_eq_false_iff_eq.mpr c14
     clear c14
     have H' := aM_ H
     clear H
     have hcz15_0 := c0_ BK598
     have hfz15_0 := bF_ BK598.out 0
     have p599 : 0 ≤ (x5_1 : Int) := oD_ ‹_›
     have q599 : x5_1 < (l0_0.length : Int) := oD_ ‹_›
     obtain ⟨ad599, A599_1, c599_1, e599, hx599_0, hx599_1, hl599_1, hi599_1⟩ := at_T72 HR0_0.out x5_1 p599 q599
     cases e599
     replace hx599_0 := cb_ HB hx599_0
     replace hx599_1 := cb_ HB hx599_1
     have HR599_1 := aM_ hi599_1
     have HC599_1 := aM_ hl599_1
     clear hi599_1 hl599_1
     replace p599 := eq_true p599
     replace q599 := eq_true q599
     have p600 : 0 ≤ (x5_1 : Int) := oD_ ‹_›
     have q600 : x5_1 < (l0_0.length : Int) := oD_ ‹_›
     obtain ⟨ad600, A600_1, c600_1, e600, hx600_0, hx600_1, hl600_1, hi600_1⟩ := at_T72 HR0_0.out x5_1 p600 q600
     obtain rfl : ad599 = ad600 := (by injection e600)
     replace hx600_0 := cb_ HB hx600_0
     replace hx600_1 := cb_ HB hx600_1
     have HR600_1 := aM_ hi600_1
     have HC600_1 := aM_ hl600_1
     clear hi600_1 hl600_1
     replace p600 := eq_true p600
     replace q600 := eq_true q600
     have ea_ := Option.some.inj (hx599_1.symm.trans hx600_1)
     injection ea_ with ea_ en_ ec_
     subst ea_
     subst ec_
     clear en_
     have p601 : 0 ≤ (x8_3 : Int) := oD_ ‹_›
     have q601 : x8_3 < (((rd_T72 l0_0 x5_1).f1).length : Int) := oD_ ‹_›
     obtain ⟨ad601, e601, hx601_0, hx601_1⟩ := at_T88 HR600_1.out x8_3 p601 q601
     cases e601
     replace hx601_0 := cb_ HB hx601_0
     replace hx601_1 := cb_ HB hx601_1
     replace p601 := eq_true p601
     replace q601 := eq_true q601
     go_wp2_with (first | (refine bx_ 9 #[.int .i64 0, .int .i64 0] 88 ?_; intro gb602 hg w16 hbox hb; have BK602 := aM_ (hbox); have GW602 := gw_ hg HB; replace HB := b4_ HB hb; have NB598_602 := nb_ hg BK598; have NB602_598 := ns_ NB598_602; replace BK598 := b5_ BK598 hb; clear hb hbox hg; have hnb17 := NB602_598.out; have hnc17 := NB598_602.out; have hcz18_0 := c0_ BK602; have hcz18_1 := c1_ BK602; have hfz18_0 := bF_ BK602.out 0; have hfz18_1 := bF_ BK602.out 1; have p13 : 0 ≤ (x6_1 : Int) := oD_ ‹_›; have q13 : x6_1 < (a1.size : Int) := oD_ ‹_›; have hx13 := bt_at a1 x6_1; replace p13 := eq_true p13; replace q13 := eq_true q13))
     repeat (go_quiet (first | ((with_reducible refine gD_ (N := 9) rfl ?_); refine bE_ ?hg (N := 9) ?hd (cs := #[.int .i64 0, .int .i64 0]) (t := 88) ?hr ?_; (case hd => rfl); (case hg => rfl); (case hr => first | (go_simp; done) | (go_simp; rfl)); intro gb602 hg w16 hbox hb; have BK602 := aM_ (hbox); have GW602 := aM_ ((by rw [hg]; exact (bZ_ (by repeat with_reducible first | exact HB.out | apply bA_ | apply bN_ | apply bD_ | refine bS_ ?_ GW598.out)) : w.heap.size ≤ gb602)); replace HB := aM_ (bT_ (by repeat with_reducible first | exact HB.out | apply bA_ | apply bN_ | apply bD_ | refine bS_ ?_ GW598.out) hb); have NB598_602 := aM_ ((by rw [hg]; exact Nat.ne_of_lt (bL_ (g := gb598) (o := .cells #[.slice (some ad599) l0_0.length c0_0] 33 (0, 0)) (by (with_reducible repeat (first | refine b2_ ?_ _ | refine b1_ ?_ | refine b3_ ?_ _)); exact BK598.out)) : gb598 ≠ gb602)); have NB602_598 := aM_ ((by rw [hg]; exact Nat.ne_of_gt (bL_ (g := gb598) (o := .cells #[.slice (some ad599) l0_0.length c0_0] 33 (0, 0)) (by (with_reducible repeat (first | refine b2_ ?_ _ | refine b1_ ?_ | refine b3_ ?_ _)); exact BK598.out)) : gb602 ≠ gb598)); replace BK598 := aM_ (bB_ (g := gb598) (o := .cells #[.slice (some ad599) l0_0.length c0_0] 33 (0, 0)) (by (with_reducible repeat (first | refine b2_ ?_ _ | refine b1_ ?_ | refine b3_ ?_ _)); exact BK598.out) hb); clear hb hbox hg; have hnb17 := NB602_598.out; have hnc17 := NB598_602.out; have hcz18_0 := c0_ BK602; have hcz18_1 := c1_ BK602; have hfz18_0 := bF_ BK602.out 0; have hfz18_1 := bF_ BK602.out 1; have p13 : 0 ≤ (x6_1 : Int) := oD_ (by first | (with_reducible assumption) | assumption); have q13 : x6_1 < (a1.size : Int) := oD_ (by first | (with_reducible assumption) | assumption); have hx13 := bt_at a1 x6_1; replace p13 := eq_true p13; replace q13 := eq_true q13)); try go_wp2_with (first | fail))
     go_roundg k3
     case measure => have := HK1.out; have := HJ3.out; have := HK3.out; omega
     case rel => exact ⟨((rd_T88 ((rd_T72 l0_0 x5_1).f1) x8_3).f1), (wrap64 (x8_3 + 1)), (by rfl), (by rfl), H', ⟨by have := HK1.out; have := HJ3.out; have := HK3.out; omega⟩, ⟨by (with_reducible repeat (first | refine b2_ ?_ _ | refine b1_ ?_ | refine b3_ ?_ _)); exact br_ NB598_602.out (br_ NB598_602.out (BK598.out))⟩, ⟨by repeat with_reducible first | exact HB.out | apply bA_ | apply bN_ | apply bD_ | refine bS_ ?_ (Aside0.out ‹_›)⟩⟩
    rw [if_neg c14] at H
    have c14b0 : (((rd_T88 ((rd_T72 l0_0 x5_1).f1) x8_3).f0) == (wrap64 ((wrap64 (bt a1 x6_1)) - 97))) = false := beq_eq_false_iff_ne.mpr c14
    have c14b1 : (((rd_T88 ((rd_T72 l0_0 x5_1).f1) x8_3).f0) != (wrap64 ((wrap64 (bt a1 x6_1)) - 97))) = true := bne_iff_ne.mpr c14
    have H' := aM_ H
    clear H
    have hcz19_0 := c0_ BK598
    have hfz19_0 := bF_ BK598.out 0
    have p599 : 0 ≤ (x5_1 : Int) := oD_ ‹_›
    have q599 : x5_1 < (l0_0.length : Int) := oD_ ‹_›
    obtain ⟨ad599, A599_1, c599_1, e599, hx599_0, hx599_1, hl599_1, hi599_1⟩ := at_T72 HR0_0.out x5_1 p599 q599
    cases e599
    replace hx599_0 := cb_ HB hx599_0
    replace hx599_1 := cb_ HB hx599_1
    have HR599_1 := aM_ hi599_1
    have HC599_1 := aM_ hl599_1
    clear hi599_1 hl599_1
    replace p599 := eq_true p599
    replace q599 := eq_true q599
    have p600 : 0 ≤ (x5_1 : Int) := oD_ ‹_›
    have q600 : x5_1 < (l0_0.length : Int) := oD_ ‹_›
    obtain ⟨ad600, A600_1, c600_1, e600, hx600_0, hx600_1, hl600_1, hi600_1⟩ := at_T72 HR0_0.out x5_1 p600 q600
    obtain rfl : ad599 = ad600 := (by injection e600)
    replace hx600_0 := cb_ HB hx600_0
    replace hx600_1 := cb_ HB hx600_1
    have HR600_1 := aM_ hi600_1
    have HC600_1 := aM_ hl600_1
    clear hi600_1 hl600_1
    replace p600 := eq_true p600
    replace q600 := eq_true q600
    have ea_ := Option.some.inj (hx599_1.symm.trans hx600_1)
    injection ea_ with ea_ en_ ec_
    subst ea_
    subst ec_
    clear en_
    have p601 : 0 ≤ (x8_3 : Int) := oD_ ‹_›
    have q601 : x8_3 < (((rd_T72 l0_0 x5_1).f1).length : Int) := oD_ ‹_›
    obtain ⟨ad601, e601, hx601_0, hx601_1⟩ := at_T88 HR600_1.out x8_3 p601 q601
    cases e601
    replace hx601_0 := cb_ HB hx601_0
    replace hx601_1 := cb_ HB hx601_1
    replace p601 := eq_true p601
    replace q601 := eq_true q601
    go_wp2_with (first | (refine bx_ 9 #[.int .i64 0, .int .i64 0] 88 ?_; intro gb602 hg w20 hbox hb; have BK602 := aM_ (hbox); have GW602 := gw_ hg HB; replace HB := b4_ HB hb; have NB598_602 := nb_ hg BK598; have NB602_598 := ns_ NB598_602; replace BK598 := b5_ BK598 hb; clear hb hbox hg; have hnb21 := NB602_598.out; have hnc21 := NB598_602.out; have hcz22_0 := c0_ BK602; have hcz22_1 := c1_ BK602; have hfz22_0 := bF_ BK602.out 0; have hfz22_1 := bF_ BK602.out 1; have p13 : 0 ≤ (x6_1 : Int) := oD_ ‹_›; have q13 : x6_1 < (a1.size : Int) := oD_ ‹_›; have hx13 := bt_at a1 x6_1; replace p13 := eq_true p13; replace q13 := eq_true q13))
    repeat (go_quiet (first | ((with_reducible refine gD_ (N := 9) rfl ?_); refine bE_ ?hg (N := 9) ?hd (cs := #[.int .i64 0, .int .i64 0]) (t := 88) ?hr ?_; (case hd => rfl); (case hg => rfl); (case hr => first | (go_simp; done) | (go_simp; rfl)); intro gb602 hg w20 hbox hb; have BK602 := aM_ (hbox); have GW602 := aM_ ((by rw [hg]; exact (bZ_ (by repeat with_reducible first | exact HB.out | apply bA_ | apply bN_ | apply bD_ | refine bS_ ?_ GW598.out)) : w.heap.size ≤ gb602)); replace HB := aM_ (bT_ (by repeat with_reducible first | exact HB.out | apply bA_ | apply bN_ | apply bD_ | refine bS_ ?_ GW598.out) hb); have NB598_602 := aM_ ((by rw [hg]; exact Nat.ne_of_lt (bL_ (g := gb598) (o := .cells #[.slice (some ad599) l0_0.length c0_0] 33 (0, 0)) (by (with_reducible repeat (first | refine b2_ ?_ _ | refine b1_ ?_ | refine b3_ ?_ _)); exact BK598.out)) : gb598 ≠ gb602)); have NB602_598 := aM_ ((by rw [hg]; exact Nat.ne_of_gt (bL_ (g := gb598) (o := .cells #[.slice (some ad599) l0_0.length c0_0] 33 (0, 0)) (by (with_reducible repeat (first | refine b2_ ?_ _ | refine b1_ ?_ | refine b3_ ?_ _)); exact BK598.out)) : gb602 ≠ gb598)); replace BK598 := aM_ (bB_ (g := gb598) (o := .cells #[.slice (some ad599) l0_0.length c0_0] 33 (0, 0)) (by (with_reducible repeat (first | refine b2_ ?_ _ | refine b1_ ?_ | refine b3_ ?_ _)); exact BK598.out) hb); clear hb hbox hg; have hnb21 := NB602_598.out; have hnc21 := NB598_602.out; have hcz22_0 := c0_ BK602; have hcz22_1 := c1_ BK602; have hfz22_0 := bF_ BK602.out 0; have hfz22_1 := bF_ BK602.out 1; have p13 : 0 ≤ (x6_1 : Int) := oD_ (by first | (with_reducible assumption) | assumption); have q13 : x6_1 < (a1.size : Int) := oD_ (by first | (with_reducible assumption) | assumption); have hx13 := bt_at a1 x6_1; replace p13 := eq_true p13; replace q13 := eq_true q13)); try go_wp2_with (first | fail))
    go_roundg k3
    case measure => have := HK1.out; have := HJ3.out; have := HK3.out; omega
    case rel => exact ⟨(x7_3), (wrap64 (x8_3 + 1)), (by rfl), (by rfl), H', ⟨by have := HK1.out; have := HJ3.out; have := HK3.out; omega⟩, ⟨by (with_reducible repeat (first | refine b2_ ?_ _ | refine b1_ ?_ | refine b3_ ?_ _)); exact br_ NB598_602.out (br_ NB598_602.out (BK598.out))⟩, ⟨by repeat with_reducible first | exact HB.out | apply bA_ | apply bN_ | apply bD_ | refine bS_ ?_ (Aside0.out ‹_›)⟩⟩
def sF55.f (a0 : Int) (a1 : Int) : Option (Int) := if a0 > a1 then (some a0) else (some a1)
theorem sF55.calls (a0 : Int) (a1 : Int) (r : Int) (w : World) (h : sF55.f a0 a1 = some r) :
  Calls Tryz.prog 64 #[.int .i64 a0, .int .i64 a1] w fun e w' => e = .returned (.int .i64 r) ∧ Drawn0 w w' := by
 have H : (if a0 > a1 then (some a0) else (some a1)) = some r := h
 clear h
 by_cases c3 : a0 > a1
 ·
  rw [if_pos c3] at H
  have c3b0 := dT_ c3
  clear c3
  obtain rfl := Option.some.inj H
  go_enter Tryz.func64, Tryz.ntmps64
  go_wp2
  go_ret
  exact ⟨by rfl, by repeat (first | exact Drawn0.refl _ | apply Drawn0.step)⟩
 rw [if_neg c3] at H
 have c3b0 := dF_ c3
 clear c3
 obtain rfl := Option.some.inj H
 go_enter Tryz.func64, Tryz.ntmps64
 go_wp2
 go_ret
 exact ⟨by rfl, by repeat (first | exact Drawn0.refl _ | apply Drawn0.step)⟩
end Go.Proofs.YtnnkedeohfbkeaaGreatDoor.P
namespace Go.Proofs.YtnnkedeohfbkeaaGreatDoor.P
open Go.RowKit Go.Proofs.YtnnkedeohfbkeaaGreatDoorW.PrintWords Go.Proofs.YtnnkedeohfbkeaaGreatDoorW.PrintLast Go.Proofs.YtnnkedeohfbkeaaGreatDoorW.PrintMore
attribute [local go_sem] max2_int min2_int max_two min_two max_three min_three max_four min_four
theorem goesD_ {P : Program} {ops : Array Oper} {Q : Exit → Act → World → Prop} {rest : List Oper} {oi : Oper} {a : Act} {w : World} (N : Option Tmp) (hd : oi.dst = N) (hg : oi.guard = none) {t : Tmp} {f : FuncId} {fn : Func} {az : Array Operand} {ts : Array TypeId} (hev : a.eval (.tmp t) = .func (.func f) #[] #[]) (hf : P.funcs[f]? = some fn) (hname : (fn.name == "runtime.NumGoroutine") = false) (hb : fn.body.isSome = true) (args : Array Value)
  (hop : oi.op = .call { callee := .value (.tmp t), args := az, argTypes := ts }) (hargs : az.map a.eval = args)
  (h : Calls P f args w fun e w' => ∃ v, e = .returned v ∧ wpList P ops Q rest (a.put N v) w') : wpList P ops Q (oi :: rest) a w := by
 refine wpList_plain hg fun K hK => ?_
 have he := enters_ hf hname hb args w
 have hrun : (execOp a.eval oi).run P w = .ok (.enter f args) w := by
  unfold execOp
  simp [hop, resolve, Deferred.ofValue, invoke, hev, hargs, he]
 unfold Oper.wp
 rw [hrun, Oper.upon_enter]
 refine h.mono fun e w'' hh => ?_
 obtain ⟨v, rfl, hk⟩ := hh
 subst hd
 exact hK _ _ hk
end Go.Proofs.YtnnkedeohfbkeaaGreatDoor.P
namespace Go.Proofs.YtnnkedeohfbkeaaGreatDoor.P
open Go.RowKit Go.Proofs.YtnnkedeohfbkeaaGreatDoorW.PrintWords Go.Proofs.YtnnkedeohfbkeaaGreatDoorW.PrintLast Go.Proofs.YtnnkedeohfbkeaaGreatDoorW.PrintMore
open Go.Proofs.YtnnkedeohfbkeaaGreatDoorW.PrintWords renaming blk_frozen → bF_, blk_cell → bC_, below_set → bS_, blk_below → bB_, below_step → bT_, pw_below_drewN → bN_, below_size → bZ_, below_drew1 → bD_, below_alloc → bA_, blk_far → bR_, gate_callee → gC_, gate_dst → gD_, box_event → bE_, blk_drew → b1_, blk_put → bP_, blk_drewN → b2_, blk_alloc → b3_, blk_lt → bL_, cell_far → cF_
open Go.Proofs.YtnnkedeohfbkeaaGreatDoorW.PrintLast renaming any_of → aO_, i64_w → i6_, i32_w → i3_, take_ofW → tW_
open Go.Proofs.YtnnkedeohfbkeaaGreatDoorW.PrintWords.Kd renaming R_below → kB_, R_mono → kM_, R_far → kF_, R_reads' → kR_, R_types → kT_, R_slice → kS_, R_celln → kC_, R_alloc → k1_, R_drewN → k2_, R_drew → k3_, C_below → k4_, R_lower → k5_, R_ne → k6_, own_blk → k7_
open Go.Proofs.YtnnkedeohfbkeaaGreatDoorW.PrintWords.LeO renaming none → l0_, bind → l1_, ite → l2_, refl → l3_
open World renaming block_lt_of_cell? → wB_
open _root_.Option renaming bind_eq_some_iff → oB_
open _root_.ByteArray renaming empty → eB_
open List renaming setIfInBounds_toArray → sA_, set_cons_zero → sB_, set_cons_succ → sC_, map_toArray → sD_, map_cons → sE_, map_nil → sF_, length_drop → sG_, length_take → sH_
open Bool renaming true → ty, false → fy
open Aside0 renaming mk → aM_
attribute [local go_sem] max2_int min2_int max_two min_two max_three min_three max_four min_four
attribute [local go_sem high] eqA88
def xF49.l0 : Nat → List (S88) → List (S88) → Int → Int → Option (Bool)
 | 0, _, _, _, _ => none
 | k + 1, x0, x1, x12, x13 => if x13 < x12 then (if 0 ≤ x13 then (if x13 < (x0.length : Int) then (if x13 < (x1.length : Int) then (if (!(((rd_T88 x0 x13).f0) == ((rd_T88 x1 x13).f0)) || (!(((rd_T88 x0 x13).f1) == ((rd_T88 x1 x13).f1)))) = true then (some false) else (xF49.l0 k x0 x1 x12 (wrap64 (x13 + 1)))) else (none)) else (none)) else (none)) else (some true)
def xF49.f (k : Nat) (l0 : List (S88)) (l1 : List (S88)) : Option (Bool) := if (l0.length : Int) = (l1.length : Int) then (xF49.l0 k l0 l1 (l0.length : Int) 0) else (some false)
theorem xF49.mono_l : ∀ k, (∀ y0 y1 y2 y3, LeO (xF49.l0 k y0 y1 y2 y3) (xF49.l0 (k + 1) y0 y1 y2 y3))
 | 0 => fun _ _ _ _ r h => by simp [xF49.l0] at h
 | k + 1 => by
  have ih0 := xF49.mono_l k
  intro y0 y1 y2 y3
  unfold xF49.l0
  repeat' with_reducible first | exact ih0 _ _ _ _ | exact l3_ _ | exact l0_ _ | refine l2_ ?_ ?_ | refine l1_ ?_ (fun _ => ?_)
theorem xF49.mono : ∀ a0 a1 k, LeO (xF49.f k a0 a1) (xF49.f (k + 1) a0 a1) := by
 intro a0 a1 k
 have ih0 := xF49.mono_l k
 unfold xF49.f
 repeat' with_reducible first | exact ih0 _ _ _ _ | exact l3_ _ | exact l0_ _ | refine l2_ ?_ ?_ | refine l1_ ?_ (fun _ => ?_)
theorem xF49.calls (k : Nat) (A0 : Option Addr) (c0 : Nat) (l0 : List (S88)) (A1 : Option Addr) (c1 : Nat) (l1 : List (S88)) (r : Bool) (w : World) (hr0 : Kd.C k88 w A0 l0.length l0) (hc0 : l0.length ≤ c0) (hr1 : Kd.C k88 w A1 l1.length l1) (hc1 : l1.length ≤ c1) (h : xF49.f k l0 l1 = some r) :
  Calls Tryz.prog 109 #[.slice A0 l0.length c0, .slice A1 l1.length c1] w fun e w' => e = .returned (.bool r) ∧ Drawn0 w w' := by
 have hu88 := Tryz.underlying88
 have HR0 := aM_ hr0
 have HC0 := aM_ hc0
 clear hr0 hc0
 have HR1 := aM_ hr1
 have HC1 := aM_ hc1
 clear hr1 hc1
 have H : (if (l0.length : Int) = (l1.length : Int) then (xF49.l0 k l0 l1 (l0.length : Int) 0) else (some false)) = some r := h
 clear h
 by_cases c3 : (l0.length : Int) = (l1.length : Int)
 rotate_left
 ·
  rw [if_neg c3] at H
  have c3b0 : ((l0.length : Int) == (l1.length : Int)) = false := beq_eq_false_iff_ne.mpr c3
  have c3b1 : ((l0.length : Int) != (l1.length : Int)) = true := bne_iff_ne.mpr c3
  have c3b2 : (l0.length == l1.length) = false := by first | simpa using c3 | (simp at c3 ⊢; omega)
  obtain rfl := Option.some.inj H
  go_enter Tryz.func109, Tryz.ntmps109
  go_wp2
  repeat (go_quiet (fail); try go_wp2)
  go_ret
  exact ⟨by rfl, by repeat (first | exact Drawn0.refl _ | apply Drawn0.step)⟩
 rw [if_pos c3] at H
 have c3b0 : ((l0.length : Int) == (l1.length : Int)) = true := beq_iff_eq.mpr c3
 have c3b1 : ((l0.length : Int) != (l1.length : Int)) = false := bne_eq_false_iff_eq.mpr c3
 have c3b2 : (l0.length == l1.length) = true := by first | simpa using c3 | (simp at c3 ⊢; omega)
 clear c3
 have H' := aM_ H
 clear H
 go_enter Tryz.func109, Tryz.ntmps109
 go_wp2
 repeat (go_quiet (fail); try go_wp2)
 go_loopg [13] k (fun kq v13 w' => ∃ (x13_1 : Int), v13 = .int .i64 x13_1 ∧ Aside0 (xF49.l0 kq l0 l1 (l0.length : Int) x13_1 = some r) ∧ Aside0 (kq ≤ k) ∧ Drawn0 w w')
 case atStart => exact ⟨(0), (by rfl), H', ⟨Nat.le_refl _⟩, by repeat (first | exact Drawn0.refl _ | apply Drawn0.step)⟩
 clear H'
 try clear p2
 try clear c3b0
 try clear c3b1
 try clear c3b2
 obtain ⟨x13_1, rfl, HA, HK1, ⟨m1, rfl⟩⟩ := hrel
 cases gk with
 | zero => exact absurd HA.out (by simp [xF49.l0])
 | succ k1 =>
  have H := HA.out
  clear HA
  simp only [xF49.l0] at H
  by_cases c4 : x13_1 < (l0.length : Int)
  rotate_left
  ·
   rw [if_neg c4] at H
   have c4b0 := dF_ c4
   clear c4
   obtain rfl := Option.some.inj H
   go_wp2
   repeat (go_quiet (fail); try go_wp2)
   go_ret
   exact ⟨by rfl, by repeat (first | exact Drawn0.refl _ | apply Drawn0.step)⟩
  rw [if_pos c4] at H
  have c4b0 := dT_ c4
  clear c4
  by_cases c5 : 0 ≤ x13_1
  rotate_left
  ·
   rw [if_neg c5] at H
   exact absurd H (by simp)
  rw [if_pos c5] at H
  have c5b0 := dT_ c5
  clear c5
  by_cases c6 : x13_1 < (l0.length : Int)
  rotate_left
  ·
   rw [if_neg c6] at H
   exact absurd H (by simp)
  rw [if_pos c6] at H
  have c6b0 := dT_ c6
  clear c6
  by_cases c7 : x13_1 < (l1.length : Int)
  rotate_left
  ·
   rw [if_neg c7] at H
   exact absurd H (by simp)
  rw [if_pos c7] at H
  have c7b0 := dT_ c7
  clear c7
  by_cases c8 : (!(((rd_T88 l0 x13_1).f0) == ((rd_T88 l1 x13_1).f0)) || (!(((rd_T88 l0 x13_1).f1) == ((rd_T88 l1 x13_1).f1)))) = true
  ·
   rw [if_pos c8] at H
   have c8b0 : (!(((rd_T88 l0 x13_1).f0) == ((rd_T88 l1 x13_1).f0)) || (!(((rd_T88 l0 x13_1).f1) == ((rd_T88 l1 x13_1).f1)))) = true := c8
   clear c8
   obtain rfl := Option.some.inj H
   have p454 : 0 ≤ (x13_1 : Int) := oD_ ‹_›
   have q454 : x13_1 < (l0.length : Int) := oD_ ‹_›
   obtain ⟨ad454, e454, hx454_0, hx454_1⟩ := at_T88 HR0.out x13_1 p454 q454
   cases e454
   replace p454 := eq_true p454
   replace q454 := eq_true q454
   have p455 : 0 ≤ (x13_1 : Int) := oD_ ‹_›
   have q455 : x13_1 < (l1.length : Int) := oD_ ‹_›
   obtain ⟨ad455, e455, hx455_0, hx455_1⟩ := at_T88 HR1.out x13_1 p455 q455
   cases e455
   replace p455 := eq_true p455
   replace q455 := eq_true q455
   go_wp2
   repeat (go_quiet (fail); try go_wp2)
   go_ret
   exact ⟨by rfl, by repeat (first | exact Drawn0.refl _ | apply Drawn0.step)⟩
  rw [if_neg c8] at H
  have c8b0 : (!(((rd_T88 l0 x13_1).f0) == ((rd_T88 l1 x13_1).f0)) || (!(((rd_T88 l0 x13_1).f1) == ((rd_T88 l1 x13_1).f1)))) = false := by simpa using c8
  clear c8
  have H' := aM_ H
  clear H
  have p454 : 0 ≤ (x13_1 : Int) := oD_ ‹_›
  have q454 : x13_1 < (l0.length : Int) := oD_ ‹_›
  obtain ⟨ad454, e454, hx454_0, hx454_1⟩ := at_T88 HR0.out x13_1 p454 q454
  cases e454
  replace p454 := eq_true p454
  replace q454 := eq_true q454
  have p455 : 0 ≤ (x13_1 : Int) := oD_ ‹_›
  have q455 : x13_1 < (l1.length : Int) := oD_ ‹_›
  obtain ⟨ad455, e455, hx455_0, hx455_1⟩ := at_T88 HR1.out x13_1 p455 q455
  cases e455
  replace p455 := eq_true p455
  replace q455 := eq_true q455
  go_wp2
  repeat (go_quiet (fail); try go_wp2)
  go_roundg k1
  case measure => have := HK1.out; omega
  case rel => exact ⟨(wrap64 (x13_1 + 1)), (by rfl), H', ⟨by have := HK1.out; omega⟩, by repeat (first | exact Drawn0.refl _ | apply Drawn0.step)⟩
end Go.Proofs.YtnnkedeohfbkeaaGreatDoor.P
namespace Go.Proofs.YtnnkedeohfbkeaaGreatDoor.P
open Go.RowKit Go.Proofs.YtnnkedeohfbkeaaGreatDoorW.PrintWords Go.Proofs.YtnnkedeohfbkeaaGreatDoorW.PrintLast Go.Proofs.YtnnkedeohfbkeaaGreatDoorW.PrintMore
open Go.Proofs.YtnnkedeohfbkeaaGreatDoorW.PrintWords renaming blk_frozen → bF_, blk_cell → bC_, below_set → bS_, blk_below → bB_, below_step → bT_, pw_below_drewN → bN_, below_size → bZ_, below_drew1 → bD_, below_alloc → bA_, blk_far → bR_, gate_callee → gC_, gate_dst → gD_, box_event → bE_, blk_drew → b1_, blk_put → bP_, blk_drewN → b2_, blk_alloc → b3_, blk_lt → bL_, cell_far → cF_
open Go.Proofs.YtnnkedeohfbkeaaGreatDoorW.PrintLast renaming any_of → aO_, i64_w → i6_, i32_w → i3_, take_ofW → tW_
open Go.Proofs.YtnnkedeohfbkeaaGreatDoorW.PrintWords.Kd renaming R_below → kB_, R_mono → kM_, R_far → kF_, R_reads' → kR_, R_types → kT_, R_slice → kS_, R_celln → kC_, R_alloc → k1_, R_drewN → k2_, R_drew → k3_, C_below → k4_, R_lower → k5_, R_ne → k6_, own_blk → k7_
open Go.Proofs.YtnnkedeohfbkeaaGreatDoorW.PrintWords.LeO renaming none → l0_, bind → l1_, ite → l2_, refl → l3_
open World renaming block_lt_of_cell? → wB_
open _root_.Option renaming bind_eq_some_iff → oB_
open _root_.ByteArray renaming empty → eB_
open List renaming setIfInBounds_toArray → sA_, set_cons_zero → sB_, set_cons_succ → sC_, map_toArray → sD_, map_cons → sE_, map_nil → sF_, length_drop → sG_, length_take → sH_
open Bool renaming true → ty, false → fy
open Aside0 renaming mk → aM_
attribute [local go_sem] max2_int min2_int max_two min_two max_three min_three max_four min_four
def iF26.f (k : Nat) (a0_0 : Bool) (l0_1 : List (S88)) (a1_0 : Bool) (l1_1 : List (S88)) : Option (Bool) := if (a0_0 == a1_0) = true then ((xF49.f k l0_1 l1_1).bind fun t458 => (some t458)) else (some false)
theorem iF26.mono : ∀ a0 a1 a2 a3 k, LeO (iF26.f k a0 a1 a2 a3) (iF26.f (k + 1) a0 a1 a2 a3) := by
 intro a0 a1 a2 a3 k
 unfold iF26.f
 repeat' with_reducible first | exact xF49.mono _ _ _ | exact l3_ _ | exact l0_ _ | refine l2_ ?_ ?_ | refine l1_ ?_ (fun _ => ?_)
theorem iF26.calls (k : Nat) (a0_0 : Bool) (A0_1 : Option Addr) (c0_1 : Nat) (l0_1 : List (S88)) (a1_0 : Bool) (A1_1 : Option Addr) (c1_1 : Nat) (l1_1 : List (S88)) (r : Bool) (w : World) (hr0_1 : Kd.C k88 w A0_1 l0_1.length l0_1) (hc0_1 : l0_1.length ≤ c0_1) (hr1_1 : Kd.C k88 w A1_1 l1_1.length l1_1) (hc1_1 : l1_1.length ≤ c1_1) (h : iF26.f k a0_0 l0_1 a1_0 l1_1 = some r) :
  Calls Tryz.prog 84 #[.agg #[.bool a0_0, .slice A0_1 l0_1.length c0_1], .agg #[.bool a1_0, .slice A1_1 l1_1.length c1_1]] w fun e w' => e = .returned (.bool r) ∧ Below w.heap.size w w' := by
 have hu72 := Tryz.underlying72
 have HR0_1 := aM_ hr0_1
 have HC0_1 := aM_ hc0_1
 clear hr0_1 hc0_1
 have HR1_1 := aM_ hr1_1
 have HC1_1 := aM_ hc1_1
 clear hr1_1 hc1_1
 have HB := aM_ (Below.refl w.heap.size w)
 have H : (if (a0_0 == a1_0) = true then ((xF49.f k l0_1 l1_1).bind fun t458 => (some t458)) else (some false)) = some r := h
 clear h
 by_cases c3 : (a0_0 == a1_0) = true
 ·
  rw [if_pos c3] at H
  have c3b0 : (a0_0 == a1_0) = true := c3
  (try (have c3b1 : decide (a0_0 = a1_0) = true := by simpa using c3))
  (try (have c3b2 : (a0_0 == a1_0) = true := by simpa using c3))
  clear c3
  replace H := oB_.mp H
  obtain ⟨t458, A40, H⟩ := H
  try dsimp only at H
  have A4 := aM_ A40
  clear A40
  obtain rfl := Option.some.inj H
  go_enter Tryz.func84, Tryz.ntmps84
  go_wp2_with (first | (refine bx_ 2 #[.bool a0_0, .slice A0_1 l0_1.length c0_1] 72 ?_; intro gb456 hg w5 hbox hb; have BK456 := aM_ (hbox); have GW456 := gw_ hg HB; replace HB := b4_ HB hb; clear hb hbox hg) | (refine bx_ 3 #[.bool a1_0, .slice A1_1 l1_1.length c1_1] 72 ?_; intro gb457 hg w6 hbox hb; have BK457 := aM_ (hbox); have GW457 := gw_ hg HB; replace HB := b4_ HB hb; have NB456_457 := nb_ hg BK456; have NB457_456 := ns_ NB456_457; replace BK456 := b5_ BK456 hb; clear hb hbox hg; have hnb7 := NB456_457.out; have hnc7 := NB457_456.out; have hcz8_0 := c0_ BK456; have hcz8_1 := c1_ BK456; have hfz8_0 := bF_ BK456.out 0; have hfz8_1 := bF_ BK456.out 1; have hcz9_0 := c0_ BK457; have hcz9_1 := c1_ BK457; have hfz9_0 := bF_ BK457.out 0; have hfz9_1 := bF_ BK457.out 1) | (go_at_call 109; (with_reducible refine (xF49.calls k _ _ l0_1 _ _ l1_1 t458 _ ?side1 HC0_1.out ?side3 HC1_1.out A4.out).mono ?_); (case side1 => repeat (first | exact (k4_ HR0_1.out HB.out) | with_reducible first | apply cA_ | apply cN_ | apply cD_)); (case side3 => repeat (first | exact (k4_ HR1_1.out HB.out) | with_reducible first | apply cA_ | apply cN_ | apply cD_)); rintro e w' ⟨rfl, ⟨nd, rfl⟩⟩))
  go_ret
  exact ⟨by rfl, by repeat with_reducible first | exact HB.out | apply bA_ | apply bN_ | apply bD_ | refine bS_ ?_ (Aside0.out ‹_›)⟩
 rw [if_neg c3] at H
 have c3b0 : (a0_0 == a1_0) = false := by simpa using c3
 (try (have c3b1 : decide (a0_0 = a1_0) = false := by simpa using c3))
 (try (have c3b2 : (a0_0 == a1_0) = false := by simpa using c3))
 (try (have c3b3 : ¬ (a0_0 = a1_0) := by simpa using c3))
 clear c3
 obtain rfl := Option.some.inj H
 go_enter Tryz.func84, Tryz.ntmps84
 go_wp2_with (first | (refine bx_ 2 #[.bool a0_0, .slice A0_1 l0_1.length c0_1] 72 ?_; intro gb456 hg w10 hbox hb; have BK456 := aM_ (hbox); have GW456 := gw_ hg HB; replace HB := b4_ HB hb; clear hb hbox hg) | (refine bx_ 3 #[.bool a1_0, .slice A1_1 l1_1.length c1_1] 72 ?_; intro gb457 hg w11 hbox hb; have BK457 := aM_ (hbox); have GW457 := gw_ hg HB; replace HB := b4_ HB hb; have NB456_457 := nb_ hg BK456; have NB457_456 := ns_ NB456_457; replace BK456 := b5_ BK456 hb; clear hb hbox hg; have hnb12 := NB456_457.out; have hnc12 := NB457_456.out; have hcz13_0 := c0_ BK456; have hcz13_1 := c1_ BK456; have hfz13_0 := bF_ BK456.out 0; have hfz13_1 := bF_ BK456.out 1; have hcz14_0 := c0_ BK457; have hcz14_1 := c1_ BK457; have hfz14_0 := bF_ BK457.out 0; have hfz14_1 := bF_ BK457.out 1))
 go_ret
 exact ⟨by rfl, by exact HB.out⟩
def xF48.l0 : Nat → List (S72) → List (S72) → Int → Int → Option (Bool)
 | 0, _, _, _, _ => none
 | k + 1, x1, x15, x16, x17 => if x17 < x16 then (if 0 ≤ x17 then (if x17 < (x15.length : Int) then (if x17 < (x1.length : Int) then ((iF26.f k ((rd_T72 x15 x17).f0) ((rd_T72 x15 x17).f1) ((rd_T72 x1 x17).f0) ((rd_T72 x1 x17).f1)).bind fun t463 => (if t463 = true then (xF48.l0 k x1 x15 x16 (wrap64 (x17 + 1))) else (some false))) else (none)) else (none)) else (none)) else (some true)
def xF48.f (k : Nat) (l0 : List (S72)) (l1 : List (S72)) : Option (Bool) := if (l0.length : Int) = (l1.length : Int) then (xF48.l0 k l1 l0 (l0.length : Int) 0) else (some false)
theorem xF48.mono_l : ∀ k, (∀ y0 y1 y2 y3, LeO (xF48.l0 k y0 y1 y2 y3) (xF48.l0 (k + 1) y0 y1 y2 y3))
 | 0 => fun _ _ _ _ r h => by simp [xF48.l0] at h
 | k + 1 => by
  have ih0 := xF48.mono_l k
  intro y0 y1 y2 y3
  unfold xF48.l0
  repeat' with_reducible first | exact ih0 _ _ _ _ | exact iF26.mono _ _ _ _ _ | exact l3_ _ | exact l0_ _ | refine l2_ ?_ ?_ | refine l1_ ?_ (fun _ => ?_)
theorem xF48.mono : ∀ a0 a1 k, LeO (xF48.f k a0 a1) (xF48.f (k + 1) a0 a1) := by
 intro a0 a1 k
 have ih0 := xF48.mono_l k
 unfold xF48.f
 repeat' with_reducible first | exact ih0 _ _ _ _ | exact iF26.mono _ _ _ _ _ | exact l3_ _ | exact l0_ _ | refine l2_ ?_ ?_ | refine l1_ ?_ (fun _ => ?_)
theorem xF48.calls (k : Nat) (A0 : Option Addr) (c0 : Nat) (l0 : List (S72)) (A1 : Option Addr) (c1 : Nat) (l1 : List (S72)) (r : Bool) (w : World) (hr0 : Kd.C k72 w A0 l0.length l0) (hc0 : l0.length ≤ c0) (hr1 : Kd.C k72 w A1 l1.length l1) (hc1 : l1.length ≤ c1) (h : xF48.f k l0 l1 = some r) :
  Calls Tryz.prog 83 #[.slice A0 l0.length c0, .slice A1 l1.length c1, .func (.func 84) #[] #[]] w fun e w' => e = .returned (.bool r) ∧ Below w.heap.size w w' := by
 have hu72 := Tryz.underlying72
 have HR0 := aM_ hr0
 have HC0 := aM_ hc0
 clear hr0 hc0
 have HR1 := aM_ hr1
 have HC1 := aM_ hc1
 clear hr1 hc1
 have HB := aM_ (Below.refl w.heap.size w)
 have H : (if (l0.length : Int) = (l1.length : Int) then (xF48.l0 k l1 l0 (l0.length : Int) 0) else (some false)) = some r := h
 clear h
 by_cases c3 : (l0.length : Int) = (l1.length : Int)
 rotate_left
 ·
  rw [if_neg c3] at H
  have c3b0 : ((l0.length : Int) == (l1.length : Int)) = false := beq_eq_false_iff_ne.mpr c3
  have c3b1 : ((l0.length : Int) != (l1.length : Int)) = true := bne_iff_ne.mpr c3
  have c3b2 : (l0.length == l1.length) = false := by first | simpa using c3 | (simp at c3 ⊢; omega)
  obtain rfl := Option.some.inj H
  go_enter Tryz.func83, Tryz.ntmps83
  go_wp2
  go_ret
  exact ⟨by rfl, by exact HB.out⟩
 rw [if_pos c3] at H
 have c3b0 : ((l0.length : Int) == (l1.length : Int)) = true := beq_iff_eq.mpr c3
 have c3b1 : ((l0.length : Int) != (l1.length : Int)) = false := bne_eq_false_iff_eq.mpr c3
 have c3b2 : (l0.length == l1.length) = true := by first | simpa using c3 | (simp at c3 ⊢; omega)
 clear c3
 have H' := aM_ H
 clear H
 go_enter Tryz.func83, Tryz.ntmps83
 go_wp2
 go_loopg [17] k (fun kq v17 w' => ∃ (x17_1 : Int), v17 = .int .i64 x17_1 ∧ Aside0 (xF48.l0 kq l1 l0 (l0.length : Int) x17_1 = some r) ∧ Aside0 (kq ≤ k) ∧ Aside0 (Below w.heap.size w w'))
 case atStart => exact ⟨(0), (by rfl), H', ⟨Nat.le_refl _⟩, ⟨HB.out⟩⟩
 clear H'
 try clear p2
 try clear c3b0
 try clear c3b1
 try clear c3b2
 obtain ⟨x17_1, rfl, HA, HK1, HB⟩ := hrel
 cases gk with
 | zero => exact absurd HA.out (by simp [xF48.l0])
 | succ k1 =>
  have H := HA.out
  clear HA
  simp only [xF48.l0] at H
  by_cases c4 : x17_1 < (l0.length : Int)
  rotate_left
  ·
   rw [if_neg c4] at H
   have c4b0 := dF_ c4
   clear c4
   obtain rfl := Option.some.inj H
   go_wp2
   go_ret
   exact ⟨by rfl, by exact HB.out⟩
  rw [if_pos c4] at H
  have c4b0 := dT_ c4
  clear c4
  by_cases c5 : 0 ≤ x17_1
  rotate_left
  ·
   rw [if_neg c5] at H
   exact absurd H (by simp)
  rw [if_pos c5] at H
  have c5b0 := dT_ c5
  clear c5
  by_cases c6 : x17_1 < (l0.length : Int)
  rotate_left
  ·
   rw [if_neg c6] at H
   exact absurd H (by simp)
  rw [if_pos c6] at H
  have c6b0 := dT_ c6
  clear c6
  by_cases c7 : x17_1 < (l1.length : Int)
  rotate_left
  ·
   rw [if_neg c7] at H
   exact absurd H (by simp)
  rw [if_pos c7] at H
  have c7b0 := dT_ c7
  clear c7
  replace H := oB_.mp H
  obtain ⟨t463, A80, H⟩ := H
  try dsimp only at H
  have A8 := aM_ A80
  clear A80
  by_cases c9 : t463 = true
  ·
   subst c9
   rw [if_pos rfl] at H
   have H' := aM_ H
   clear H
   have p459 : 0 ≤ (x17_1 : Int) := oD_ ‹_›
   have q459 : x17_1 < (l0.length : Int) := oD_ ‹_›
   obtain ⟨ad459, A459_1, c459_1, e459, hx459_0, hx459_1, hl459_1, hi459_1⟩ := at_T72 HR0.out x17_1 p459 q459
   cases e459
   replace hx459_0 := cb_ HB hx459_0
   replace hx459_1 := cb_ HB hx459_1
   have HR459_1 := aM_ hi459_1
   have HC459_1 := aM_ hl459_1
   clear hi459_1 hl459_1
   replace p459 := eq_true p459
   replace q459 := eq_true q459
   go_wp2_with (first | (refine bx_ 8 #[.bool false, .slice none 0 0] 72 ?_; intro gb460 hg w10 hbox hb; have BK460 := aM_ (hbox); have GW460 := gw_ hg HB; replace HB := b4_ HB hb; clear hb hbox hg; have hcz11_0 := c0_ BK460; have hcz11_1 := c1_ BK460; have hfz11_0 := bF_ BK460.out 0; have hfz11_1 := bF_ BK460.out 1; have p461 : 0 ≤ (x17_1 : Int) := oD_ ‹_›; have q461 : x17_1 < (l1.length : Int) := oD_ ‹_›; obtain ⟨ad461, A461_1, c461_1, e461, hx461_0, hx461_1, hl461_1, hi461_1⟩ := at_T72 HR1.out x17_1 p461 q461; cases e461; have hn461_0 : ad461.block ≠ gb460 := Nat.ne_of_lt (Nat.lt_of_lt_of_le (by have := wB_ _ _ hx461_0; rwa [add_block] at this) GW460.out); have hn461_1 : ad461.block ≠ gb460 := Nat.ne_of_lt (Nat.lt_of_lt_of_le (by have := wB_ _ _ hx461_0; rwa [add_block] at this) GW460.out); replace hx461_0 := cb_ HB hx461_0; replace hx461_1 := cb_ HB hx461_1; have HR461_1 := aM_ hi461_1; have HC461_1 := aM_ hl461_1; clear hi461_1 hl461_1; replace hx461_0 := (cF_ (p := ⟨gb460, 0, none⟩) (by (rw [add_block]; exact hn461_0)) (.bool ((rd_T72 l0 x17_1).f0))).trans hx461_0; replace hx461_1 := (cF_ (p := ⟨gb460, 0, none⟩) (by (rw [add_block]; exact hn461_0)) (.bool ((rd_T72 l0 x17_1).f0))).trans hx461_1; replace hx461_0 := (cF_ (p := ⟨gb460, 1, none⟩) (by (rw [add_block]; exact hn461_1)) (.slice A459_1 ((rd_T72 l0 x17_1).f1).length c459_1)).trans hx461_0; replace hx461_1 := (cF_ (p := ⟨gb460, 1, none⟩) (by (rw [add_block]; exact hn461_1)) (.slice A459_1 ((rd_T72 l0 x17_1).f1).length c459_1)).trans hx461_1; clear hn461_0; clear hn461_1; replace p461 := eq_true p461; replace q461 := eq_true q461) | (refine bx_ 9 #[.bool false, .slice none 0 0] 72 ?_; intro gb462 hg w12 hbox hb; have BK462 := aM_ (hbox); have GW462 := aM_ ((by rw [hg]; exact (bZ_ (by repeat with_reducible first | exact HB.out | apply bA_ | apply bN_ | apply bD_ | refine bS_ ?_ GW460.out)) : w.heap.size ≤ gb462)); replace HB := aM_ (bT_ (by repeat with_reducible first | exact HB.out | apply bA_ | apply bN_ | apply bD_ | refine bS_ ?_ GW460.out) hb); have NB460_462 := aM_ ((by rw [hg]; exact Nat.ne_of_lt (bL_ (g := gb460) (o := .cells #[.bool ((rd_T72 l0 x17_1).f0), .slice A459_1 ((rd_T72 l0 x17_1).f1).length c459_1] 72 (0, 0)) (by refine bP_ (cs := #[.bool ((rd_T72 l0 x17_1).f0), .slice none 0 0]) ?_ 1 _ rfl; refine bP_ (cs := #[.bool false, .slice none 0 0]) ?_ 0 _ rfl; exact BK460.out)) : gb460 ≠ gb462)); have NB462_460 := aM_ ((by rw [hg]; exact Nat.ne_of_gt (bL_ (g := gb460) (o := .cells #[.bool ((rd_T72 l0 x17_1).f0), .slice A459_1 ((rd_T72 l0 x17_1).f1).length c459_1] 72 (0, 0)) (by refine bP_ (cs := #[.bool ((rd_T72 l0 x17_1).f0), .slice none 0 0]) ?_ 1 _ rfl; refine bP_ (cs := #[.bool false, .slice none 0 0]) ?_ 0 _ rfl; exact BK460.out)) : gb462 ≠ gb460)); replace BK460 := aM_ (bB_ (g := gb460) (o := .cells #[.bool ((rd_T72 l0 x17_1).f0), .slice A459_1 ((rd_T72 l0 x17_1).f1).length c459_1] 72 (0, 0)) (by refine bP_ (cs := #[.bool ((rd_T72 l0 x17_1).f0), .slice none 0 0]) ?_ 1 _ rfl; refine bP_ (cs := #[.bool false, .slice none 0 0]) ?_ 0 _ rfl; exact BK460.out) hb); clear hb hbox hg; have hnb13 := NB462_460.out; have hnc13 := NB460_462.out; have hcz14_0 := c0_ BK462; have hcz14_1 := c1_ BK462; have hfz14_0 := bF_ BK462.out 0; have hfz14_1 := bF_ BK462.out 1; have hcz15_0 := c0_ BK460; have hcz15_1 := c1_ BK460; have hfz15_0 := bF_ BK460.out 0; have hfz15_1 := bF_ BK460.out 1) | (refine goesD_ (some 29) rfl rfl (t := 26) (by rfl) Tryz.func84 (by kernel_rfl) rfl #[.agg #[.bool ((rd_T72 l0 x17_1).f0), .slice A459_1 ((rd_T72 l0 x17_1).f1).length c459_1], .agg #[.bool ((rd_T72 l1 x17_1).f0), .slice A461_1 ((rd_T72 l1 x17_1).f1).length c461_1]] rfl (by (try simp only [sD_, sE_, sF_]); rfl) ?_; (with_reducible refine (iF26.calls k1 ((rd_T72 l0 x17_1).f0) _ _ ((rd_T72 l0 x17_1).f1) ((rd_T72 l1 x17_1).f0) _ _ ((rd_T72 l1 x17_1).f1) true _ ?side1 HC459_1.out ?side3 HC461_1.out A8.out).mono ?_); (case side1 => exact k4_ HR459_1.out (by repeat with_reducible first | exact HB.out | apply bA_ | apply bN_ | apply bD_ | refine bS_ ?_ (Aside0.out ‹_›))); (case side3 => exact k4_ HR461_1.out (by repeat with_reducible first | exact HB.out | apply bA_ | apply bN_ | apply bD_ | refine bS_ ?_ (Aside0.out ‹_›))); rintro e w16 ⟨rfl, hb⟩; refine ⟨_, rfl, ?_⟩; replace BK460 := aM_ (bB_ (g := gb460) (o := .cells #[.bool ((rd_T72 l0 x17_1).f0), .slice A459_1 ((rd_T72 l0 x17_1).f1).length c459_1] 72 (0, 0)) (by exact br_ NB460_462.out (br_ NB460_462.out (BK460.out))) hb); replace BK462 := aM_ (bB_ (g := gb462) (o := .cells #[.bool ((rd_T72 l1 x17_1).f0), .slice A461_1 ((rd_T72 l1 x17_1).f1).length c461_1] 72 (0, 0)) (by refine bP_ (cs := #[.bool ((rd_T72 l1 x17_1).f0), .slice none 0 0]) ?_ 1 _ rfl; refine bP_ (cs := #[.bool false, .slice none 0 0]) ?_ 0 _ rfl; exact BK462.out) hb); replace HB := aM_ (bT_ (by repeat with_reducible first | exact HB.out | apply bA_ | apply bN_ | apply bD_ | refine bS_ ?_ (Aside0.out ‹_›)) hb); (try clear hb)))
   go_roundg k1
   case measure => have := HK1.out; omega
   case rel => exact ⟨(wrap64 (x17_1 + 1)), (by rfl), H', ⟨by have := HK1.out; omega⟩, ⟨HB.out⟩⟩
  replace c9 := Bool.eq_false_iff.mpr c9
  subst c9
  replace H : (some false) = some r := by rw [if_neg (show ¬ (false = true) by decide)] at H; exact H
  obtain rfl := Option.some.inj H
  have p459 : 0 ≤ (x17_1 : Int) := oD_ ‹_›
  have q459 : x17_1 < (l0.length : Int) := oD_ ‹_›
  obtain ⟨ad459, A459_1, c459_1, e459, hx459_0, hx459_1, hl459_1, hi459_1⟩ := at_T72 HR0.out x17_1 p459 q459
  cases e459
  replace hx459_0 := cb_ HB hx459_0
  replace hx459_1 := cb_ HB hx459_1
  have HR459_1 := aM_ hi459_1
  have HC459_1 := aM_ hl459_1
  clear hi459_1 hl459_1
  replace p459 := eq_true p459
  replace q459 := eq_true q459
  go_wp2_with (first | (refine bx_ 8 #[.bool false, .slice none 0 0] 72 ?_; intro gb460 hg w17 hbox hb; have BK460 := aM_ (hbox); have GW460 := gw_ hg HB; replace HB := b4_ HB hb; clear hb hbox hg; have hcz18_0 := c0_ BK460; have hcz18_1 := c1_ BK460; have hfz18_0 := bF_ BK460.out 0; have hfz18_1 := bF_ BK460.out 1; have p461 : 0 ≤ (x17_1 : Int) := oD_ ‹_›; have q461 : x17_1 < (l1.length : Int) := oD_ ‹_›; obtain ⟨ad461, A461_1, c461_1, e461, hx461_0, hx461_1, hl461_1, hi461_1⟩ := at_T72 HR1.out x17_1 p461 q461; cases e461; have hn461_0 : ad461.block ≠ gb460 := Nat.ne_of_lt (Nat.lt_of_lt_of_le (by have := wB_ _ _ hx461_0; rwa [add_block] at this) GW460.out); have hn461_1 : ad461.block ≠ gb460 := Nat.ne_of_lt (Nat.lt_of_lt_of_le (by have := wB_ _ _ hx461_0; rwa [add_block] at this) GW460.out); replace hx461_0 := cb_ HB hx461_0; replace hx461_1 := cb_ HB hx461_1; have HR461_1 := aM_ hi461_1; have HC461_1 := aM_ hl461_1; clear hi461_1 hl461_1; replace hx461_0 := (cF_ (p := ⟨gb460, 0, none⟩) (by (rw [add_block]; exact hn461_0)) (.bool ((rd_T72 l0 x17_1).f0))).trans hx461_0; replace hx461_1 := (cF_ (p := ⟨gb460, 0, none⟩) (by (rw [add_block]; exact hn461_0)) (.bool ((rd_T72 l0 x17_1).f0))).trans hx461_1; replace hx461_0 := (cF_ (p := ⟨gb460, 1, none⟩) (by (rw [add_block]; exact hn461_1)) (.slice A459_1 ((rd_T72 l0 x17_1).f1).length c459_1)).trans hx461_0; replace hx461_1 := (cF_ (p := ⟨gb460, 1, none⟩) (by (rw [add_block]; exact hn461_1)) (.slice A459_1 ((rd_T72 l0 x17_1).f1).length c459_1)).trans hx461_1; clear hn461_0; clear hn461_1; replace p461 := eq_true p461; replace q461 := eq_true q461) | (refine bx_ 9 #[.bool false, .slice none 0 0] 72 ?_; intro gb462 hg w19 hbox hb; have BK462 := aM_ (hbox); have GW462 := aM_ ((by rw [hg]; exact (bZ_ (by repeat with_reducible first | exact HB.out | apply bA_ | apply bN_ | apply bD_ | refine bS_ ?_ GW460.out)) : w.heap.size ≤ gb462)); replace HB := aM_ (bT_ (by repeat with_reducible first | exact HB.out | apply bA_ | apply bN_ | apply bD_ | refine bS_ ?_ GW460.out) hb); have NB460_462 := aM_ ((by rw [hg]; exact Nat.ne_of_lt (bL_ (g := gb460) (o := .cells #[.bool ((rd_T72 l0 x17_1).f0), .slice A459_1 ((rd_T72 l0 x17_1).f1).length c459_1] 72 (0, 0)) (by refine bP_ (cs := #[.bool ((rd_T72 l0 x17_1).f0), .slice none 0 0]) ?_ 1 _ rfl; refine bP_ (cs := #[.bool false, .slice none 0 0]) ?_ 0 _ rfl; exact BK460.out)) : gb460 ≠ gb462)); have NB462_460 := aM_ ((by rw [hg]; exact Nat.ne_of_gt (bL_ (g := gb460) (o := .cells #[.bool ((rd_T72 l0 x17_1).f0), .slice A459_1 ((rd_T72 l0 x17_1).f1).length c459_1] 72 (0, 0)) (by refine bP_ (cs := #[.bool ((rd_T72 l0 x17_1).f0), .slice none 0 0]) ?_ 1 _ rfl; refine bP_ (cs := #[.bool false, .slice none 0 0]) ?_ 0 _ rfl; exact BK460.out)) : gb462 ≠ gb460)); replace BK460 := aM_ (bB_ (g := gb460) (o := .cells #[.bool ((rd_T72 l0 x17_1).f0), .slice A459_1 ((rd_T72 l0 x17_1).f1).length c459_1] 72 (0, 0)) (by refine bP_ (cs := #[.bool ((rd_T72 l0 x17_1).f0), .slice none 0 0]) ?_ 1 _ rfl; refine bP_ (cs := #[.bool false, .slice none 0 0]) ?_ 0 _ rfl; exact BK460.out) hb); clear hb hbox hg; have hnb20 := NB462_460.out; have hnc20 := NB460_462.out; have hcz21_0 := c0_ BK462; have hcz21_1 := c1_ BK462; have hfz21_0 := bF_ BK462.out 0; have hfz21_1 := bF_ BK462.out 1; have hcz22_0 := c0_ BK460; have hcz22_1 := c1_ BK460; have hfz22_0 := bF_ BK460.out 0; have hfz22_1 := bF_ BK460.out 1) | (refine goesD_ (some 29) rfl rfl (t := 26) (by rfl) Tryz.func84 (by kernel_rfl) rfl #[.agg #[.bool ((rd_T72 l0 x17_1).f0), .slice A459_1 ((rd_T72 l0 x17_1).f1).length c459_1], .agg #[.bool ((rd_T72 l1 x17_1).f0), .slice A461_1 ((rd_T72 l1 x17_1).f1).length c461_1]] rfl (by (try simp only [sD_, sE_, sF_]); rfl) ?_; (with_reducible refine (iF26.calls k1 ((rd_T72 l0 x17_1).f0) _ _ ((rd_T72 l0 x17_1).f1) ((rd_T72 l1 x17_1).f0) _ _ ((rd_T72 l1 x17_1).f1) false _ ?side1 HC459_1.out ?side3 HC461_1.out A8.out).mono ?_); (case side1 => exact k4_ HR459_1.out (by repeat with_reducible first | exact HB.out | apply bA_ | apply bN_ | apply bD_ | refine bS_ ?_ (Aside0.out ‹_›))); (case side3 => exact k4_ HR461_1.out (by repeat with_reducible first | exact HB.out | apply bA_ | apply bN_ | apply bD_ | refine bS_ ?_ (Aside0.out ‹_›))); rintro e w23 ⟨rfl, hb⟩; refine ⟨_, rfl, ?_⟩; replace BK460 := aM_ (bB_ (g := gb460) (o := .cells #[.bool ((rd_T72 l0 x17_1).f0), .slice A459_1 ((rd_T72 l0 x17_1).f1).length c459_1] 72 (0, 0)) (by exact br_ NB460_462.out (br_ NB460_462.out (BK460.out))) hb); replace BK462 := aM_ (bB_ (g := gb462) (o := .cells #[.bool ((rd_T72 l1 x17_1).f0), .slice A461_1 ((rd_T72 l1 x17_1).f1).length c461_1] 72 (0, 0)) (by refine bP_ (cs := #[.bool ((rd_T72 l1 x17_1).f0), .slice none 0 0]) ?_ 1 _ rfl; refine bP_ (cs := #[.bool false, .slice none 0 0]) ?_ 0 _ rfl; exact BK462.out) hb); replace HB := aM_ (bT_ (by repeat with_reducible first | exact HB.out | apply bA_ | apply bN_ | apply bD_ | refine bS_ ?_ (Aside0.out ‹_›)) hb); (try clear hb)))
  go_ret
  exact ⟨by rfl, by exact HB.out⟩
end Go.Proofs.YtnnkedeohfbkeaaGreatDoor.P
namespace Go.Proofs.YtnnkedeohfbkeaaGreatDoor.P
open Go.RowKit Go.Proofs.YtnnkedeohfbkeaaGreatDoorW.PrintWords Go.Proofs.YtnnkedeohfbkeaaGreatDoorW.PrintLast Go.Proofs.YtnnkedeohfbkeaaGreatDoorW.PrintMore
attribute [local go_sem] max2_int min2_int max_two min_two max_three min_three max_four min_four
open Go.Maps
namespace SM
theorem law : Keyed Tryz.prog 9 := string_keyed Tryz.underlying9
theorem zeroE (w : World) : (zeroValue 3).run Tryz.prog w = .ok (.int .i64 0) w := by kernel_rfl
noncomputable abbrev elem : Value → Option (DataW Unit × List MemPlace) := plainElem Tryz.prog 3
def dat : List ByteArray → DataW Unit
 | [] => .map []
 | x :: r => (dat r).put (.string x.data.toList) (.lit (.int .i64 (r.length : Int)))
def atR : List ByteArray → ByteArray → Int
 | [], _ => 0
 | x :: r, p => if x.data.toList = p.data.toList then (r.length : Int) else atR r p
def at_ (l : List ByteArray) (p : ByteArray) : Int := atR l.reverse p
theorem isMap : ∀ l, IsMap (dat l)
 | [] => ⟨[], rfl⟩
 | x :: r => by
  obtain ⟨es, h⟩ := isMap r
  rw [dat, h]
  exact ⟨_, rfl⟩
theorem dat_at : ∀ (l : List ByteArray) (p : ByteArray), (dat l).atKey (.string p.data.toList) (.lit (.int .i64 0)) = .lit (.int .i64 (atR l p))
 | [], _ => rfl
 | x :: r, p => by
  by_cases h : x.data.toList = p.data.toList
  ·
   rw [atR, if_pos h, dat, h]
   exact atKey_put_same (isMap r) (show Go.WideAt.IsKeyLit (.string _) from trivial) _ _
  rw [atR, if_neg h, dat]
  refine (atKey_put_other (fun e => h ?_) _ _).trans (dat_at r p)
  injection e with e
  exact e.symm
def Is (w : World) (b : Nat) (l : List ByteArray) : Prop := w.ownsMap Tryz.prog 9 elem b l.length (dat l.reverse)
theorem Is.made (w : World) : Is (w.alloc (.map #[] 0)) w.heap.size [] := World.ownsMap_made w _ _ _
theorem Is.obj {w : World} {b : Nat} {l : List ByteArray} (h : Is w b l) : ∃ es ck, w.heap[b]? = some (.map es ck) := by
 obtain ⟨es, ck, hb, _⟩ := h
 exact ⟨es, ck, hb⟩
theorem Is.moved {w w1 : World} {b : Nat} {l : List ByteArray} (h : Is w b l) (e : w1.heap[b]? = w.heap[b]?) : Is w1 b l := by
 obtain ⟨es, ck, hb, F, hs, hD⟩ := h
 exact ⟨es, ck, e.trans hb, F, hs, hD⟩
theorem Is.lt {w : World} {b : Nat} {l : List ByteArray} (h : Is w b l) : b < w.heap.size := World.ownsMap.lt h
theorem Is.below {w w1 : World} {b : Nat} {l : List ByteArray} (h : Is w b l) (hb : Below w.heap.size w w1) : Is w1 b l := h.moved (hb.block b h.lt)
theorem Is.alloc {w : World} {b : Nat} {l : List ByteArray} (h : Is w b l) (o : Obj) : Is (w.alloc o) b l := World.ownsMap.alloc h o
theorem Is.drewN {w : World} {b : Nat} {l : List ByteArray} (h : Is w b l) (n : Nat) : Is (w.drewN n) b l := h.moved rfl
theorem Is.drew {w : World} {b : Nat} {l : List ByteArray} (h : Is w b l) : Is w.drew b l := h.moved rfl
theorem Is.far {w : World} {b : Nat} {l : List ByteArray} (h : Is w b l) {p : Addr} (hp : b ≠ p.block) (u : Value) : Is (w.setCell p u) b l := h.moved (Below.heap_setCell w p u b hp)
theorem Is.grown {w w1 : World} {b : Nat} {l : List ByteArray} {row : Option Nat} (h : Is w b l) (hg : w.grownBy w1 row) (hne : some b ≠ row) : Is w1 b l := h.moved (hg.block b h.lt hne)
theorem Is.ne {α : Type} {d : Kd α} {e base : Nat} {ok : Nat → Prop} {w : World} {v : Value} {xs : List α} {b : Nat} {l : List ByteArray} (h : Is w b l) (hr : d.R e w base ok v xs) : some b ≠ v.ownBlock := fun e_ => by
 obtain ⟨es, ck, hb⟩ := h.obj
 obtain ⟨cells, hc⟩ := Kd.R_typed hr b e_.symm
 rw [hb] at hc
 cases hc
theorem Is.ne_block {w : World} {b g t : Nat} {cs : Array Value} {l : List ByteArray} (h : Is w b l) (hc : w.heap[g]? = some (.cells cs t (0, 0))) : b ≠ g := fun e_ => by
 obtain ⟨es, ck, hb⟩ := h.obj
 subst e_
 rw [hb] at hc
 cases hc
theorem R_over {α : Type} {d : Kd α} {e base : Nat} {ok : Nat → Prop} {w w1 : World} {v : Value} {xs : List α} {b : Nat} {l : List ByteArray} (hr : d.R e w base ok v xs) (h : Is w b l) (hg : w.grownBy w1 (some b)) : d.R e w1 base ok v xs := by
 refine Kd.R_mono (Kd.R_move (Kd.R_bound hr) (fun k hk => hg.block k hk.2.2.1 (fun he => ?_))) (fun _ hk => hk.1)
 obtain ⟨_, _, _, q, hq, cells, hc⟩ := hk
 obtain ⟨es, ck, hb⟩ := h.obj
 cases he
 rw [hb] at hc
 cases hc
theorem put {w : World} {ops : Array Oper} {rest : List Oper} {o : Oper} {a : Act} {Q : Exit → Act → World → Prop} (hg : o.guard = none) (m x v : Operand) (t : TypeId) (ht : Tryz.prog.underlying t = some (.map 9 3)) (hop : o.op = Op.mapUpdate t m x v)
  (b : Nat) (l : List ByteArray) (hm : a.eval m = .map (some b)) (h : Is w b l) (hn : l.length < 4294967296) (p : ByteArray) (hp : p.size ≤ maxLen) (hx : a.eval x = .string p) (hv : a.eval v = .int .i64 (l.length : Int))
  (hK : ∀ w', Is w' b (l ++ [p]) → w.grownBy w' (some b) → wpList Tryz.prog ops Q rest (a.put o.dst undef) w') : wpList Tryz.prog ops Q (o :: rest) a w := by
 refine wpList_mapUpdate_own w hg m x v t hop 9 3 law ht elem b l.length (dat l.reverse) hm h (by unfold maxLen; omega) (.string p) (.int .i64 (l.length : Int)) (.string p.data.toList) hx hv (Go.WideMaps.keyOf_string_mk Tryz.underlying9 hp) (.lit (.int .i64 (l.length : Int))) [] (plainElem_int Tryz.underlying3 (WalkArith.wf_i64 ⟨by omega, by omega⟩)) ?_
 intro w1 h1 h2
 refine hK w1 ?_ h2
 unfold Is
 rw [List.length_append, List.reverse_append]
 show w1.ownsMap _ _ _ b (l.length + 1) ((dat l.reverse).put _ (.lit (.int .i64 (l.reverse.length : Int))))
 rw [List.length_reverse]
 exact h1
theorem get {w : World} {b : Nat} {l : List ByteArray} (h : Is w b l) (t : TypeId) (ht : Tryz.prog.underlying t = some (.map 9 3)) (p : ByteArray) (hp : p.size ≤ maxLen) :
  (Instr.lookup t (.map (some b)) (.string p) false).run Tryz.prog w = .ok (.int .i64 (at_ l p)) w := by
 obtain ⟨c, hrun, hat, _⟩ := World.ownsMap.lookup_int h law ht Tryz.underlying3 (zeroE w) (Go.WideMaps.keyOf_string_mk Tryz.underlying9 hp)
 rw [dat_at] at hat
 simp only [DataW.lit.injEq, Lit.int.injEq, true_and] at hat
 have e1 : at_ l p = c := hat
 rw [e1]
 exact hrun
def has_ (l : List ByteArray) (p : ByteArray) : Bool := l.any fun x => decide (x.data.toList = p.data.toList)
theorem has_cons (x : ByteArray) (r : List ByteArray) (p : ByteArray) : has_ (x :: r) p = (decide (x.data.toList = p.data.toList) || has_ r p) := rfl
theorem dat_at2 : ∀ (l : List ByteArray) (p : ByteArray) (z : DataW Unit), (dat l).atKey (.string p.data.toList) z = if has_ l p = true then .lit (.int .i64 (atR l p)) else z
 | [], _, _ => rfl
 | x :: r, p, z => by
  by_cases h : x.data.toList = p.data.toList
  ·
   rw [if_pos (by rw [has_cons, decide_eq_true h]; rfl), atR, if_pos h, dat, h]
   exact atKey_put_same (isMap r) (show Go.WideAt.IsKeyLit (.string _) from trivial) _ _
  rw [dat, atR, if_neg h, show has_ (x :: r) p = has_ r p from by rw [has_cons, decide_eq_false h]; rfl]
  refine (atKey_put_other (fun e => h ?_) _ _).trans (dat_at2 r p z)
  injection e with e
  exact e.symm
theorem atR_none : ∀ (l : List ByteArray) (p : ByteArray), has_ l p = false → atR l p = 0
 | [], _, _ => rfl
 | x :: r, p, h => by
  rw [has_cons, Bool.or_eq_false_iff] at h
  rw [atR, if_neg (of_decide_eq_false h.1)]
  exact atR_none r p h.2
theorem get2 {w : World} {b : Nat} {l : List ByteArray} (h : Is w b l) (t : TypeId) (ht : Tryz.prog.underlying t = some (.map 9 3)) (p : ByteArray) (hp : p.size ≤ maxLen) :
  (Instr.lookup t (.map (some b)) (.string p) true).run Tryz.prog w = .ok (.tuple #[.int .i64 (at_ l p), .bool (has_ l p)]) w := by
 have hrev : has_ l.reverse p = has_ l p := List.any_reverse
 obtain ⟨es, ck, hb, F, hs, hD⟩ := h
 rcases Maps.fit_look true law ht (zeroE w) hb F (Go.WideMaps.keyOf_string_mk Tryz.underlying9 hp) with ⟨hrun, _, hat⟩ | ⟨e0, y, _, _, hrun, hRv, hat, _⟩
 ·
  have h0 := hat .nil
  rw [← hD, dat_at2, hrev] at h0
  cases hh : has_ l p with
  | true => rw [hh, if_pos rfl] at h0; cases h0
  | false =>
   have e : at_ l p = 0 := atR_none _ _ (hrev.trans hh)
   rw [e]
   exact hrun
 obtain ⟨c, hc, rfl, _⟩ := plainElem_int_inv Tryz.underlying3 hRv
 have h0 := hat .nil
 rw [← hD, dat_at2, hrev] at h0
 cases hh : has_ l p with
 | true =>
  rw [hh, if_pos rfl] at h0
  simp only [DataW.lit.injEq, Lit.int.injEq, true_and] at h0
  have e : at_ l p = c := h0
  rw [e, ← hc]
  exact hrun
 | false => rw [hh, if_neg Bool.false_ne_true] at h0; cases h0
theorem put_step {w : World} {b : Nat} {l : List ByteArray} (h : Is w b l) (t : TypeId) (ht : Tryz.prog.underlying t = some (.map 9 3)) (hn : l.length < 4294967296) (p : ByteArray) (hp : p.size ≤ maxLen) :
  ∃ w', (Instr.mapUpdate t (.map (some b)) (.string p) (.int .i64 (l.length : Int))).run Tryz.prog w = .ok () w' ∧ Is w' b (l ++ [p]) ∧ w.grownBy w' (some b) := by
 obtain ⟨w', h1, h2, h3⟩ := World.ownsMap.update (val := .int .i64 (l.length : Int)) (d := .lit (.int .i64 (l.length : Int))) (ps := []) h law ht (by unfold maxLen; omega) (Go.WideMaps.keyOf_string_mk Tryz.underlying9 hp) (plainElem_int Tryz.underlying3 (WalkArith.wf_i64 ⟨by omega, by omega⟩))
 refine ⟨w', h1, ?_, h3⟩
 unfold Is
 rw [List.length_append, List.reverse_append]
 show w'.ownsMap _ _ _ b (l.length + 1) ((dat l.reverse).put _ (.lit (.int .i64 (l.reverse.length : Int))))
 rw [List.length_reverse]
 exact h2
theorem made {W : World} {ops : Array Oper} {rest : List Oper} {o : Oper} {a : Act} {Q : Exit → Act → World → Prop} (hgd : o.guard = none) {N : Tmp} (_hd : o.dst = some N)
  (hrun : (execOp a.eval o).run Tryz.prog W = .ok (.value (.map (some W.heap.size))) (W.alloc (.map #[] 0)))
  (h : ∀ g, g = W.heap.size → ∀ w1, Is w1 g [] → Below W.heap.size W w1 → wpList Tryz.prog ops Q rest (a.put o.dst (.map (some g))) w1) : wpList Tryz.prog ops Q (o :: rest) a W :=
 Kd.event_run hgd hrun (h _ rfl _ (Is.made W) (below_alloc (Below.refl _ _) _))
def okL (l : List ByteArray) : Bool := (l.all fun s_ => decide (s_.size ≤ 4294967296)) && decide (l.length ≤ 4294967296)
theorem okL.size {l : List ByteArray} (h : okL l = true) (i : Int) (h0 : 0 ≤ i) (h1 : i < (l.length : Int)) : (rdOf ByteArray.empty l i).size ≤ 4294967296 := by
 unfold okL at h
 rw [Bool.and_eq_true] at h
 have hi : i.toNat < l.length := by omega
 have hm : rdOf ByteArray.empty l i ∈ l := by
  unfold rdOf
  rw [List.getD_eq_getElem?_getD, List.getElem?_eq_getElem hi]
  exact List.getElem_mem _
 simpa using List.all_eq_true.1 h.1 _ hm
theorem okL.len {l : List ByteArray} (h : okL l = true) : l.length ≤ 4294967296 := by
 unfold okL at h
 rw [Bool.and_eq_true] at h
 simpa using h.2
theorem size_ext (s : ByteArray) (i : Nat) (h : s.size ≤ 4294967296) : (s.extract 0 i).size ≤ maxLen := by
 rw [ByteArray.size_extract]
 unfold maxLen
 omega
theorem take_rd (l : List ByteArray) (i : Int) (h0 : 0 ≤ i) (h1 : i < (l.length : Int)) : List.take i.toNat l ++ [rdOf ByteArray.empty l i] = List.take (i.toNat + 1) l := by
 have hi : i.toNat < l.length := by omega
 rw [List.take_succ_eq_append_getElem hi]
 unfold rdOf
 rw [List.getD_eq_getElem?_getD, List.getElem?_eq_getElem hi]
 rfl
theorem next_rd (l : List ByteArray) (i : Int) {lm : List ByteArray} (lm2 : List ByteArray) (h1 : lm2 = lm ++ [rdOf ByteArray.empty l i]) (h2 : lm ++ [rdOf ByteArray.empty l i] = List.take (i.toNat + 1) l) (h3 : (lm.length : Int) = i) (h4 : lm.length < l.length) (h5 : okL l = true) : List.take ((wrap64 (i + 1) : Int).toNat) l = lm2 := by
 have h6 := okL.len h5
 have hw : wrap64 (i + 1) = i + 1 := by unfold wrap64; omega
 rw [hw, h1, h2]
 congr 1
 omega
end SM
end Go.Proofs.YtnnkedeohfbkeaaGreatDoor.P
namespace Go.Proofs.YtnnkedeohfbkeaaGreatDoor.P
open Go.RowKit Go.Proofs.YtnnkedeohfbkeaaGreatDoorW.PrintWords Go.Proofs.YtnnkedeohfbkeaaGreatDoorW.PrintLast Go.Proofs.YtnnkedeohfbkeaaGreatDoorW.PrintMore
attribute [local go_sem] max2_int min2_int max_two min_two max_three min_three max_four min_four
def idxByS {α : Type} (p : α → Bool) : List α → Nat → Int
 | [], _ => -1
 | x :: r, k => if p x = true then (k : Int) else idxByS p r (k + 1)
theorem idxByS_hit {α : Type} (p : α → Bool) (z : α) : ∀ (xs : List α) (k j : Nat), j < xs.length → p (xs.getD j z) = true → (∀ i, i < j → p (xs.getD i z) = false) → idxByS p xs k = ((k + j : Nat) : Int)
 | [], _, _, h, _, _ => absurd h (by simp)
 | x :: r, k, 0, _, hp, _ => by
  have : p x = true := hp
  simp [idxByS, this]
 | x :: r, k, j + 1, h, hp, hn => by
  have h0 : p x = false := hn 0 (by omega)
  have := idxByS_hit p z r (k + 1) j (by simpa using h) (by simpa using hp) (fun i hi => by simpa using hn (i + 1) (by omega))
  simp only [idxByS, h0, Bool.false_eq_true, if_false, this]
  congr 1; omega
theorem idxByS_miss {α : Type} (p : α → Bool) (z : α) : ∀ (xs : List α) (k : Nat), (∀ i, i < xs.length → p (xs.getD i z) = false) → idxByS p xs k = -1
 | [], _, _ => rfl
 | x :: r, k, hn => by
  have h0 : p x = false := hn 0 (by simp)
  simp only [idxByS, h0, Bool.false_eq_true, if_false]
  exact idxByS_miss p z r (k + 1) (fun i hi => by simpa using hn (i + 1) (by simpa using hi))
theorem idxByS_any {α : Type} (p : α → Bool) : ∀ (xs : List α) (k : Nat), decide (idxByS p xs k ≥ 0) = xs.any p
 | [], _ => rfl
 | x :: r, k => by
  cases h : p x
  ·
   simp [idxByS, h, idxByS_any p r (k + 1)]
  simp [idxByS, h]
def PredBS (P : Program) (g : Nat) (lb : Array Value) {α : Type} (enc : α → Value) (p : α → Bool) (l : List α) (w : World) : Prop :=
 ∀ (W : World) (x : α), x ∈ l → Below w.heap.size w W → Calls P g (#[enc x] ++ lb) W fun e W' => e = .returned (.bool (p x)) ∧ Below W.heap.size W W'
set_option maxHeartbeats 2000000 in
theorem xF2.calls_n (p : ByteArray → Bool) (g : Nat) (lb : Array Value) (eg : ∀ args w, (callFunc g args).run Tryz.prog w = .ok (.enter g args) w) (A0 : Option Addr) (n c0 : Nat) (l0 : List ByteArray) (w : World) (hn : Aside0 (l0.length = n))
  (hr0 : Kd.C Kd.string w A0 l0.length l0) (hbig : n ≤ 9223372036854775807) (hp : PredBS Tryz.prog g lb Value.string p l0 w) :
  Calls Tryz.prog 134 #[.slice A0 n c0, .func (.func g) #[] lb] w fun e w' => e = .returned (.int .i64 (idxByS p l0 0)) ∧ Below w.heap.size w w' := by
 have HP := Aside0.mk hp
 have HR := Aside0.mk hr0
 clear hp hr0
 go_enter Tryz.func134, Tryz.ntmps134
 go_wp2
 go_loopg [5, 8] n (fun gg _ s8 wr => ∃ kk : Nat, kk ≤ n ∧ n - kk ≤ gg ∧ s8 = .int .i64 kk ∧ Aside0 (Below w.heap.size w wr) ∧ Aside0 (∀ j, j < kk → p (l0.getD j ByteArray.empty) = false))
 case atStart => exact ⟨0, Nat.zero_le _, by omega, rfl, ⟨Below.refl _ _⟩, ⟨fun j hj => absurd hj (Nat.not_lt_zero _)⟩⟩
 obtain ⟨kk, hkk, hg, rfl, HB, AS⟩ := hrel
 by_cases hlt : kk < n
 rotate_left
 ·
  have hltz : ¬ (kk : Int) < (n : Int) := by omega
  have : kk = n := by omega
  subst this
  go_wp2
  go_ret
  refine ⟨?_, HB.out⟩
  rw [idxByS_miss p ByteArray.empty l0 0 (by rw [hn.out]; exact AS.out)]
  rfl
 have hltz : (kk : Int) < (n : Int) := by omega
 obtain ⟨ad, e0, hx⟩ := Kd.at_string HR.out kk (by omega) (by have := hn.out; omega)
 cases e0
 have hxw := (HB.out.cell (World.block_lt_of_cell? w _ hx)).trans hx
 clear hx
 simp only [Int.toNat_natCast, rdOf] at hxw
 have hmem : l0.getD kk ByteArray.empty ∈ l0 := by
  rw [List.getD_eq_getElem?_getD, List.getElem?_eq_getElem (show kk < l0.length by have := hn.out; omega)]; exact List.getElem_mem _
 generalize hy : l0.getD kk ByteArray.empty = y at hxw hmem
 have BY : Aside0 (l0.getD kk ByteArray.empty = y) := ⟨hy⟩
 clear hy
 have hcall := HP.out wr y hmem HB.out
 clear hmem
 cases hq : p y with
 | true =>
  rw [hq] at hcall
  go_wp2_with fail
  refine hcall.mono ?_
  clear hcall
  rintro e w' ⟨rfl, hb0⟩
  have hb := Aside0.mk hb0
  clear hb0
  go_wp2_with fail
  go_ret
  refine ⟨?_, HB.out.trans (hb.out.mono HB.out.size)⟩
  rw [idxByS_hit p ByteArray.empty l0 0 kk (by have := hn.out; omega) (by rw [BY.out]; exact hq) AS.out]
  simp
 | false =>
  rw [hq] at hcall
  go_wp2_with fail
  refine hcall.mono ?_
  clear hcall
  rintro e w' ⟨rfl, hb0⟩
  have hb := Aside0.mk hb0
  clear hb0
  go_wp2_with fail
  go_roundg (n - (kk + 1))
  case measure => omega
  refine ⟨kk + 1, by omega, by omega, by go_num, ⟨HB.out.trans (hb.out.mono HB.out.size)⟩, ⟨fun j hj => ?_⟩⟩
  by_cases e : j = kk
  ·
   subst e
   rw [BY.out]; exact hq
  exact AS.out j (by omega)
theorem xF2.calls (p : ByteArray → Bool) (g : Nat) (lb : Array Value) (eg : ∀ args w, (callFunc g args).run Tryz.prog w = .ok (.enter g args) w) (A0 : Option Addr) (c0 : Nat) (l0 : List ByteArray) (w : World)
  (hr0 : Kd.C Kd.string w A0 l0.length l0) (hbig : l0.length ≤ 9223372036854775807) (hp : PredBS Tryz.prog g lb Value.string p l0 w) :
  Calls Tryz.prog 134 #[.slice A0 l0.length c0, .func (.func g) #[] lb] w fun e w' => e = .returned (.int .i64 (idxByS p l0 0)) ∧ Below w.heap.size w w' :=
 xF2.calls_n p g lb eg A0 l0.length c0 l0 w ⟨rfl⟩ hr0 hbig hp
end Go.Proofs.YtnnkedeohfbkeaaGreatDoor.P
namespace Go.Proofs.YtnnkedeohfbkeaaGreatDoor.P
open Go.RowKit Go.Proofs.YtnnkedeohfbkeaaGreatDoorW.PrintWords Go.Proofs.YtnnkedeohfbkeaaGreatDoorW.PrintLast Go.Proofs.YtnnkedeohfbkeaaGreatDoorW.PrintMore
attribute [local go_sem] max2_int min2_int max_two min_two max_three min_three max_four min_four
namespace DF
theorem gd {α : Type} (l : List α) (z : α) {j : Nat} (h : j < l.length) : l.getD j z = l[j] := by rw [List.getD_eq_getElem?_getD, List.getElem?_eq_getElem h]; rfl
theorem idx_spec {α : Type} (p : α → Bool) (z : α) : ∀ (xs : List α) (k : Nat), (idxByS p xs k = -1 ∧ ∀ j, j < xs.length → p (xs.getD j z) = false) ∨ ∃ i, i < xs.length ∧ idxByS p xs k = ((k + i : Nat) : Int) ∧ p (xs.getD i z) = true ∧ ∀ j, j < i → p (xs.getD j z) = false
 | [], _ => .inl ⟨rfl, fun j hj => absurd hj (by simp)⟩
 | x :: r, k => by
  cases h : p x with
  | true => exact .inr ⟨0, by simp, by simp [idxByS, h], by simpa using h, fun j hj => absurd hj (Nat.not_lt_zero _)⟩
  | false =>
   rcases idx_spec p z r (k + 1) with ⟨e, ha⟩ | ⟨i, hi, e, ht, ha⟩
   ·
    refine .inl ⟨by simp [idxByS, h, e], fun j hj => ?_⟩
    cases j with
    | zero => simpa using h
    | succ j => simpa using ha j (by simpa using hj)
   refine .inr ⟨i + 1, by simpa using hi, by simp only [idxByS, h]; rw [show (if false = true then (k : Int) else idxByS p r (k + 1)) = idxByS p r (k + 1) from rfl, e]; congr 1; omega, by simpa using ht, fun j hj => ?_⟩
   cases j with
   | zero => simpa using h
   | succ j => simpa using ha j (by omega)
def keep {α : Type} (p : α → Bool) (zs : List α) : List α := zs.filter fun x => !p x
structure Inv {α : Type} (p : α → Bool) (zs : List α) (j i : Nat) (dk : List α) : Prop where
 size : dk.length = zs.length
 low : dk.take i = keep p (zs.take j)
 len : (keep p (zs.take j)).length = i
 lt : i < j
 high : dk.drop j = zs.drop j
theorem keep_self {α : Type} (p : α → Bool) (z : α) (zs : List α) (h : ∀ j, j < zs.length → p (zs.getD j z) = false) : keep p zs = zs := by
 unfold keep
 rw [List.filter_eq_self]
 intro x hx
 obtain ⟨j, hj, rfl⟩ := List.mem_iff_getElem.1 hx
 have := h j hj
 rw [gd _ _ hj] at this
 simp [this]
theorem keep_step {α : Type} (p : α → Bool) (z : α) (zs : List α) (j : Nat) (h : j < zs.length) : keep p (zs.take (j + 1)) = keep p (zs.take j) ++ (if p (zs.getD j z) = true then [] else [zs.getD j z]) := by
 unfold keep
 rw [List.take_succ_eq_append_getElem h, List.filter_append, gd _ _ h]
 congr 1
 cases hq : p zs[j] <;> simp [hq]
theorem Inv.start {α : Type} {p : α → Bool} (z : α) {zs : List α} {i : Nat} (hi : i < zs.length) (ht : p (zs.getD i z) = true) (ha : ∀ j, j < i → p (zs.getD j z) = false) : Inv p zs (i + 1) i zs := by
 have h1 : keep p (zs.take i) = zs.take i := keep_self p z _ (fun j hj => by
  have hj' : j < i := by simp at hj; omega
  have := ha j hj'
  rw [gd _ _ (by omega)] at this
  rw [gd _ _ hj, List.getElem_take]; exact this)
 have h2 : keep p (zs.take (i + 1)) = zs.take i := by rw [keep_step p z zs i hi, h1, if_pos ht, List.append_nil]
 exact ⟨rfl, h2.symm, by rw [h2, List.length_take]; omega, Nat.lt_succ_self _, rfl⟩
theorem Inv.skip {α : Type} {p : α → Bool} (z : α) {zs dk : List α} {j i : Nat} (h : Inv p zs j i dk) (hj : j < zs.length) (hq : p (zs.getD j z) = true) : Inv p zs (j + 1) i dk := by
 have h2 : keep p (zs.take (j + 1)) = keep p (zs.take j) := by rw [keep_step p z zs j hj, if_pos hq, List.append_nil]
 refine ⟨h.size, by rw [h2]; exact h.low, by rw [h2]; exact h.len, by have := h.lt; omega, ?_⟩
 rw [← List.tail_drop, ← List.tail_drop, h.high]
theorem Inv.put {α : Type} {p : α → Bool} (z : α) {zs dk : List α} {j i : Nat} (h : Inv p zs j i dk) (hj : j < zs.length) (hq : p (zs.getD j z) = false) : Inv p zs (j + 1) (i + 1) (dk.set i (zs.getD j z)) := by
 have h2 : keep p (zs.take (j + 1)) = keep p (zs.take j) ++ [zs.getD j z] := by rw [keep_step p z zs j hj, if_neg (by rw [hq]; exact Bool.false_ne_true)]
 have hs := h.size
 have hl := h.lt
 refine ⟨by simpa using h.size, ?_, by rw [h2]; simp [h.len], by omega, ?_⟩
 ·
  have hi : i < dk.length := by omega
  rw [h2, ← h.low]
  rw [List.take_set, List.take_succ_eq_append_getElem hi, List.set_append_right _ _ (by rw [List.length_take]; omega)]
  simp [Nat.min_eq_left (Nat.le_of_lt hi)]
 rw [List.drop_set_of_lt (by omega), ← List.tail_drop, ← List.tail_drop, h.high]
theorem Inv.at {α : Type} {p : α → Bool} (z : α) {zs dk : List α} {j i : Nat} (h : Inv p zs j i dk) (hj : j < zs.length) : dk[j]? = some (zs.getD j z) := by
 have := congrArg (·[0]?) h.high
 simp only [List.getElem?_drop, Nat.add_zero] at this
 rw [this, List.getElem?_eq_getElem hj, gd _ _ hj]
def Row (w : World) (base B c n : Nat) (dk : List ByteArray) : Prop := w.ownsRow base 9 1 (.slice (some ⟨B, 0, none⟩) n c) n (dk.map Value.string)
theorem Row.below {w W : World} {base B c n : Nat} {dk : List ByteArray} (h : Row w base B c n dk) (hb : Below w.heap.size w W) : Row W base B c n dk := by
 obtain ⟨h1, h2⟩ := h
 refine ⟨h1, ?_⟩
 rcases h2 with h2 | ⟨g, cap, cur, hv, hg, hh, r⟩
 ·
  exact .inl h2
 exact .inr ⟨g, cap, cur, hv, hg, (hb.block g (Array.getElem?_eq_some_iff.1 hh).1).trans hh, r⟩
theorem Row.base_le {w : World} {base B c n : Nat} {dk : List ByteArray} (h : Row w base B c n dk) : base ≤ B ∧ B < w.heap.size := by
 rcases h.2 with ⟨h2, _⟩ | ⟨g, cap, cur, hv, hg, hh, r⟩
 ·
  cases h2
 cases hv
 exact ⟨hg, (Array.getElem?_eq_some_iff.1 hh).1⟩
theorem Row.cut {w : World} {base B c n i : Nat} {dk : List ByteArray} (h : Row w base B c n dk) (hi : i < n) : Row (w.setCells B i (List.replicate (n - i) (.string ⟨#[]⟩))) base B c i (dk.take i) := by
 rcases h.2 with ⟨h2, _⟩ | ⟨g, cap, cur, hv, hg, hh, r1, r2, r3, r4⟩
 ·
  cases h2
 cases hv
 simp only [Nat.mul_one] at r3 r4
 obtain ⟨cur', h3, h4, h5⟩ := setCells_row (List.replicate (n - i) (.string ⟨#[]⟩)) i w cur hh (by simp; omega)
 have hl : (dk.map Value.string).length = n * 1 := h.1
 refine ⟨by simp at hl ⊢; omega, .inr ⟨B, c, cur', rfl, hg, h3, by omega, r2, by simp; omega, ?_⟩⟩
 rw [h5, Nat.mul_one, List.append_assoc, List.take_append_of_le_length (by simp; omega), List.take_take, Nat.min_self, List.map_take, ← r4, List.take_take, Nat.min_eq_left (by omega)]
theorem below_setCells {b B i : Nat} (vs : List Value) {w W : World} (h : Below b w W) (hb : b ≤ B) : Below b w (W.setCells B i vs) := by
 obtain ⟨h1, h2, h3, h4⟩ := setCells_same B vs i W
 exact h.trans ⟨h1, h2, h3, by omega, fun k hk => setCells_far vs i k (by omega)⟩
theorem infoS : (Tryz.prog.info? 9).map (fun i => (i.zero, i.size, i.bytes)) = some (some (.string ⟨#[]⟩), 1, 16) := by kernel_rfl
theorem zero_of {P : Program} {t : TypeId} {z : Value} {n b : Nat} (h : (P.info? t).map (fun i => (i.zero, i.size, i.bytes)) = some (some z, n, b)) : ∀ w, (zeroValue t).run P w = .ok z w := by
 obtain ⟨i0, hi, hz0, -, -⟩ := info_parts h
 intro w
 simp [zeroValue, typeInfo, hi, hz0]
theorem zero (w : World) : (zeroValue 9).run Tryz.prog w = .ok (.string ⟨#[]⟩) w := zero_of infoS w
end DF
set_option maxHeartbeats 4000000 in
theorem xF1.calls_n (p : ByteArray → Bool) (g : Nat) (lb : Array Value) (eg : ∀ args w, (callFunc g args).run Tryz.prog w = .ok (.enter g args) w) (ok : Nat → Prop) (base B c n : Nat) (zs : List ByteArray) (w : World) (hn : Aside0 (zs.length = n))
  (hr : Kd.R Kd.string 9 w base ok (.slice (some ⟨B, 0, none⟩) zs.length c) zs) (hbig : zs.length ≤ 9223372036854775807)
  (hp : ∀ W x, x ∈ zs → Kept w W (· = B) → Calls Tryz.prog g (#[.string x] ++ lb) W fun e W' => e = .returned (.bool (p x)) ∧ Below W.heap.size W W') :
  Calls Tryz.prog 118 #[.slice (some ⟨B, 0, none⟩) n c, .func (.func g) #[] lb] w fun e w' => ∃ v, e = .returned v ∧ w'.ownsRow base 9 1 v (DF.keep p zs).length ((DF.keep p zs).map Value.string) ∧ (∀ b, b ≤ base → b ≤ w.heap.size → Below b w w') := by
 have hrow : DF.Row w base B c n zs := by
  have := Kd.own_of_R hr
  rw [hn.out] at this
  exact this
 have hcap : n ≤ c := by
  rcases hrow.2 with ⟨h2, _⟩ | ⟨g, cap, cur, hv, hg, hh, r1, r2, r3, r4⟩
  ·
   cases h2
  cases hv; exact r1
 have hC : Kd.C Kd.string w (some ⟨B, 0, none⟩) zs.length zs := (Kd.R_reads' hr).2.2
 have HI := Aside0.mk (xF2.calls p g lb eg (some ⟨B, 0, none⟩) c zs w hC hbig (fun W x hm hb => hp W x hm (Kept.of_below hb _)))
 have HBB := Aside0.mk hrow.base_le
 have HP := Aside0.mk hp
 rw [hn.out] at HI
 have hn9 : n ≤ 9223372036854775807 := by have := hn.out; omega
 rcases DF.idx_spec p ByteArray.empty zs 0 with ⟨e1, hall⟩ | ⟨k0, hk0, e1, ht, hall⟩
 ·
  rw [e1] at HI
  have HK := Aside0.mk (DF.keep_self p ByteArray.empty zs hall)
  have HROW := Aside0.mk hrow
  clear hp hr hC e1 hall hrow
  go_enter Tryz.func118, Tryz.ntmps118
  go_wp2_with (go_at_call 134; refine HI.out.mono ?_; rintro e w' ⟨rfl, hb0⟩; have hb := Aside0.mk hb0; clear hb0)
  go_ret
  refine ⟨_, rfl, ?_, fun b _ h2 => hb.out.mono h2⟩
  rw [HK.out, hn.out]
  exact HROW.out.below hb.out
 have hk0' : k0 < n := by have := hn.out; omega
 simp only [Nat.zero_add] at e1
 rw [e1] at HI
 have hne1 : ((k0 : Int) == -1) = false := beq_eq_false_iff_ne.2 (by omega)
 have HS := Aside0.mk (DF.Inv.start (p := p) ByteArray.empty hk0 ht hall)
 have HROW := Aside0.mk hrow
 clear hp hr hC e1 ht hall hrow hk0
 go_enter Tryz.func118, Tryz.ntmps118
 go_wp2_with (go_at_call 134; refine HI.out.mono ?_; rintro e w1 ⟨rfl, hb0⟩; have hb := Aside0.mk hb0; clear hb0)
 go_loopg [5, 6, 7] n (fun gg s5 s6 _ wr => ∃ (i j : Nat) (dk : List ByteArray), s5 = .int .i64 i ∧ s6 = .int .i64 j ∧ i < j ∧ j ≤ n ∧ n - j ≤ gg ∧ Aside0 (DF.Row wr base B c n dk) ∧ Aside0 (DF.Inv p zs j i dk) ∧ Aside0 (Kept w wr (· = B)) ∧ Aside0 (∀ b, b ≤ base → b ≤ w.heap.size → Below b w wr))
 case atStart => exact ⟨k0, k0 + 1, zs, rfl, by go_num, by omega, by omega, by omega, ⟨HROW.out.below hb.out⟩, HS, ⟨Kept.of_below hb.out _⟩, ⟨fun b _ h2 => hb.out.mono h2⟩⟩
 obtain ⟨i, j, dk, rfl, rfl, hij, hjn, hgg, RW, IV, KP, BL⟩ := hrel
 by_cases hlt : j < n
 rotate_left
 ·
  have hltz : ¬ (j : Int) < (n : Int) := by omega
  obtain rfl : j = n := by omega
  have hcl : ∀ ty, (Builtin.clear_ #[51] ty #[.slice (some ⟨B, i, none⟩) (j - i) (c - i)]).run Tryz.prog wr = .ok (.tuple #[]) (wr.setCells B i (List.replicate (j - i) (.string ⟨#[]⟩))) :=
   fun ty => Lib.run_clear_slice wr _ _ ty _ Tryz.underlying51 (DF.zero) rfl rfl B i _ _ (by omega) (fun t ht => by
    have h := RW.out.cellAt (i + t) (by omega)
    rw [h, List.getElem?_eq_getElem (by have := IV.out.size; have := hn.out; simp; omega)]; rfl) (fun t ht => RW.out.frozenAt (i + t))
  have RC := Aside0.mk (RW.out.cut hij)
  go_wp2
  go_ret
  refine ⟨_, rfl, ?_, fun b h1 h2 => DF.below_setCells _ (BL.out b h1 h2) (Nat.le_trans h1 HBB.out.1)⟩
  have h1 := IV.out.low
  have h2 := IV.out.len
  rw [show zs.take j = zs from List.take_of_length_le (by have := hn.out; omega)] at h1 h2
  rw [h2, ← h1]
  exact RC.out
 have hltz : (j : Int) < (n : Int) := by omega
 have hinL : (i : Int) < (n : Int) := by omega
 have hjz : j < zs.length := by have := hn.out; omega
 have cj := (RW.out.cellAt j (by omega)).trans (show (dk.map Value.string)[j]? = some (.string (zs.getD j ByteArray.empty)) from by rw [List.getElem?_map, IV.out.at ByteArray.empty hjz]; rfl)
 have hmem : zs.getD j ByteArray.empty ∈ zs := by rw [DF.gd _ _ hjz]; exact List.getElem_mem _
 generalize hu : zs.getD j ByteArray.empty = u at cj hmem
 have C := Aside0.mk hu
 have HZ := Aside0.mk hjz
 clear hu hjz
 have hcall := HP.out wr u hmem KP.out
 clear hmem
 cases hq : p u with
 | false =>
  rw [hq] at hcall
  go_wp2_with fail
  refine hcall.mono ?_
  clear hcall
  rintro e w2 ⟨rfl, hb2⟩
  have RW2 := Aside0.mk (RW.out.below hb2)
  have KP2 := Aside0.mk (KP.out.below hb2)
  have BL2 := Aside0.mk (show ∀ b, b ≤ base → b ≤ w.heap.size → Below b w w2 from fun b h1 h2 => (BL.out b h1 h2).trans (hb2.mono (Nat.le_trans h2 KP.out.1)))
  clear cj hb2
  obtain ⟨old, ho⟩ : ∃ old, dk[i]? = some old := ⟨_, List.getElem?_eq_getElem (by have := IV.out.size; have := hn.out; omega)⟩
  have ci := (RW2.out.cellAt i (by omega)).trans (show (dk.map Value.string)[i]? = some (.string old) from by rw [List.getElem?_map, ho]; rfl)
  have fi := RW2.out.frozenAt i
  have ST := Aside0.mk (RW2.out.stored i (.string u)).1
  clear ho
  go_wp2_with fail
  go_roundg (n - (j + 1))
  case measure => omega
  refine ⟨i + 1, j + 1, dk.set i u, by go_num, by go_num, by omega, by omega, by omega, ⟨?_⟩, ⟨?_⟩, ⟨?_⟩, ⟨?_⟩⟩
  ·
   have := ST.out
   unfold DF.Row
   rw [List.map_set]; exact this
  ·
   have := IV.out.put ByteArray.empty HZ.out (by rw [C.out]; exact hq)
   rwa [C.out] at this
  ·
   exact KP2.out.setCell (.inl rfl) _
  exact fun b h1 h2 => (BL2.out b h1 h2).setCell (Nat.le_trans h1 HBB.out.1) _
 | true =>
  rw [hq] at hcall
  go_wp2_with fail
  refine hcall.mono ?_
  clear hcall
  rintro e w2 ⟨rfl, hb2⟩
  have RW2 := Aside0.mk (RW.out.below hb2)
  have KP2 := Aside0.mk (KP.out.below hb2)
  have BL2 := Aside0.mk (show ∀ b, b ≤ base → b ≤ w.heap.size → Below b w w2 from fun b h1 h2 => (BL.out b h1 h2).trans (hb2.mono (Nat.le_trans h2 KP.out.1)))
  clear cj hb2
  go_wp2_with fail
  go_roundg (n - (j + 1))
  case measure => omega
  case rel => exact ⟨i, j + 1, dk, rfl, by go_num, by omega, by omega, by omega, RW2, ⟨IV.out.skip ByteArray.empty HZ.out (by rw [C.out]; exact hq)⟩, KP2, BL2⟩
set_option maxHeartbeats 1000000 in
theorem xF2.calls_nil (g : Nat) (lb : Array Value) (w : World) :
  Calls Tryz.prog 134 #[.slice none 0 0, .func (.func g) #[] lb] w fun e w' => e = .returned (.int .i64 (-1)) ∧ Below w.heap.size w w' := by
 have HB := Aside0.mk (Below.refl w.heap.size w)
 go_enter Tryz.func134, Tryz.ntmps134
 go_wp2
 go_loopg [5, 8] 0 (fun gg _ s8 wr => s8 = .int .i64 0 ∧ Aside0 (Below w.heap.size w wr))
 case atStart => exact ⟨rfl, HB⟩
 obtain ⟨rfl, HB2⟩ := hrel
 go_wp2
 go_ret
 exact ⟨rfl, HB2.out⟩
set_option maxHeartbeats 1000000 in
theorem xF1.calls_nil (p : ByteArray → Bool) (g : Nat) (lb : Array Value) (eg : ∀ args w, (callFunc g args).run Tryz.prog w = .ok (.enter g args) w) (base : Nat) (w : World) :
  Calls Tryz.prog 118 #[.slice none 0 0, .func (.func g) #[] lb] w fun e w' => ∃ v, e = .returned v ∧ w'.ownsRow base 9 1 v 0 [] ∧ Below w.heap.size w w' := by
 have HI := Aside0.mk (xF2.calls_nil g lb w)
 go_enter Tryz.func118, Tryz.ntmps118
 go_wp2_with fail
 refine HI.out.mono ?_
 rintro e w1 ⟨rfl, hb0⟩
 have hb := Aside0.mk hb0
 clear hb0
 go_wp2_with fail
 go_ret
 exact ⟨_, rfl, World.ownsRow_nil _ _ _ _, hb.out⟩
theorem xF1.calls (p : ByteArray → Bool) (g : Nat) (lb : Array Value) (eg : ∀ args w, (callFunc g args).run Tryz.prog w = .ok (.enter g args) w) (ok : Nat → Prop) (base : Nat) (A : Option Addr) (c : Nat) (zs : List ByteArray) (w : World) (hbw : base ≤ w.heap.size)
  (hr : Kd.R Kd.string 9 w base ok (.slice A zs.length c) zs) (hbig : zs.length ≤ 9223372036854775807)
  (hp : ∀ W x, x ∈ zs → Kept w W (fun k => base ≤ k) → Calls Tryz.prog g (#[.string x] ++ lb) W fun e W' => e = .returned (.bool (p x)) ∧ Below W.heap.size W W') :
  Calls Tryz.prog 118 #[.slice A zs.length c, .func (.func g) #[] lb] w fun e w' => ∃ v, e = .returned v ∧ Kd.R Kd.string 9 w' base (fun _ => True) v (DF.keep p zs) ∧ Below base w w' := by
 rcases (Kd.own_of_R hr).2 with ⟨hv, hz⟩ | ⟨B, cap, cur, hv, hg, hh, r⟩
 ·
  have hzs : zs = [] := List.eq_nil_of_length_eq_zero hz
  subst hzs
  cases hv
  refine (xF1.calls_nil p g lb eg base w).mono ?_
  rintro e w' ⟨v, rfl, hrow, hb⟩
  exact ⟨v, rfl, Kd.R_of_own (h1 := fun _ => rfl) hrow (fun _ _ => trivial), hb.mono hbw⟩
 injection hv with h1 h2 h3
 subst h1
 refine (xF1.calls_n p g lb eg ok base B c zs.length zs w ⟨rfl⟩ hr hbig (fun W x hm hk => hp W x hm (hk.mono (fun k e => e ▸ hg)))).mono ?_
 rintro e w' ⟨v, rfl, hrow, hb⟩
 exact ⟨v, rfl, Kd.R_of_own (h1 := fun _ => rfl) hrow (fun _ _ => trivial), hb base (Nat.le_refl _) hbw⟩
end Go.Proofs.YtnnkedeohfbkeaaGreatDoor.P
namespace Go.Proofs.YtnnkedeohfbkeaaGreatDoor.P
open Go.RowKit Go.Proofs.YtnnkedeohfbkeaaGreatDoorW.PrintWords Go.Proofs.YtnnkedeohfbkeaaGreatDoorW.PrintLast Go.Proofs.YtnnkedeohfbkeaaGreatDoorW.PrintMore
attribute [local go_sem] max2_int min2_int max_two min_two max_three min_three max_four min_four
def filt {α : Type} (f : α → Option Bool) (zs : List α) : Option (List α) := if zs.all (fun x => (f x).isSome) = true then some (zs.filter fun x => (f x).getD false) else none
theorem filt_some {α : Type} {f : α → Option Bool} {zs ys : List α} (h : filt f zs = some ys) : ∃ q : α → Bool, (∀ x, x ∈ zs → f x = some (q x)) ∧ ys = zs.filter q := by
 unfold filt at h
 by_cases c : zs.all (fun x => (f x).isSome) = true
 ·
  rw [if_pos c] at h
  cases h
  refine ⟨fun x => (f x).getD false, fun x hx => ?_, rfl⟩
  have := List.all_eq_true.1 c x hx
  obtain ⟨b, hb⟩ := Option.isSome_iff_exists.1 this
  simp [hb]
 rw [if_neg c] at h; cases h
theorem filt_of {α : Type} {f : α → Option Bool} {zs : List α} (q : α → Bool) (h : ∀ x, x ∈ zs → f x = some (q x)) : filt f zs = some (zs.filter q) := by
 unfold filt
 rw [if_pos (List.all_eq_true.2 fun x hx => by rw [h x hx]; rfl)]
 congr 1
 exact List.filter_congr fun x hx => by rw [h x hx]; rfl
theorem filt_mono {α : Type} {f g : α → Option Bool} (zs : List α) (h : ∀ x, LeO (f x) (g x)) : LeO (filt f zs) (filt g zs) := by
 intro ys hy
 obtain ⟨q, hq, rfl⟩ := filt_some hy
 exact filt_of q fun x hx => h x _ (hq x hx)
def anyf {α : Type} (f : α → Option Bool) (zs : List α) : Option Bool := if zs.all (fun x => (f x).isSome) = true then some (zs.any fun x => (f x).getD false) else none
theorem anyf_some {α : Type} {f : α → Option Bool} {zs : List α} {b : Bool} (h : anyf f zs = some b) : ∃ q : α → Bool, (∀ x, x ∈ zs → f x = some (q x)) ∧ b = zs.any q := by
 unfold anyf at h
 by_cases c : zs.all (fun x => (f x).isSome) = true
 ·
  rw [if_pos c] at h
  cases h
  refine ⟨fun x => (f x).getD false, fun x hx => ?_, rfl⟩
  have := List.all_eq_true.1 c x hx
  obtain ⟨b, hb⟩ := Option.isSome_iff_exists.1 this
  simp [hb]
 rw [if_neg c] at h; cases h
theorem anyf_of {α : Type} {f : α → Option Bool} {zs : List α} (q : α → Bool) (h : ∀ x, x ∈ zs → f x = some (q x)) : anyf f zs = some (zs.any q) := by
 unfold anyf
 rw [if_pos (List.all_eq_true.2 fun x hx => by rw [h x hx]; rfl)]
 congr 1
 rw [Bool.eq_iff_iff, List.any_eq_true, List.any_eq_true]
 exact ⟨fun ⟨x, hx, e⟩ => ⟨x, hx, by rw [h x hx] at e; exact e⟩, fun ⟨x, hx, e⟩ => ⟨x, hx, by rw [h x hx]; exact e⟩⟩
theorem anyf_mono {α : Type} {f g : α → Option Bool} (zs : List α) (h : ∀ x, LeO (f x) (g x)) : LeO (anyf f zs) (anyf g zs) := by
 intro ys hy
 obtain ⟨q, hq, rfl⟩ := anyf_some hy
 exact anyf_of q fun x hx => h x _ (hq x hx)
def sumf {α : Type} (f : α → Option Int) : List α → Int → Option Int
 | [], a => some a
 | x :: r, a => (f x).bind fun v => sumf f r (wrap64 (a + v))
theorem sumf_mono {α : Type} {f g : α → Option Int} (h : ∀ x, LeO (f x) (g x)) : ∀ (zs : List α) (a : Int), LeO (sumf f zs a) (sumf g zs a)
 | [], _ => LeO.refl _
 | x :: r, a => LeO.bind (h x) fun v => sumf_mono h r _
end Go.Proofs.YtnnkedeohfbkeaaGreatDoor.P
namespace Go.Proofs.YtnnkedeohfbkeaaGreatDoor.P
open Go.RowKit Go.Proofs.YtnnkedeohfbkeaaGreatDoorW.PrintWords Go.Proofs.YtnnkedeohfbkeaaGreatDoorW.PrintLast Go.Proofs.YtnnkedeohfbkeaaGreatDoorW.PrintMore
open Go.Proofs.YtnnkedeohfbkeaaGreatDoorW.PrintWords renaming blk_frozen → bF_, blk_cell → bC_, below_set → bS_, blk_below → bB_, below_step → bT_, pw_below_drewN → bN_, below_size → bZ_, below_drew1 → bD_, below_alloc → bA_, blk_far → bR_, gate_callee → gC_, gate_dst → gD_, box_event → bE_, blk_drew → b1_, blk_put → bP_, blk_drewN → b2_, blk_alloc → b3_, blk_lt → bL_, cell_far → cF_
open Go.Proofs.YtnnkedeohfbkeaaGreatDoorW.PrintLast renaming any_of → aO_, i64_w → i6_, i32_w → i3_, take_ofW → tW_
open Go.Proofs.YtnnkedeohfbkeaaGreatDoorW.PrintWords.Kd renaming R_below → kB_, R_mono → kM_, R_far → kF_, R_reads' → kR_, R_types → kT_, R_slice → kS_, R_celln → kC_, R_alloc → k1_, R_drewN → k2_, R_drew → k3_, C_below → k4_, R_lower → k5_, R_ne → k6_, own_blk → k7_
open Go.Proofs.YtnnkedeohfbkeaaGreatDoorW.PrintWords.LeO renaming none → l0_, bind → l1_, ite → l2_, refl → l3_
open World renaming block_lt_of_cell? → wB_
open _root_.Option renaming bind_eq_some_iff → oB_
open _root_.ByteArray renaming empty → eB_
open List renaming setIfInBounds_toArray → sA_, set_cons_zero → sB_, set_cons_succ → sC_, map_toArray → sD_, map_cons → sE_, map_nil → sF_, length_drop → sG_, length_take → sH_
open Bool renaming true → ty, false → fy
open Aside0 renaming mk → aM_
attribute [local go_sem] max2_int min2_int max_two min_two max_three min_three max_four min_four
def xF76.f (a0 : ByteArray) (a1 : ByteArray) : Option (Bool) := if (a0.size : Int) ≥ (a1.size : Int) then (if 0 ≤ (a1.size : Int) then (if (a1.size : Int) ≤ (a0.size : Int) then (some ((a0.extract 0 ((a1.size : Int) : Int).toNat).toList == a1.toList)) else (none)) else (none)) else (some false)
theorem xF76.calls (a0 : ByteArray) (a1 : ByteArray) (r : Bool) (w : World) (h : xF76.f a0 a1 = some r) :
  Calls Tryz.prog 136 #[.string a0, .string a1] w fun e w' => e = .returned (.bool r) ∧ Drawn0 w w' := by
 have H : (if (a0.size : Int) ≥ (a1.size : Int) then (if 0 ≤ (a1.size : Int) then (if (a1.size : Int) ≤ (a0.size : Int) then (some ((a0.extract 0 ((a1.size : Int) : Int).toNat).toList == a1.toList)) else (none)) else (none)) else (some false)) = some r := h
 clear h
 by_cases c3 : (a0.size : Int) ≥ (a1.size : Int)
 rotate_left
 ·
  rw [if_neg c3] at H
  have c3b0 := dF_ c3
  have c3b1 : decide (a1.size ≤ a0.size) = false := dF_ (fun h => c3 (Int.ofNat_le.mpr h))
  clear c3
  obtain rfl := Option.some.inj H
  go_enter Tryz.func136, Tryz.ntmps136
  go_wp2
  go_ret
  exact ⟨by rfl, by repeat (first | exact Drawn0.refl _ | apply Drawn0.step)⟩
 rw [if_pos c3] at H
 have c3b0 := dT_ c3
 have c3b1 : decide (a1.size ≤ a0.size) = true := dT_ (Int.ofNat_le.mp c3)
 clear c3
 by_cases c4 : 0 ≤ (a1.size : Int)
 rotate_left
 ·
  rw [if_neg c4] at H
  exact absurd H (by simp)
 rw [if_pos c4] at H
 have c4b0 := eq_true c4
 have c4b1 := dT_ c4
 clear c4
 by_cases c5 : (a1.size : Int) ≤ (a0.size : Int)
 rotate_left
 ·
  rw [if_neg c5] at H
  exact absurd H (by simp)
 rw [if_pos c5] at H
 have c5b0 := eq_true c5
 have c5b1 := dT_ c5
 clear c5
 obtain rfl := Option.some.inj H
 go_enter Tryz.func136, Tryz.ntmps136
 go_wp2
 go_ret
 exact ⟨by rfl, by repeat (first | exact Drawn0.refl _ | apply Drawn0.step)⟩
def xF75.f (a0 : ByteArray) (a1 : ByteArray) : Option (Bool) := (xF76.f a0 a1).bind fun t390 => (some t390)
theorem xF75.calls (a0 : ByteArray) (a1 : ByteArray) (r : Bool) (w : World) (h : xF75.f a0 a1 = some r) :
  Calls Tryz.prog 120 #[.string a0, .string a1] w fun e w' => e = .returned (.bool r) ∧ Drawn0 w w' := by
 have H : ((xF76.f a0 a1).bind fun t390 => (some t390)) = some r := h
 clear h
 replace H := oB_.mp H
 obtain ⟨t390, A30, H⟩ := H
 try dsimp only at H
 have A3 := aM_ A30
 clear A30
 obtain rfl := Option.some.inj H
 go_enter Tryz.func120, Tryz.ntmps120
 go_wp2_with (first | (refine gs_ 7 Tryz.func136 #[.string a0, .string a1] ?_; (with_reducible refine (xF76.calls a0 a1 t390 _ A3.out).mono ?_); rintro e w' ⟨rfl, ⟨nd, rfl⟩⟩; refine ⟨_, rfl, ?_⟩))
 go_ret
 exact ⟨by rfl, by repeat (first | exact Drawn0.refl _ | apply Drawn0.step)⟩
def iF23.f (a0 : Int) : Option (ByteArray) := some (strOfNums (([(wrap64 (97 + a0)) % 256] : List Int)))
theorem iF23.calls (a0 : Int) (r : ByteArray) (w : World) (h : iF23.f a0 = some r) :
  Calls Tryz.prog 106 #[.int .i64 a0] w fun e w' => e = .returned (.string r) ∧ Below w.heap.size w w' := by
 have HB := aM_ (Below.refl w.heap.size w)
 have H : (some (strOfNums (([(wrap64 (97 + a0)) % 256] : List Int)))) = some r := h
 clear h
 obtain ⟨y355, hy355⟩ : ∃ y_ : List Int, y_ = (([(wrap64 (97 + a0)) % 256] : List Int)) := ⟨_, rfl⟩
 replace H : (some (strOfNums y355)) = some r := by (try rw [hy355]); first | with_reducible exact H | with_reducible exact oS_ H | exact H
 have Ny355 := aM_ hy355
 clear hy355
 obtain rfl := Option.some.inj H
 go_enter Tryz.func106, Tryz.ntmps106
 go_wp2_with (first | ((with_reducible refine gD_ (N := 6) rfl ?_); refine Kd.R_lit (Kd.int .u8) _ 5 ?hg (N := 6) ?hd (xs := ([(wrap64 (97 + a0)) % 256] : List Int)) (inner := [.int .u8 ((wrap64 (97 + a0)) % 256)]) (ok := fun _ => True) (okp := fun _ => True) ?hr ?hp (fun _ hk => hk) trivial (Below.refl _ _) (Nat.le_refl _) (by simp) ?_; (case hd => rfl); (case hg => rfl); (case hr => (go_simp; done)); (case hp => exact (Reps.one (show Kd.M (Kd.int .u8) _ _ _ ((wrap64 (97 + a0)) % 256) [.int .u8 ((wrap64 (97 + a0)) % 256)] from rfl) (Reps.none _ _))); intro v356 w2 ho3 hb hg_ hnew_; clear hg_ hnew_; (rw [← Ny355.out] at ho3); have HO357 := aM_ (k5_ ho3 (bZ_ HB.out)); replace HB := b4_ HB hb; clear hb ho3; have hcv4 := own_string (P := Tryz.prog) Tryz.underlying115 Tryz.underlying5 Tryz.underlying9 (Kd.own_of_R HO357.out)))
 go_ret
 exact ⟨by rfl, by exact HB.out⟩
def iF19.f (a0 : Int) (a1 : Int) (a2 : Int) : Option (Bool) := if a0 ≥ a1 then (some (decide (a0 ≤ a2))) else (some false)
theorem iF19.calls (a0 : Int) (a1 : Int) (a2 : Int) (r : Bool) (w : World) (h : iF19.f a0 a1 a2 = some r) :
  Calls Tryz.prog 70 #[.int .i64 a0, .int .i64 a1, .int .i64 a2] w fun e w' => e = .returned (.bool r) ∧ Drawn0 w w' := by
 have H : (if a0 ≥ a1 then (some (decide (a0 ≤ a2))) else (some false)) = some r := h
 clear h
 by_cases c4 : a0 ≥ a1
 ·
  rw [if_pos c4] at H
  have c4b0 := dT_ c4
  clear c4
  obtain rfl := Option.some.inj H
  go_enter Tryz.func70, Tryz.ntmps70
  go_wp2
  go_ret
  exact ⟨by rfl, by repeat (first | exact Drawn0.refl _ | apply Drawn0.step)⟩
 rw [if_neg c4] at H
 have c4b0 := dF_ c4
 clear c4
 obtain rfl := Option.some.inj H
 go_enter Tryz.func70, Tryz.ntmps70
 go_wp2
 go_ret
 exact ⟨by rfl, by repeat (first | exact Drawn0.refl _ | apply Drawn0.step)⟩
def iF15.l0 : Nat → List ByteArray → List (S96) → Int → Int → Option (List ByteArray × Bool)
 | 0, _, _, _, _ => none
 | k + 1, x4, x15, x16, x17 => if x17 < x16 then (if 0 ≤ x17 then (if x17 < (x15.length : Int) then ((iF19.f ((rd_T96 x15 x17).f1) 0 x17).bind fun t369 => (if t369 = true then ((iF19.f ((rd_T96 x15 x17).f0) 0 25).bind fun t370 => (if t370 = true then (if 0 ≤ ((rd_T96 x15 x17).f1) then (if ((rd_T96 x15 x17).f1) < (x4.length : Int) then ((iF23.f ((rd_T96 x15 x17).f0)).bind fun t372 => (if (rdOf eB_ x4 ((rd_T96 x15 x17).f1)).size + t372.size ≤ 9223372036854775807 then (if x4.length < 8796093022208 then (iF15.l0 k (x4 ++ [(rdOf eB_ x4 ((rd_T96 x15 x17).f1)) ++ t372]) x15 x16 (wrap64 (x17 + 1))) else (none)) else (none))) else (none)) else (none)) else (some (([] : List ByteArray), false)))) else (some (([] : List ByteArray), false)))) else (none)) else (none)) else (some (x4, true))
def iF15.f (k : Nat) (l0_0 : List (S96)) : Option (List ByteArray × Bool) := (iF19.f (l0_0.length : Int) 1 481).bind fun t362 => (if t362 = true then (if 1 ≤ (l0_0.length : Int) then ((some (l0_0.drop 1 : List (S96))).bind fun y363 => (iF15.l0 k (([(⟨#[]⟩ : ByteArray)] : List ByteArray)) y363 (y363.length : Int) 0)) else (none)) else (some (([] : List ByteArray), false)))
theorem iF15.mono_l : ∀ k, (∀ y0 y1 y2 y3, LeO (iF15.l0 k y0 y1 y2 y3) (iF15.l0 (k + 1) y0 y1 y2 y3))
 | 0 => fun _ _ _ _ r h => by simp [iF15.l0] at h
 | k + 1 => by
  have ih0 := iF15.mono_l k
  intro y0 y1 y2 y3
  unfold iF15.l0
  repeat' with_reducible first | exact ih0 _ _ _ _ | exact l3_ _ | exact l0_ _ | refine l2_ ?_ ?_ | refine l1_ ?_ (fun _ => ?_)
theorem iF15.mono : ∀ a0 k, LeO (iF15.f k a0) (iF15.f (k + 1) a0) := by
 intro a0 k
 have ih0 := iF15.mono_l k
 unfold iF15.f
 repeat' with_reducible first | exact ih0 _ _ _ _ | exact l3_ _ | exact l0_ _ | refine l2_ ?_ ?_ | refine l1_ ?_ (fun _ => ?_)
def iF15.T9 : Bool × List (List Nat × List Nat) := (true, [([], []), ([], []), ([], []), ([2], [2]), ([1, 3], [1, 3]), ([4], [4]), ([], []), ([6], [6]), ([7], [7]), ([5, 8], [5, 8]), ([9], [9]), ([0, 10, 8], [0, 10]), ([11, 11, 0, 1, 2, 3, 4, 5, 6, 7, 8, 9, 10, 11], [0, 1, 11])])
def iF15.B9 : List Nat := [0, 0, 0, 4, 14, 30, 0, 64, 192, 510, 1022, 2047, 4095]
theorem iF15.tab9 : rtab .any (opsOf Tryz.f94 9) = iF15.T9 := by kernel_rfl
theorem iF15.bits9 : waitsOk iF15.T9.2 iF15.B9 = true := by kernel_rfl
theorem iF15.calls (k : Nat) (A0_0 : Option Addr) (c0_0 : Nat) (l0_0 : List (S96)) (r1 : List ByteArray) (r2 : Bool) (w : World) (hr0_0 : Kd.C k96 w A0_0 l0_0.length l0_0) (hc0_0 : l0_0.length ≤ c0_0) (h : iF15.f k l0_0 = some (r1, r2)) :
  Calls Tryz.prog 94 #[.agg #[.slice A0_0 l0_0.length c0_0]] w fun e w' => ∃ v0_ : Value, e = .returned (.tuple #[v0_, .bool r2]) ∧ Kd.R Kd.string 9 w' w.heap.size (fun _ => True) v0_ r1 ∧ Below w.heap.size w w' := by
 have hu28 := Tryz.underlying28
 have hu96 := Tryz.underlying96
 have HR0_0 := aM_ hr0_0
 have HC0_0 := aM_ hc0_0
 clear hr0_0 hc0_0
 have HB := aM_ (Below.refl w.heap.size w)
 have H : ((iF19.f (l0_0.length : Int) 1 481).bind fun t362 => (if t362 = true then (if 1 ≤ (l0_0.length : Int) then ((some (l0_0.drop 1 : List (S96))).bind fun y363 => (iF15.l0 k (([(⟨#[]⟩ : ByteArray)] : List ByteArray)) y363 (y363.length : Int) 0)) else (none)) else (some (([] : List ByteArray), false)))) = some (r1, r2) := h
 clear h
 obtain ⟨y359, hy359⟩ : ∃ y_ : List ByteArray, y_ = (([(⟨#[]⟩ : ByteArray)] : List ByteArray)) := ⟨_, rfl⟩
 replace H : ((iF19.f (l0_0.length : Int) 1 481).bind fun t362 => (if t362 = true then (if 1 ≤ (l0_0.length : Int) then ((some (l0_0.drop 1 : List (S96))).bind fun y363 => (iF15.l0 k y359 y363 (y363.length : Int) 0)) else (none)) else (some (([] : List ByteArray), false)))) = some (r1, r2) := by (try rw [hy359]); first | with_reducible exact H | with_reducible exact oS_ H | exact H
 have Ny359 := aM_ hy359
 clear hy359
 replace H := oB_.mp H
 obtain ⟨t362, A20, H⟩ := H
 try dsimp only at H
 have A2 := aM_ A20
 clear A20
 by_cases c3 : t362 = true
 rotate_left
 ·
  replace c3 := Bool.eq_false_iff.mpr c3
  subst c3
  replace H : (some (([] : List ByteArray), false)) = some (r1, r2) := by rw [if_neg (show ¬ (false = true) by decide)] at H; exact H
  simp only [Option.some.injEq, Prod.mk.injEq] at H
  obtain ⟨rfl, rfl⟩ := H
  go_enter Tryz.func94, Tryz.ntmps94
  go_wp2_with (first | (refine bx_ 1 #[.slice A0_0 l0_0.length c0_0] 28 ?_; intro gb358 hg w36 hbox hb; have BK358 := aM_ (hbox); have GW358 := gw_ hg HB; replace HB := b4_ HB hb; clear hb hbox hg) | ((with_reducible refine gD_ (N := 7) rfl ?_); refine Kd.R_lit Kd.string _ 9 ?hg (N := 7) ?hd (xs := ([(⟨#[]⟩ : ByteArray)] : List ByteArray)) (inner := [.string (⟨#[]⟩ : ByteArray)]) (ok := fun _ => True) (okp := fun _ => True) ?hr ?hp (fun _ hk => hk) trivial (Below.refl _ _) (Nat.le_refl _) (by simp) ?_; (case hd => rfl); (case hg => rfl); (case hr => (go_simp; done)); (case hp => exact (Reps.one (show Kd.M Kd.string _ _ _ (⟨#[]⟩ : ByteArray) [.string (⟨#[]⟩ : ByteArray)] from rfl) (Reps.none _ _))); intro v360 w37 ho38 hb hg_ hnew_; clear hg_ hnew_; (rw [← Ny359.out] at ho38); have HO361 := aM_ (k5_ ho38 (bZ_ HB.out)); replace BK358 := b5_ BK358 hb; replace HB := b4_ HB hb; clear hb ho38; have hcz39_0 := c0_ BK358; have hfz39_0 := bF_ BK358.out 0) | (refine gs_ 11 Tryz.func70 #[.int .i64 (l0_0.length : Int), .int .i64 1, .int .i64 481] ?_; (with_reducible refine (iF19.calls (l0_0.length : Int) 1 481 false _ A2.out).mono ?_); rintro e w' ⟨rfl, ⟨nd, rfl⟩⟩; refine ⟨_, rfl, ?_⟩))
  go_ret2
  exact ⟨_, by rfl, by exact Kd.R_nil _ _ _ _ _, by repeat with_reducible first | exact HB.out | apply bA_ | apply bN_ | apply bD_ | refine bS_ ?_ GW358.out⟩
 subst c3
 rw [if_pos rfl] at H
 by_cases c4 : 1 ≤ (l0_0.length : Int)
 rotate_left
 ·
  rw [if_neg c4] at H
  exact absurd H (by simp)
 rw [if_pos c4] at H
 have c4b0 := eq_true c4
 have c4b1 := dT_ c4
 clear c4
 obtain ⟨y363, hy363⟩ : ∃ y_ : List (S96), y_ = (l0_0.drop 1) := ⟨_, rfl⟩
 replace H : (iF15.l0 k y359 y363 (y363.length : Int) 0) = some (r1, r2) := by (try rw [hy363]); first | with_reducible exact H | with_reducible exact oS_ H | exact H
 have Ny363 := aM_ hy363
 clear hy363
 have H' := aM_ H
 clear H
 go_enter Tryz.func94, Tryz.ntmps94
 go_wp2_with (first | (refine bx_ 1 #[.slice A0_0 l0_0.length c0_0] 28 ?_; intro gb358 hg w5 hbox hb; have BK358 := aM_ (hbox); have GW358 := gw_ hg HB; replace HB := b4_ HB hb; clear hb hbox hg) | ((with_reducible refine gD_ (N := 7) rfl ?_); refine Kd.R_lit Kd.string _ 9 ?hg (N := 7) ?hd (xs := ([(⟨#[]⟩ : ByteArray)] : List ByteArray)) (inner := [.string (⟨#[]⟩ : ByteArray)]) (ok := fun _ => True) (okp := fun _ => True) ?hr ?hp (fun _ hk => hk) trivial (Below.refl _ _) (Nat.le_refl _) (by simp) ?_; (case hd => rfl); (case hg => rfl); (case hr => (go_simp; done)); (case hp => exact (Reps.one (show Kd.M Kd.string _ _ _ (⟨#[]⟩ : ByteArray) [.string (⟨#[]⟩ : ByteArray)] from rfl) (Reps.none _ _))); intro v360 w6 ho7 hb hg_ hnew_; clear hg_ hnew_; (rw [← Ny359.out] at ho7); have HO361 := aM_ (k5_ ho7 (bZ_ HB.out)); replace BK358 := b5_ BK358 hb; replace HB := b4_ HB hb; clear hb ho7; have hcz8_0 := c0_ BK358; have hfz8_0 := bF_ BK358.out 0) | (refine gs_ 11 Tryz.func70 #[.int .i64 (l0_0.length : Int), .int .i64 1, .int .i64 481] ?_; (with_reducible refine (iF19.calls (l0_0.length : Int) 1 481 true _ A2.out).mono ?_); rintro e w' ⟨rfl, ⟨nd, rfl⟩⟩; refine ⟨_, rfl, ?_⟩; have q9 : (1 : Int) ≤ ((l0_0.length : Int) : Int) := oD_ ‹_›; obtain ⟨i09, hi09, _, hsz9, _⟩ := info_parts info96; have hroom9 : l0_0.length ≤ c0_0 := HC0_0.out; have hC9 : Kd.C k96 _ A0_0 l0_0.length l0_0 := HR0_0.out; have hcut9 := cut_from (P := Tryz.prog) 26 96 .i64 Tryz.underlying26 hi09 3 hsz9 A0_0 l0_0.length c0_0 1 (by omega) q9; have hr9 := Kd.C_drop (m := (1 : Int).toNat) (c := c0_0) hC9 (by omega) hroom9; obtain ⟨A9, hA9⟩ : ∃ A1, A1 = (if c0_0 = (1 : Int).toNat then A0_0 else (A0_0 : Option Addr).map (·.add ((1 : Int).toNat * 3))) := ⟨_, rfl⟩; obtain ⟨c9, hc9⟩ : ∃ c1, c1 = c0_0 - (1 : Int).toNat := ⟨_, rfl⟩; have hy9 : y363.length = l0_0.length - (1 : Int).toNat := (by rw [Ny363.out, List.length_drop] <;> omega); rw [show (l0_0).drop (1 : Int).toNat = y363 from Ny363.out.symm] at hr9; replace hr9 : Kd.C k96 _ A9 y363.length y363 := (by rw [hA9]; exact hr9); rw [← hy9, ← hA9, ← hc9] at hcut9; have HR366 := aM_ hr9; have HC366 := aM_ (show y363.length ≤ c9 from by rw [hy9, hc9]; exact Nat.sub_le_sub_right hroom9 _); clear hr9 hC9 hroom9 hi09 hsz9 hc9; have KY9 := aM_ hy9; have KA9 := aM_ hA9; clear hy9 hA9; replace q9 := eq_true q9))
 go_loopg [4, 17] k (fun kq v4 v17 w' => ∃ (x4_1 : List ByteArray) (x17_1 : Int), v17 = .int .i64 x17_1 ∧ Aside0 (iF15.l0 kq x4_1 y363 (y363.length : Int) x17_1 = some (r1, r2)) ∧ Aside0 (kq ≤ k) ∧ Aside0 (Kd.R Kd.string 9 w' w.heap.size (fun _ => True) v4 x4_1) ∧ Aside0 (w'.heap[gb358]? = some (.cells #[(.slice A0_0 l0_0.length c0_0)] 28 (0, 0))) ∧ Aside0 (Below w.heap.size w w'))
 case atStart => exact ⟨(y359), (0), (by rfl), H', ⟨Nat.le_refl _⟩, ⟨by (with_reducible repeat (first | apply k1_ | apply k2_ | apply k3_)); exact HO361.out⟩, ⟨by (with_reducible repeat (first | refine b2_ ?_ _ | refine b1_ ?_ | refine b3_ ?_ _)); exact BK358.out⟩, ⟨by repeat with_reducible first | exact HB.out | apply bA_ | apply bN_ | apply bD_ | refine bS_ ?_ GW358.out⟩⟩
 clear H'
 try clear p2
 try clear c4b0
 try clear c4b1
 try clear q9
 try clear hcz8_0
 try clear hfz8_0
 try clear q9
 obtain ⟨x4_1, x17_1, rfl, HA, HK1, HO_4, BK358, HB⟩ := hrel
 cases gk with
 | zero => exact absurd HA.out (by simp [iF15.l0])
 | succ k1 =>
  have H := HA.out
  clear HA
  simp only [iF15.l0] at H
  by_cases c10 : x17_1 < (y363.length : Int)
  rotate_left
  ·
   rw [if_neg c10] at H
   have c10b0 := dF_ c10
   clear c10
   simp only [Option.some.injEq, Prod.mk.injEq] at H
   obtain ⟨rfl, rfl⟩ := H
   go_wp2
   go_ret2
   exact ⟨_, by rfl, by exact HO_4.out, by exact HB.out⟩
  rw [if_pos c10] at H
  have c10b0 := dT_ c10
  clear c10
  by_cases c11 : 0 ≤ x17_1
  rotate_left
  ·
   rw [if_neg c11] at H
   exact absurd H (by simp)
  rw [if_pos c11] at H
  have c11b0 := dT_ c11
  clear c11
  by_cases c12 : x17_1 < (y363.length : Int)
  rotate_left
  ·
   rw [if_neg c12] at H
   exact absurd H (by simp)
  rw [if_pos c12] at H
  have c12b0 := dT_ c12
  clear c12
  replace H := oB_.mp H
  obtain ⟨t369, A130, H⟩ := H
  try dsimp only at H
  have A13 := aM_ A130
  clear A130
  by_cases c14 : t369 = true
  rotate_left
  ·
   replace c14 := Bool.eq_false_iff.mpr c14
   subst c14
   replace H : (some (([] : List ByteArray), false)) = some (r1, r2) := by rw [if_neg (show ¬ (false = true) by decide)] at H; exact H
   simp only [Option.some.injEq, Prod.mk.injEq] at H
   obtain ⟨rfl, rfl⟩ := H
   have p367 : 0 ≤ (x17_1 : Int) := oD_ ‹_›
   have q367 : x17_1 < (y363.length : Int) := oD_ ‹_›
   obtain ⟨ad367, e367, hx367_0, hx367_1, hx367_2⟩ := at_T96 HR366.out x17_1 p367 q367
   cases e367
   replace hx367_0 := cb_ HB hx367_0
   replace hx367_1 := cb_ HB hx367_1
   replace hx367_2 := cb_ HB hx367_2
   replace p367 := eq_true p367
   replace q367 := eq_true q367
   go_wp2_with (first | (refine bx_ 6 #[.int .i64 0, .int .i64 0, .bool false] 96 ?_; intro gb368 hg w33 hbox hb; replace HO_4 := k9_ HO_4 hb; have BK368 := aM_ (hbox); have GW368 := gw_ hg HB; replace HB := b4_ HB hb; have NB358_368 := nb_ hg BK358; have NB368_358 := ns_ NB358_368; replace BK358 := b5_ BK358 hb; clear hb hbox hg; have hnb34 := NB368_358.out; have hnc34 := NB358_368.out; have hcz35_0 := c0_ BK368; have hcz35_1 := c1_ BK368; have hcz35_2 := c2_ BK368; have hfz35_0 := bF_ BK368.out 0; have hfz35_1 := bF_ BK368.out 1; have hfz35_2 := bF_ BK368.out 2) | (refine gs_ 25 Tryz.func70 #[.int .i64 ((rd_T96 y363 x17_1).f1), .int .i64 0, .int .i64 x17_1] ?_; (with_reducible refine (iF19.calls ((rd_T96 y363 x17_1).f1) 0 x17_1 false _ A13.out).mono ?_); rintro e w' ⟨rfl, ⟨nd, rfl⟩⟩; refine ⟨_, rfl, ?_⟩))
   go_ret2
   exact ⟨_, by rfl, by exact Kd.R_nil _ _ _ _ _, by repeat with_reducible first | exact HB.out | apply bA_ | apply bN_ | apply bD_ | refine bS_ ?_ (Aside0.out ‹_›)⟩
  subst c14
  rw [if_pos rfl] at H
  replace H := oB_.mp H
  obtain ⟨t370, A150, H⟩ := H
  try dsimp only at H
  have A15 := aM_ A150
  clear A150
  by_cases c16 : t370 = true
  rotate_left
  ·
   replace c16 := Bool.eq_false_iff.mpr c16
   subst c16
   replace H : (some (([] : List ByteArray), false)) = some (r1, r2) := by rw [if_neg (show ¬ (false = true) by decide)] at H; exact H
   simp only [Option.some.injEq, Prod.mk.injEq] at H
   obtain ⟨rfl, rfl⟩ := H
   have p367 : 0 ≤ (x17_1 : Int) := oD_ ‹_›
   have q367 : x17_1 < (y363.length : Int) := oD_ ‹_›
   obtain ⟨ad367, e367, hx367_0, hx367_1, hx367_2⟩ := at_T96 HR366.out x17_1 p367 q367
   cases e367
   replace hx367_0 := cb_ HB hx367_0
   replace hx367_1 := cb_ HB hx367_1
   replace hx367_2 := cb_ HB hx367_2
   replace p367 := eq_true p367
   replace q367 := eq_true q367
   go_wp2_with (first | (refine bx_ 6 #[.int .i64 0, .int .i64 0, .bool false] 96 ?_; intro gb368 hg w30 hbox hb; replace HO_4 := k9_ HO_4 hb; have BK368 := aM_ (hbox); have GW368 := gw_ hg HB; replace HB := b4_ HB hb; have NB358_368 := nb_ hg BK358; have NB368_358 := ns_ NB358_368; replace BK358 := b5_ BK358 hb; clear hb hbox hg; have hnb31 := NB368_358.out; have hnc31 := NB358_368.out; have hcz32_0 := c0_ BK368; have hcz32_1 := c1_ BK368; have hcz32_2 := c2_ BK368; have hfz32_0 := bF_ BK368.out 0; have hfz32_1 := bF_ BK368.out 1; have hfz32_2 := bF_ BK368.out 2) | (refine gs_ 25 Tryz.func70 #[.int .i64 ((rd_T96 y363 x17_1).f1), .int .i64 0, .int .i64 x17_1] ?_; (with_reducible refine (iF19.calls ((rd_T96 y363 x17_1).f1) 0 x17_1 true _ A13.out).mono ?_); rintro e w' ⟨rfl, ⟨nd, rfl⟩⟩; refine ⟨_, rfl, ?_⟩) | (go_at_call 70; (with_reducible refine (iF19.calls ((rd_T96 y363 x17_1).f0) 0 25 false _ A15.out).mono ?_); rintro e w' ⟨rfl, ⟨nd, rfl⟩⟩))
   go_ret2
   exact ⟨_, by rfl, by exact Kd.R_nil _ _ _ _ _, by repeat with_reducible first | exact HB.out | apply bA_ | apply bN_ | apply bD_ | refine bS_ ?_ (Aside0.out ‹_›)⟩
  subst c16
  rw [if_pos rfl] at H
  by_cases c17 : 0 ≤ ((rd_T96 y363 x17_1).f1)
  rotate_left
  ·
   rw [if_neg c17] at H
   exact absurd H (by simp)
  rw [if_pos c17] at H
  have c17b0 := dT_ c17
  clear c17
  by_cases c18 : ((rd_T96 y363 x17_1).f1) < (x4_1.length : Int)
  rotate_left
  ·
   rw [if_neg c18] at H
   exact absurd H (by simp)
  rw [if_pos c18] at H
  have c18b0 := dT_ c18
  clear c18
  replace H := oB_.mp H
  obtain ⟨t372, A190, H⟩ := H
  try dsimp only at H
  have A19 := aM_ A190
  clear A190
  by_cases c20 : (rdOf eB_ x4_1 ((rd_T96 y363 x17_1).f1)).size + t372.size ≤ 9223372036854775807
  rotate_left
  ·
   rw [if_neg c20] at H
   exact absurd H (by simp)
  rw [if_pos c20] at H
  have c20b0 := eq_true c20
  have c20b1 := dT_ c20
  try have c20b2 : (9223372036854775807 < (rdOf eB_ x4_1 ((rd_T96 y363 x17_1).f1)).size + t372.size) = False := eq_false (Nat.not_lt.2 c20)
  by_cases c21 : x4_1.length < 8796093022208
  rotate_left
  ·
   rw [if_neg c21] at H
   exact absurd H (by simp)
  rw [if_pos c21] at H
  have LMc21 := aM_ c21
  clear c21
  obtain ⟨y373, hy373⟩ : ∃ y_ : List ByteArray, y_ = (x4_1 ++ [(rdOf eB_ x4_1 ((rd_T96 y363 x17_1).f1)) ++ t372]) := ⟨_, rfl⟩
  replace H : (iF15.l0 k1 y373 y363 (y363.length : Int) (wrap64 (x17_1 + 1))) = some (r1, r2) := by (try rw [hy373]); first | with_reducible exact H | with_reducible exact oS_ H | exact H
  have Ny373 := aM_ hy373
  clear hy373
  have H' := aM_ H
  clear H
  have p367 : 0 ≤ (x17_1 : Int) := oD_ ‹_›
  have q367 : x17_1 < (y363.length : Int) := oD_ ‹_›
  obtain ⟨ad367, e367, hx367_0, hx367_1, hx367_2⟩ := at_T96 HR366.out x17_1 p367 q367
  cases e367
  replace hx367_0 := cb_ HB hx367_0
  replace hx367_1 := cb_ HB hx367_1
  replace hx367_2 := cb_ HB hx367_2
  replace p367 := eq_true p367
  replace q367 := eq_true q367
  try go_wp2_with (first | (refine bx_ 6 #[.int .i64 0, .int .i64 0, .bool false] 96 ?_; intro gb368 hg w22 hbox hb; replace HO_4 := k9_ HO_4 hb; have BK368 := aM_ (hbox); have GW368 := gw_ hg HB; replace HB := b4_ HB hb; have NB358_368 := nb_ hg BK358; have NB368_358 := ns_ NB358_368; replace BK358 := b5_ BK358 hb; clear hb hbox hg; have hnb23 := NB368_358.out; have hnc23 := NB358_368.out; have hcz24_0 := c0_ BK368; have hcz24_1 := c1_ BK368; have hcz24_2 := c2_ BK368; have hfz24_0 := bF_ BK368.out 0; have hfz24_1 := bF_ BK368.out 1; have hfz24_2 := bF_ BK368.out 2) | (refine gs_ 25 Tryz.func70 #[.int .i64 ((rd_T96 y363 x17_1).f1), .int .i64 0, .int .i64 x17_1] ?_; (with_reducible refine (iF19.calls ((rd_T96 y363 x17_1).f1) 0 x17_1 true _ A13.out).mono ?_); rintro e w' ⟨rfl, ⟨nd, rfl⟩⟩; refine ⟨_, rfl, ?_⟩) | (go_at_call 70; (with_reducible refine (iF19.calls ((rd_T96 y363 x17_1).f0) 0 25 true _ A15.out).mono ?_); rintro e w' ⟨rfl, ⟨nd, rfl⟩⟩))
  generalize hW_ : (((w22.setCell ⟨gb368, 0, none⟩ (.int .i64 ((rd_T96 y363 x17_1).f0))).setCell ⟨gb368, 1, none⟩ (.int .i64 ((rd_T96 y363 x17_1).f1))).setCell ⟨gb368, 2, none⟩ (.bool ((rd_T96 y363 x17_1).f2))) = w25
  have n0_ : Aside0 (Kd.R Kd.string 9 w25 w.heap.size (fun _ => True) u4 x4_1) := ⟨by subst hW_; exact kM_ (kG_ (kG_ (kG_ (kT_ HO_4.out BK368.out (by decide))))) (fun _ hk => trivial)⟩
  have n1_ : Aside0 (w25.heap[gb358]? = some (.cells #[.slice A0_0 l0_0.length c0_0] 28 (0, 0))) := ⟨by subst hW_; exact br_ NB358_368.out (br_ NB358_368.out (br_ NB358_368.out (BK358.out)))⟩
  have n2_ : Aside0 (w25.heap[gb368]? = some (.cells #[.int .i64 ((rd_T96 y363 x17_1).f0), .int .i64 ((rd_T96 y363 x17_1).f1), .bool ((rd_T96 y363 x17_1).f2)] 96 (0, 0))) := ⟨by subst hW_; refine bP_ (cs := #[.int .i64 ((rd_T96 y363 x17_1).f0), .int .i64 ((rd_T96 y363 x17_1).f1), .bool false]) ?_ 2 _ rfl; refine bP_ (cs := #[.int .i64 ((rd_T96 y363 x17_1).f0), .int .i64 0, .bool false]) ?_ 1 _ rfl; refine bP_ (cs := #[.int .i64 0, .int .i64 0, .bool false]) ?_ 0 _ rfl; exact BK368.out⟩
  have n3_ : Aside0 (Below w.heap.size w w25) := ⟨by subst hW_; repeat with_reducible first | exact HB.out | apply bA_ | apply bN_ | apply bD_ | refine bS_ ?_ (Aside0.out ‹_›)⟩
  (try clear HO_4)
  (try clear BK358)
  (try clear BK368)
  (try clear HB)
  clear hW_
  have HO_4 := n0_
  have BK358 := n1_
  have BK368 := n2_
  have HB := n3_
  clear n0_ n1_ n2_ n3_
  (try (rw [drewN_self w25]; generalize hq_ : World.drewN w25 _ = w25; have n0_ : Aside0 (Kd.R Kd.string 9 w25 w.heap.size (fun _ => True) u4 x4_1) := ⟨by rw [← hq_]; exact (by (with_reducible repeat (first | apply k1_ | apply k2_ | apply k3_)); exact HO_4.out)⟩; have n1_ : Aside0 (w25.heap[gb358]? = some (.cells #[.slice A0_0 l0_0.length c0_0] 28 (0, 0))) := ⟨by rw [← hq_]; exact (by (with_reducible repeat (first | refine b2_ ?_ _ | refine b1_ ?_ | refine b3_ ?_ _)); exact BK358.out)⟩; have n2_ : Aside0 (w25.heap[gb368]? = some (.cells #[.int .i64 ((rd_T96 y363 x17_1).f0), .int .i64 ((rd_T96 y363 x17_1).f1), .bool ((rd_T96 y363 x17_1).f2)] 96 (0, 0))) := ⟨by rw [← hq_]; exact (by (with_reducible repeat (first | refine b2_ ?_ _ | refine b1_ ?_ | refine b3_ ?_ _)); exact BK368.out)⟩; have n3_ : Aside0 (Below w.heap.size w w25) := ⟨by rw [← hq_]; exact (by repeat with_reducible first | exact HB.out | apply bA_ | apply bN_ | apply bD_ | refine bS_ ?_ (Aside0.out ‹_›))⟩; clear HO_4 BK358 BK368 HB hq_; have HO_4 := n0_; have BK358 := n1_; have BK368 := n2_; have HB := n3_; clear n0_ n1_ n2_ n3_))
  have n0_ := aM_ (k3_ HO_4.out)
  have n1_ := aM_ (b1_ BK358.out)
  have n2_ := aM_ (b1_ BK368.out)
  have n3_ := aM_ (bD_ HB.out)
  clear HO_4
  clear BK358
  clear BK368
  clear HB
  have HO_4 := n0_
  have BK358 := n1_
  have BK368 := n2_
  have HB := n3_
  clear n0_ n1_ n2_ n3_
  obtain ⟨Ao27, co27, eo27⟩ := kS_ HO_4.out
  (subst eo27)
  have p371 : 0 ≤ (((rd_T96 y363 x17_1).f1) : Int) := oD_ ‹_›
  have q371 : ((rd_T96 y363 x17_1).f1) < (x4_1.length : Int) := oD_ ‹_›
  obtain ⟨ad371, e371, hx371_0⟩ := Kd.at_string (kR_ HO_4.out).2.2 ((rd_T96 y363 x17_1).f1) p371 q371
  cases e371
  replace p371 := eq_true p371
  replace q371 := eq_true q371
  refine start_ (n := 13) (S := fun w' => w'.cell? ⟨gb368, 0, none⟩ = some (.int .i64 ((rd_T96 y363 x17_1).f0)) ∧ w'.cell? ⟨gb368, 1, none⟩ = some (.int .i64 ((rd_T96 y363 x17_1).f1)) ∧ w'.cell? ⟨gb368, 2, none⟩ = some (.bool ((rd_T96 y363 x17_1).f2)) ∧ w'.cell? (ad371.add (((rd_T96 y363 x17_1).f1)).toNat) = some (.string (rdOf eB_ x4_1 ((rd_T96 y363 x17_1).f1)))) (ds := [10, 11]) #[fy, fy, fy, fy, fy, fy, fy, fy, fy, fy, fy, fy, fy] (by kernel_rfl) rfl rfl ⟨(bC_ BK368.out 0).trans rfl, (bC_ BK368.out 1).trans rfl, (bC_ BK368.out 2).trans rfl, hx371_0⟩ (fun hHeld => ?_); refine with_tabW iF15.tab9 iF15.bits9 (fun HT_ HW_ => ?_)
  generalize w25.drew = w26 at HO_4 BK358 BK368 HB hx371_0 hHeld ⊢
  refine pu_ HT_ 0 33 #[ty, fy, fy, fy, fy, fy, fy, fy, fy, fy, fy, fy, fy] ?_
  refine pu_ HT_ 1 34 #[ty, ty, fy, fy, fy, fy, fy, fy, fy, fy, fy, fy, fy] ?_
  refine pu_ HT_ 2 35 #[ty, ty, ty, fy, fy, fy, fy, fy, fy, fy, fy, fy, fy] ?_
  refine pu_ HT_ 6 39 #[ty, ty, ty, fy, fy, fy, ty, fy, fy, fy, fy, fy, fy] ?_
  refine tk_ HT_ HW_ 3 36 #[ty, ty, ty, ty, fy, fy, ty, fy, fy, fy, fy, fy, fy] hHeld ?_ (hr := by rintro w' ⟨s0, s1, s2, s3⟩; go_simp; with_reducible rfl)
  refine pu_ HT_ 4 37 #[ty, ty, ty, ty, ty, fy, ty, fy, fy, fy, fy, fy, fy] ?_
  refine tk_ HT_ HW_ 5 38 #[ty, ty, ty, ty, ty, ty, ty, fy, fy, fy, fy, fy, fy] hHeld ?_ (hr := by rintro w' ⟨s0, s1, s2, s3⟩; go_simp; with_reducible rfl)
  refine tk_ HT_ HW_ 7 40 #[ty, ty, ty, ty, ty, ty, ty, ty, fy, fy, fy, fy, fy] hHeld ?_ (hr := by rintro w' ⟨s0, s1, s2, s3⟩; go_simp; with_reducible rfl)
  refine one_ (i := 8) (N := some 41) #[ty, ty, ty, ty, ty, ty, ty, ty, ty, fy, fy, fy, fy] rfl rfl (one_of HT_.out (by kernel_rfl)) (by decide) (fun K hK => ?_)
  refine goes_ Tryz.func106 (by kernel_rfl) rfl #[.int .i64 ((rd_T96 y363 x17_1).f0)] (by rfl) rfl rfl (by (try simp only [sD_, sE_, sF_]); rfl) ?_
  with_reducible refine (iF23.calls ((rd_T96 y363 x17_1).f0) t372 _ A19.out).mono ?_
  rintro e w28 ⟨rfl, hb⟩
  have HS3_ := (hb.cell (wB_ _ _ (hHeld.2.2.2))).trans (hHeld.2.2.2)
  refine ⟨_, rfl, ?_⟩
  have n0_ := k9_ HO_4 hb
  have n1_ := b5_ BK358 hb
  have n2_ := b5_ BK368 hb
  have n3_ := b4_ HB hb
  clear HO_4
  clear BK358
  clear BK368
  clear HB
  have HO_4 := n0_
  have BK358 := n1_
  have BK368 := n2_
  have HB := n3_
  clear n0_ n1_ n2_ n3_
  (try clear hb)
  refine hK.out _ _ ⟨(bC_ BK368.out 0).trans rfl, (bC_ BK368.out 1).trans rfl, (bC_ BK368.out 2).trans rfl, HS3_⟩ (fun hHeld => ?_)
  clear hK K
  refine norm_ (by show Act.put _ (some 41) _ = _; simp only [Act.put, sA_, sB_, sC_, i6_, i3_]; rfl) ?_
  refine pu_ HT_ 9 42 #[ty, ty, ty, ty, ty, ty, ty, ty, ty, ty, fy, fy, fy] ?_
  refine last_ (i := 10) (N := some 43) #[ty, ty, ty, ty, ty, ty, ty, ty, ty, ty, ty, fy, fy] rfl rfl (one_of HT_.out (by kernel_rfl)) (by decide) (fun K hK => ?_)
  refine value_ (w1 := ?_) (v := ?_) (by rfl) rfl ?_ ?_
  rotate_left 2
  ·
   go_simp
   constructor
   ·
    rfl
   rfl
  refine hK.out _ _ ?_
  clear hK K
  refine norm_ (by show Act.put _ (some 43) _ = _; simp only [Act.put, sA_, sB_, sC_, i6_, i3_]; rfl) ?_
  refine last_ (i := 11) (N := some 44) #[ty, ty, ty, ty, ty, ty, ty, ty, ty, ty, ty, ty, fy] rfl rfl (one_of HT_.out (by kernel_rfl)) (by decide) (fun K hK => ?_)
  refine Kd.R_append_step Kd.string (w0 := w) w.heap.size (by rfl) (.tmp 33) (.tmp 43) 51 9 (.string ⟨#[]⟩) 16 rfl Tryz.underlying51 info9 rfl (by decide) (by omega) (.slice (some ad371) x4_1.length co27) x4_1 ((rdOf eB_ x4_1 ((rd_T96 y363 x17_1).f1)) ++ t372) [.string ((rdOf eB_ x4_1 ((rd_T96 y363 x17_1).f1)) ++ t372)] (fun _ => True) (fun _ => False) rfl rfl ?aP (fun _ hk => hk.elim) ?aF ?aO ?aB ?aS ?aL ?_
  (case aP => exact rfl)
  (case aB => exact HB.out)
  (case aF => exact (fun _ _ => trivial))
  (case aO => exact HO_4.out)
  (case aS => exact (bZ_ HB.out))
  (case aL => have := LMc21.out; omega)
  intro v374 w29 ho hb hg hat
  rw [← Ny373.out] at ho
  have n0_ := aM_ (blk_grown (g := gb358) (o := .cells #[.slice A0_0 l0_0.length c0_0] 28 (0, 0)) BK358.out hg (k6_ HO_4.out BK358.out (by decide)))
  have n1_ := aM_ (blk_grown (g := gb368) (o := .cells #[.int .i64 ((rd_T96 y363 x17_1).f0), .int .i64 ((rd_T96 y363 x17_1).f1), .bool ((rd_T96 y363 x17_1).f2)] 96 (0, 0)) BK368.out hg (k6_ HO_4.out BK368.out (by decide)))
  have n2_ := aM_ (hb)
  have n3_ := aM_ (ho)
  clear BK358
  clear BK368
  clear HB
  clear HO_4
  have BK358 := n0_
  have BK368 := n1_
  have HB := n2_
  have HO375 := n3_
  clear n0_ n1_ n2_ n3_
  clear ho hb hg hat
  refine hK.out _ _ ?_
  clear hK K
  refine norm_ (by show Act.put _ (some 44) _ = _; simp only [Act.put, sA_, sB_, sC_, i6_, i3_]; rfl) ?_
  refine pu_ HT_ 12 4 #[ty, ty, ty, ty, ty, ty, ty, ty, ty, ty, ty, ty, ty] ?_
  refine done_ (done_of HT_.out (by kernel_rfl)) ?_
  try go_wp2
  go_roundg k1
  case measure => have := HK1.out; omega
  case rel => exact ⟨(y373), (wrap64 (x17_1 + 1)), (by rfl), H', ⟨by have := HK1.out; omega⟩, ⟨HO375.out⟩, ⟨BK358.out⟩, ⟨HB.out⟩⟩
end Go.Proofs.YtnnkedeohfbkeaaGreatDoor.P
