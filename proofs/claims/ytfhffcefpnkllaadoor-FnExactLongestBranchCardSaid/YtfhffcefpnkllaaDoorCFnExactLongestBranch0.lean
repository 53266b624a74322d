/-
  Part 1 of the proof that FnExactLongestBranch returns true for every input: the functions that it reaches, each with its contract, and the law.
  Conditions: those of the given statement, no others.
-/
import Derived.Test.YtfhffcefpnkllaaDoorKaW0
import Derived.Test.YtfhffcefpnkllaaDoorRows
import Derived.WalkKit
import Derived.ProofKit
import Derived.OpenShut
import Derived.ShutString
import Derived.ChangeOld
import Derived.Below
import Derived.SizedLaws
import Derived.Lay
import Derived.LaidOnce
import Derived.SevenTiedAt
import Derived.Test.YtfhffcefpnkllaaDoorCards
import Derived.Test.YtfhffcefpnkllaaDoorTie
import Derived.Test.YtfhffcefpnkllaaDoorKa0
import Derived.Test.YtfhffcefpnkllaaDoorKa1
import Derived.Test.YtfhffcefpnkllaaDoorKa3
import Derived.Test.YtfhffcefpnkllaaDoorKa2
import Derived.Test.YtfhffcefpnkllaaDoorKa4
set_option linter.unusedVariables false
set_option linter.unusedSimpArgs false
set_option maxHeartbeats 8000000
set_option maxRecDepth 100000
namespace Go.Proofs.YtfhffcefpnkllaaDoor.P
open Go.RowKit Go.Proofs.YtfhffcefpnkllaaDoorW.PrintWords Go.Proofs.YtfhffcefpnkllaaDoorW.PrintLast Go.Proofs.YtfhffcefpnkllaaDoorW.PrintMore
open List renaming setIfInBounds_toArray → sA_, set_cons_zero → sB_, set_cons_succ → sC_, map_toArray → sD_, map_cons → sE_, map_nil → sF_, length_drop → sG_, length_take → sH_
open Bool renaming true → ty, false → fy
open Aside0 renaming mk → aM_
attribute [local go_sem] max2_int min2_int max_two min_two max_three min_three max_four min_four
def impl_LongestBranch.l0 : Nat → Int → List (S56) → Int → Int → List (S56) → Option (Int × Bool)
 | 0, _, _, _, _, _ => none
 | k + 1, x4, x11, x12, x13, x539000 => if x13 < x12 then (if 0 ≤ x13 then (if x13 < (x11.length : Int) then (if 0 ≤ x4 then (if x4 < (x539000.length : Int) then (if (((rd_T56 x11 x13).f0).size : Int) > (((rd_T56 x539000 x4).f0).size : Int) then (impl_LongestBranch.l0 k x13 x11 x12 (wrap64 (x13 + 1)) x539000) else (impl_LongestBranch.l0 k x4 x11 x12 (wrap64 (x13 + 1)) x539000)) else (none)) else (none)) else (none)) else (none)) else (some (x4, true))
def impl_LongestBranch.f (k : Nat) (l0_0 : List (S56)) : Option (Int × Bool) := (impl_IsPressed.f k l0_0).bind fun t539 => (if t539 = true then (impl_LongestBranch.l0 k 0 l0_0 (l0_0.length : Int) 0 l0_0) else (some (0, false)))
theorem impl_LongestBranch.mono_l : ∀ k, (∀ y0 y1 y2 y3 y4, LeO (impl_LongestBranch.l0 k y0 y1 y2 y3 y4) (impl_LongestBranch.l0 (k + 1) y0 y1 y2 y3 y4))
 | 0 => fun _ _ _ _ _ r h => by simp [impl_LongestBranch.l0] at h
 | k + 1 => by
  have ih0 := impl_LongestBranch.mono_l k
  ·
   intro y0 y1 y2 y3 y4
   unfold impl_LongestBranch.l0
   repeat' first
   | (with_reducible exact ih0 _ _ _ _ _)
   | (with_reducible exact impl_IsPressed.mono _ _)
   | (with_reducible exact LeO.refl _)
   | (with_reducible exact LeO.none _)
   | (with_reducible refine LeO.ite ?_ ?_)
   | (with_reducible refine LeO.bind ?_ (fun _ => ?_))
   | exact ih0 _ _ _ _ _
   | exact impl_IsPressed.mono _ _
   | exact LeO.none _
   | refine LeO.ite ?_ ?_
   | refine LeO.bind ?_ (fun _ => ?_)
theorem impl_LongestBranch.mono : ∀ a0 k, LeO (impl_LongestBranch.f k a0) (impl_LongestBranch.f (k + 1) a0) := by
 intro a0 k
 have ih0 := impl_LongestBranch.mono_l k
 unfold impl_LongestBranch.f
 repeat' first
   | (with_reducible exact ih0 _ _ _ _ _)
   | (with_reducible exact impl_IsPressed.mono _ _)
   | (with_reducible exact LeO.refl _)
   | (with_reducible exact LeO.none _)
   | (with_reducible refine LeO.ite ?_ ?_)
   | (with_reducible refine LeO.bind ?_ (fun _ => ?_))
   | exact ih0 _ _ _ _ _
   | exact impl_IsPressed.mono _ _
   | exact LeO.none _
   | refine LeO.ite ?_ ?_
   | refine LeO.bind ?_ (fun _ => ?_)
theorem impl_LongestBranch.calls (k : Nat) (A0_0 : Option Addr) (c0_0 : Nat) (l0_0 : List (S56)) (r1 : Int) (r2 : Bool) (w : World) (hr0_0 : Kd.C k56 w A0_0 l0_0.length l0_0) (hc0_0 : l0_0.length ≤ c0_0) (h : impl_LongestBranch.f k l0_0 = some (r1, r2)) :
  Calls Tryd.prog 18 #[.agg #[.slice A0_0 l0_0.length c0_0]] w fun e w' => e = .returned (.tuple #[.int .i64 r1, .bool r2]) ∧ Below w.heap.size w w' := by
 have hu29 := Tryd.underlying29
 have hu56 := Tryd.underlying56
 have HR0_0 := aM_ hr0_0
 have HC0_0 := aM_ hc0_0
 clear hr0_0 hc0_0
 have HB := aM_ (Below.refl w.heap.size w)
 have H : ((impl_IsPressed.f k l0_0).bind fun t539 => (if t539 = true then (impl_LongestBranch.l0 k 0 l0_0 (l0_0.length : Int) 0 l0_0) else (some (0, false)))) = some (r1, r2) := h
 clear h
 replace H := Option.bind_eq_some_iff.mp H
 obtain ⟨t539, A20, H⟩ := H
 try dsimp only at H
 have A2 := aM_ A20
 clear A20
 by_cases c3 : t539 = true
 ·
  subst c3
  rw [if_pos rfl] at H
  have H' := aM_ H
  clear H
  go_enter Tryd.func18, Tryd.ntmps18
  go_wp2_with (first | ((with_reducible refine gate_dst (N := 1) rfl ?_); refine box_event ?hg (N := 1) ?hd (cs := #[.slice A0_0 l0_0.length c0_0]) (t := 29) ?hr ?_; (case hd => rfl); (case hg => rfl); (case hr => (go_simp; done)); intro gb538 hg w4 hbox hb; have BK538 := aM_ (hbox); have GW538 := aM_ ((by rw [hg]; exact (below_size HB.out) : w.heap.size ≤ gb538)); have GE538 := GW538; replace HB := aM_ (below_step HB.out hb); clear hb hbox hg; have hcz5_0 : w4.cell? ⟨gb538, 0, none⟩ = some (.slice A0_0 l0_0.length c0_0) := (blk_cell BK538.out 0).trans rfl; have hfz5_0 := blk_frozen BK538.out 0) | (go_at_call 11; (with_reducible refine (impl_IsPressed.calls k _ _ l0_0 true _ ?side1 ?side2 A2.out).mono ?_); (case side1 => repeat (first | exact (Kd.C_below HR0_0.out HB.out) | (with_reducible refine Kd.C_alloc ?_ _) | (with_reducible refine Kd.C_drewN ?_ _) | (with_reducible refine Kd.C_drew ?_))); (case side2 => exact HC0_0.out); rintro e w6 ⟨rfl, hb⟩; replace BK538 := aM_ (blk_below BK538.out hb); replace HB := aM_ (below_step HB.out hb); (try clear hb); (try clear hb2); (try clear hk); (try clear hi); have hcz7_0 : w6.cell? ⟨gb538, 0, none⟩ = some (.slice A0_0 l0_0.length c0_0) := (blk_cell BK538.out 0).trans rfl; have hfz7_0 := blk_frozen BK538.out 0))
  repeat (go_quiet (first | ((with_reducible refine gate_dst (N := 1) rfl ?_); refine box_event ?hg (N := 1) ?hd (cs := #[.slice A0_0 l0_0.length c0_0]) (t := 29) ?hr ?_; (case hd => rfl); (case hg => rfl); (case hr => first | (go_simp; done) | (go_simp; rfl)); intro gb538 hg w4 hbox hb; have BK538 := aM_ (hbox); have GW538 := aM_ ((by rw [hg]; exact (below_size (by repeat (first | (with_reducible first | exact HB.out | apply below_alloc | apply pw_below_drewN | apply below_drew1) | exact HB.out))) : w.heap.size ≤ gb538)); have GE538 := GW538; replace HB := aM_ (below_step (by repeat (first | (with_reducible first | exact HB.out | apply below_alloc | apply pw_below_drewN | apply below_drew1) | exact HB.out)) hb); clear hb hbox hg; have hcz5_0 : w4.cell? ⟨gb538, 0, none⟩ = some (.slice A0_0 l0_0.length c0_0) := (blk_cell BK538.out 0).trans rfl; have hfz5_0 := blk_frozen BK538.out 0) | (go_at_call 11; (with_reducible refine (impl_IsPressed.calls k _ _ l0_0 true _ ?side1 ?side2 A2.out).mono ?_); (case side1 => repeat (first | exact (Kd.C_below HR0_0.out HB.out) | (with_reducible refine Kd.C_alloc ?_ _) | (with_reducible refine Kd.C_drewN ?_ _) | (with_reducible refine Kd.C_drew ?_))); (case side2 => exact HC0_0.out); rintro e w6 ⟨rfl, hb⟩; replace BK538 := aM_ (blk_below (g := gb538) (o := .cells #[.slice A0_0 l0_0.length c0_0] 29 (0, 0)) (by (with_reducible repeat (first | refine blk_drewN ?_ _ | refine blk_drew ?_ | refine blk_alloc ?_ _)); exact BK538.out) hb); replace HB := aM_ (below_step (by repeat (first | (with_reducible first | exact HB.out | apply below_alloc | apply pw_below_drewN | apply below_drew1 | refine below_set ?_ GE538.out) | exact HB.out)) hb); (try clear hb); (try clear hb2); (try clear hk); (try clear hi); have hcz7_0 : w6.cell? ⟨gb538, 0, none⟩ = some (.slice A0_0 l0_0.length c0_0) := (blk_cell BK538.out 0).trans rfl; have hfz7_0 := blk_frozen BK538.out 0)); try go_wp2_with (first | fail))
  go_loopg [4, 13] k (fun kq v4 v13 w' => ∃ (x4_1 : Int) (x13_1 : Int), v4 = .int .i64 x4_1 ∧ v13 = .int .i64 x13_1 ∧ Aside0 (impl_LongestBranch.l0 kq x4_1 l0_0 (l0_0.length : Int) x13_1 l0_0 = some (r1, r2)) ∧ Aside0 (kq ≤ k) ∧ Aside0 (w'.heap[gb538]? = some (.cells #[(.slice A0_0 l0_0.length c0_0)] 29 (0, 0))) ∧ Aside0 (Below w.heap.size w w'))
  case atStart => exact ⟨(0), (0), (by rfl), (by rfl), H', ⟨Nat.le_refl _⟩, ⟨BK538.out⟩, ⟨HB.out⟩⟩
  case round =>
   clear H'
   try clear c1
   try clear p2
   try clear c3
   try clear hcz5_0
   try clear hcz7_0
   try clear hfz5_0
   try clear hfz7_0
   obtain ⟨x4_1, x13_1, rfl, rfl, HA, HK1, BK538, HB⟩ := hrel
   cases gk with
   | zero => exact absurd HA.out (by simp [impl_LongestBranch.l0])
   | succ k1 =>
    have H := HA.out
    clear HA
    simp only [impl_LongestBranch.l0] at H
    by_cases c8 : x13_1 < (l0_0.length : Int)
    ·
     rw [if_pos c8] at H
     have c8b0 := decide_eq_true c8
     clear c8
     by_cases c9 : 0 ≤ x13_1
     ·
      rw [if_pos c9] at H
      have c9b0 := decide_eq_true c9
      clear c9
      by_cases c10 : x13_1 < (l0_0.length : Int)
      ·
       rw [if_pos c10] at H
       have c10b0 := decide_eq_true c10
       clear c10
       by_cases c11 : 0 ≤ x4_1
       ·
        rw [if_pos c11] at H
        have c11b0 := decide_eq_true c11
        clear c11
        by_cases c12 : x4_1 < (l0_0.length : Int)
        ·
         rw [if_pos c12] at H
         have c12b0 := decide_eq_true c12
         clear c12
         by_cases c13 : (((rd_T56 l0_0 x13_1).f0).size : Int) > (((rd_T56 l0_0 x4_1).f0).size : Int)
         ·
          rw [if_pos c13] at H
          have c13b0 := decide_eq_true c13
          have c13b1 : decide (((rd_T56 l0_0 x4_1).f0).size < ((rd_T56 l0_0 x13_1).f0).size) = true := decide_eq_true (Int.ofNat_lt.mp c13)
          clear c13
          have H' := aM_ H
          clear H
          have p540 : 0 ≤ (x13_1 : Int) := of_decide_eq_true (by (with_reducible assumption))
          have q540 : x13_1 < (l0_0.length : Int) := of_decide_eq_true (by (with_reducible assumption))
          obtain ⟨ad540, e540, hx540_0, hx540_1, hx540_2⟩ := at_T56 HR0_0.out x13_1 p540 q540
          cases e540
          replace hx540_0 := (HB.out.cell (World.block_lt_of_cell? w _ hx540_0)).trans hx540_0
          replace hx540_1 := (HB.out.cell (World.block_lt_of_cell? w _ hx540_1)).trans hx540_1
          replace hx540_2 := (HB.out.cell (World.block_lt_of_cell? w _ hx540_2)).trans hx540_2
          replace p540 := eq_true p540
          replace q540 := eq_true q540
          go_wp2_with (first | ((with_reducible refine gate_dst (N := 6) rfl ?_); refine box_event ?hg (N := 6) ?hd (cs := #[.string (⟨#[]⟩ : ByteArray), .int .i64 0, .bool false]) (t := 56) ?hr ?_; (case hd => rfl); (case hg => rfl); (case hr => (go_simp; done)); intro gb541 hg w14 hbox hb; have BK541 := aM_ (hbox); have GW541 := aM_ ((by rw [hg]; exact (below_size HB.out) : w.heap.size ≤ gb541)); have GE541 := GW541; replace HB := aM_ (below_step HB.out hb); have NB538_541 := aM_ ((by rw [hg]; exact Nat.ne_of_lt (blk_lt BK538.out) : gb538 ≠ gb541)); have NB541_538 := aM_ NB538_541.out.symm; replace BK538 := aM_ (blk_below BK538.out hb); clear hb hbox hg; have hnb15 := NB541_538.out; have hnc15 := NB538_541.out; have hcz16_0 : w14.cell? ⟨gb541, 0, none⟩ = some (.string (⟨#[]⟩ : ByteArray)) := (blk_cell BK541.out 0).trans rfl; have hcz16_1 : w14.cell? ⟨gb541, 1, none⟩ = some (.int .i64 0) := (blk_cell BK541.out 1).trans rfl; have hcz16_2 : w14.cell? ⟨gb541, 2, none⟩ = some (.bool false) := (blk_cell BK541.out 2).trans rfl; have hfz16_0 := blk_frozen BK541.out 0; have hfz16_1 := blk_frozen BK541.out 1; have hfz16_2 := blk_frozen BK541.out 2; have hcz17_0 : w14.cell? ⟨gb538, 0, none⟩ = some (.slice (some ad540) l0_0.length c0_0) := (blk_cell BK538.out 0).trans rfl; have hfz17_0 := blk_frozen BK538.out 0; have p542 : 0 ≤ (x4_1 : Int) := of_decide_eq_true (by (with_reducible assumption)); have q542 : x4_1 < (l0_0.length : Int) := of_decide_eq_true (by (with_reducible assumption)); obtain ⟨ad542, e542, hx542_0, hx542_1, hx542_2⟩ := at_T56 HR0_0.out x4_1 p542 q542; obtain rfl : ad540 = ad542 := (by injection e542); have hn542_0 : ad540.block ≠ gb541 := Nat.ne_of_lt (Nat.lt_of_lt_of_le (by have := World.block_lt_of_cell? _ _ hx542_0; rwa [add_block] at this) GW541.out); have hn542_1 : ad540.block ≠ gb541 := Nat.ne_of_lt (Nat.lt_of_lt_of_le (by have := World.block_lt_of_cell? _ _ hx542_0; rwa [add_block] at this) GW541.out); have hn542_2 : ad540.block ≠ gb541 := Nat.ne_of_lt (Nat.lt_of_lt_of_le (by have := World.block_lt_of_cell? _ _ hx542_0; rwa [add_block] at this) GW541.out); replace hx542_0 := (HB.out.cell (World.block_lt_of_cell? w _ hx542_0)).trans hx542_0; replace hx542_1 := (HB.out.cell (World.block_lt_of_cell? w _ hx542_1)).trans hx542_1; replace hx542_2 := (HB.out.cell (World.block_lt_of_cell? w _ hx542_2)).trans hx542_2; replace hx542_0 := (cell_far (p := ⟨gb541, 0, none⟩) (by (rw [add_block]; exact hn542_0)) (.string ((rd_T56 l0_0 x13_1).f0))).trans hx542_0; replace hx542_1 := (cell_far (p := ⟨gb541, 0, none⟩) (by (rw [add_block]; exact hn542_0)) (.string ((rd_T56 l0_0 x13_1).f0))).trans hx542_1; replace hx542_2 := (cell_far (p := ⟨gb541, 0, none⟩) (by (rw [add_block]; exact hn542_0)) (.string ((rd_T56 l0_0 x13_1).f0))).trans hx542_2; replace hx542_0 := (cell_far (p := ⟨gb541, 1, none⟩) (by (rw [add_block]; exact hn542_1)) (.int .i64 ((rd_T56 l0_0 x13_1).f1))).trans hx542_0; replace hx542_1 := (cell_far (p := ⟨gb541, 1, none⟩) (by (rw [add_block]; exact hn542_1)) (.int .i64 ((rd_T56 l0_0 x13_1).f1))).trans hx542_1; replace hx542_2 := (cell_far (p := ⟨gb541, 1, none⟩) (by (rw [add_block]; exact hn542_1)) (.int .i64 ((rd_T56 l0_0 x13_1).f1))).trans hx542_2; replace hx542_0 := (cell_far (p := ⟨gb541, 2, none⟩) (by (rw [add_block]; exact hn542_2)) (.bool ((rd_T56 l0_0 x13_1).f2))).trans hx542_0; replace hx542_1 := (cell_far (p := ⟨gb541, 2, none⟩) (by (rw [add_block]; exact hn542_2)) (.bool ((rd_T56 l0_0 x13_1).f2))).trans hx542_1; replace hx542_2 := (cell_far (p := ⟨gb541, 2, none⟩) (by (rw [add_block]; exact hn542_2)) (.bool ((rd_T56 l0_0 x13_1).f2))).trans hx542_2; (try have hy542_0 := fun (n_ : Nat) => (show (((((w14.drewN n_).setCell ⟨gb541, 0, none⟩ (.string ((rd_T56 l0_0 x13_1).f0))).setCell ⟨gb541, 1, none⟩ (.int .i64 ((rd_T56 l0_0 x13_1).f1))).setCell ⟨gb541, 2, none⟩ (.bool ((rd_T56 l0_0 x13_1).f2)))).cell? _ = some _ from hx542_0)); (try have hy542_1 := fun (n_ : Nat) => (show (((((w14.drewN n_).setCell ⟨gb541, 0, none⟩ (.string ((rd_T56 l0_0 x13_1).f0))).setCell ⟨gb541, 1, none⟩ (.int .i64 ((rd_T56 l0_0 x13_1).f1))).setCell ⟨gb541, 2, none⟩ (.bool ((rd_T56 l0_0 x13_1).f2)))).cell? _ = some _ from hx542_1)); (try have hy542_2 := fun (n_ : Nat) => (show (((((w14.drewN n_).setCell ⟨gb541, 0, none⟩ (.string ((rd_T56 l0_0 x13_1).f0))).setCell ⟨gb541, 1, none⟩ (.int .i64 ((rd_T56 l0_0 x13_1).f1))).setCell ⟨gb541, 2, none⟩ (.bool ((rd_T56 l0_0 x13_1).f2)))).cell? _ = some _ from hx542_2)); clear hn542_0; clear hn542_1; clear hn542_2; replace p542 := eq_true p542; replace q542 := eq_true q542))
          repeat (go_quiet (first | ((with_reducible refine gate_dst (N := 6) rfl ?_); refine box_event ?hg (N := 6) ?hd (cs := #[.string (⟨#[]⟩ : ByteArray), .int .i64 0, .bool false]) (t := 56) ?hr ?_; (case hd => rfl); (case hg => rfl); (case hr => first | (go_simp; done) | (go_simp; rfl)); intro gb541 hg w14 hbox hb; have BK541 := aM_ (hbox); have GW541 := aM_ ((by rw [hg]; exact (below_size (by repeat (first | (with_reducible first | exact HB.out | apply below_alloc | apply pw_below_drewN | apply below_drew1 | refine below_set ?_ GE538.out) | exact HB.out))) : w.heap.size ≤ gb541)); have GE541 := GW541; replace HB := aM_ (below_step (by repeat (first | (with_reducible first | exact HB.out | apply below_alloc | apply pw_below_drewN | apply below_drew1 | refine below_set ?_ GE538.out) | exact HB.out)) hb); have NB538_541 := aM_ ((by rw [hg]; exact Nat.ne_of_lt (blk_lt (g := gb538) (o := .cells #[.slice (some ad540) l0_0.length c0_0] 29 (0, 0)) (by (with_reducible repeat (first | refine blk_drewN ?_ _ | refine blk_drew ?_ | refine blk_alloc ?_ _)); exact BK538.out)) : gb538 ≠ gb541)); have NB541_538 := aM_ ((by rw [hg]; exact Nat.ne_of_gt (blk_lt (g := gb538) (o := .cells #[.slice (some ad540) l0_0.length c0_0] 29 (0, 0)) (by (with_reducible repeat (first | refine blk_drewN ?_ _ | refine blk_drew ?_ | refine blk_alloc ?_ _)); exact BK538.out)) : gb541 ≠ gb538)); replace BK538 := aM_ (blk_below (g := gb538) (o := .cells #[.slice (some ad540) l0_0.length c0_0] 29 (0, 0)) (by (with_reducible repeat (first | refine blk_drewN ?_ _ | refine blk_drew ?_ | refine blk_alloc ?_ _)); exact BK538.out) hb); clear hb hbox hg; have hnb15 := NB541_538.out; have hnc15 := NB538_541.out; have hcz16_0 : w14.cell? ⟨gb541, 0, none⟩ = some (.string (⟨#[]⟩ : ByteArray)) := (blk_cell BK541.out 0).trans rfl; have hcz16_1 : w14.cell? ⟨gb541, 1, none⟩ = some (.int .i64 0) := (blk_cell BK541.out 1).trans rfl; have hcz16_2 : w14.cell? ⟨gb541, 2, none⟩ = some (.bool false) := (blk_cell BK541.out 2).trans rfl; have hfz16_0 := blk_frozen BK541.out 0; have hfz16_1 := blk_frozen BK541.out 1; have hfz16_2 := blk_frozen BK541.out 2; have hcz17_0 : w14.cell? ⟨gb538, 0, none⟩ = some (.slice (some ad540) l0_0.length c0_0) := (blk_cell BK538.out 0).trans rfl; have hfz17_0 := blk_frozen BK538.out 0; have p542 : 0 ≤ (x4_1 : Int) := of_decide_eq_true (by first | (with_reducible assumption) | assumption); have q542 : x4_1 < (l0_0.length : Int) := of_decide_eq_true (by first | (with_reducible assumption) | assumption); obtain ⟨ad542, e542, hx542_0, hx542_1, hx542_2⟩ := at_T56 HR0_0.out x4_1 p542 q542; obtain rfl : ad540 = ad542 := (by injection e542); have hn542_0 : ad540.block ≠ gb541 := Nat.ne_of_lt (Nat.lt_of_lt_of_le (by have := World.block_lt_of_cell? _ _ hx542_0; first | rwa [add_block] at this | exact this) GW541.out); have hn542_1 : ad540.block ≠ gb541 := Nat.ne_of_lt (Nat.lt_of_lt_of_le (by have := World.block_lt_of_cell? _ _ hx542_0; first | rwa [add_block] at this | exact this) GW541.out); have hn542_2 : ad540.block ≠ gb541 := Nat.ne_of_lt (Nat.lt_of_lt_of_le (by have := World.block_lt_of_cell? _ _ hx542_0; first | rwa [add_block] at this | exact this) GW541.out); replace hx542_0 := (HB.out.cell (World.block_lt_of_cell? w _ hx542_0)).trans hx542_0; replace hx542_1 := (HB.out.cell (World.block_lt_of_cell? w _ hx542_1)).trans hx542_1; replace hx542_2 := (HB.out.cell (World.block_lt_of_cell? w _ hx542_2)).trans hx542_2; replace hx542_0 := (cell_far (p := ⟨gb541, 0, none⟩) (by first | (rw [add_block]; exact hn542_0) | (show (Addr.add _ _).block ≠ _; rw [add_block]; exact hn542_0) | exact hn542_0) (.string ((rd_T56 l0_0 x13_1).f0))).trans hx542_0; replace hx542_1 := (cell_far (p := ⟨gb541, 0, none⟩) (by first | (rw [add_block]; exact hn542_0) | (show (Addr.add _ _).block ≠ _; rw [add_block]; exact hn542_0) | exact hn542_0) (.string ((rd_T56 l0_0 x13_1).f0))).trans hx542_1; replace hx542_2 := (cell_far (p := ⟨gb541, 0, none⟩) (by first | (rw [add_block]; exact hn542_0) | (show (Addr.add _ _).block ≠ _; rw [add_block]; exact hn542_0) | exact hn542_0) (.string ((rd_T56 l0_0 x13_1).f0))).trans hx542_2; replace hx542_0 := (cell_far (p := ⟨gb541, 1, none⟩) (by first | (rw [add_block]; exact hn542_1) | (show (Addr.add _ _).block ≠ _; rw [add_block]; exact hn542_1) | exact hn542_1) (.int .i64 ((rd_T56 l0_0 x13_1).f1))).trans hx542_0; replace hx542_1 := (cell_far (p := ⟨gb541, 1, none⟩) (by first | (rw [add_block]; exact hn542_1) | (show (Addr.add _ _).block ≠ _; rw [add_block]; exact hn542_1) | exact hn542_1) (.int .i64 ((rd_T56 l0_0 x13_1).f1))).trans hx542_1; replace hx542_2 := (cell_far (p := ⟨gb541, 1, none⟩) (by first | (rw [add_block]; exact hn542_1) | (show (Addr.add _ _).block ≠ _; rw [add_block]; exact hn542_1) | exact hn542_1) (.int .i64 ((rd_T56 l0_0 x13_1).f1))).trans hx542_2; replace hx542_0 := (cell_far (p := ⟨gb541, 2, none⟩) (by first | (rw [add_block]; exact hn542_2) | (show (Addr.add _ _).block ≠ _; rw [add_block]; exact hn542_2) | exact hn542_2) (.bool ((rd_T56 l0_0 x13_1).f2))).trans hx542_0; replace hx542_1 := (cell_far (p := ⟨gb541, 2, none⟩) (by first | (rw [add_block]; exact hn542_2) | (show (Addr.add _ _).block ≠ _; rw [add_block]; exact hn542_2) | exact hn542_2) (.bool ((rd_T56 l0_0 x13_1).f2))).trans hx542_1; replace hx542_2 := (cell_far (p := ⟨gb541, 2, none⟩) (by first | (rw [add_block]; exact hn542_2) | (show (Addr.add _ _).block ≠ _; rw [add_block]; exact hn542_2) | exact hn542_2) (.bool ((rd_T56 l0_0 x13_1).f2))).trans hx542_2; (try have hy542_0 := fun (n_ : Nat) => (show (((((w14.drewN n_).setCell ⟨gb541, 0, none⟩ (.string ((rd_T56 l0_0 x13_1).f0))).setCell ⟨gb541, 1, none⟩ (.int .i64 ((rd_T56 l0_0 x13_1).f1))).setCell ⟨gb541, 2, none⟩ (.bool ((rd_T56 l0_0 x13_1).f2)))).cell? _ = some _ from hx542_0)); (try have hy542_1 := fun (n_ : Nat) => (show (((((w14.drewN n_).setCell ⟨gb541, 0, none⟩ (.string ((rd_T56 l0_0 x13_1).f0))).setCell ⟨gb541, 1, none⟩ (.int .i64 ((rd_T56 l0_0 x13_1).f1))).setCell ⟨gb541, 2, none⟩ (.bool ((rd_T56 l0_0 x13_1).f2)))).cell? _ = some _ from hx542_1)); (try have hy542_2 := fun (n_ : Nat) => (show (((((w14.drewN n_).setCell ⟨gb541, 0, none⟩ (.string ((rd_T56 l0_0 x13_1).f0))).setCell ⟨gb541, 1, none⟩ (.int .i64 ((rd_T56 l0_0 x13_1).f1))).setCell ⟨gb541, 2, none⟩ (.bool ((rd_T56 l0_0 x13_1).f2)))).cell? _ = some _ from hx542_2)); clear hn542_0; clear hn542_1; clear hn542_2; replace p542 := eq_true p542; replace q542 := eq_true q542)); try go_wp2_with (first | fail))
          go_roundg k1
          case measure => have := HK1.out; omega
          case rel => exact ⟨(x13_1), (wrap64 (x13_1 + 1)), (by rfl), (by rfl), H', ⟨by have := HK1.out; omega⟩, ⟨by (with_reducible repeat (first | refine blk_drewN ?_ _ | refine blk_drew ?_ | refine blk_alloc ?_ _)); refine blk_far ?_ NB538_541.out _; refine blk_far ?_ NB538_541.out _; refine blk_far ?_ NB538_541.out _; exact BK538.out⟩, ⟨by repeat (first | (with_reducible first | exact HB.out | apply below_alloc | apply pw_below_drewN | apply below_drew1 | refine below_set ?_ GE538.out | refine below_set ?_ GE541.out) | exact HB.out)⟩⟩
         ·
          rw [if_neg c13] at H
          have c13b0 := decide_eq_false c13
          have c13b1 : decide (((rd_T56 l0_0 x4_1).f0).size < ((rd_T56 l0_0 x13_1).f0).size) = false := decide_eq_false (fun h => c13 (Int.ofNat_lt.mpr h))
          clear c13
          have H' := aM_ H
          clear H
          have p540 : 0 ≤ (x13_1 : Int) := of_decide_eq_true (by (with_reducible assumption))
          have q540 : x13_1 < (l0_0.length : Int) := of_decide_eq_true (by (with_reducible assumption))
          obtain ⟨ad540, e540, hx540_0, hx540_1, hx540_2⟩ := at_T56 HR0_0.out x13_1 p540 q540
          cases e540
          replace hx540_0 := (HB.out.cell (World.block_lt_of_cell? w _ hx540_0)).trans hx540_0
          replace hx540_1 := (HB.out.cell (World.block_lt_of_cell? w _ hx540_1)).trans hx540_1
          replace hx540_2 := (HB.out.cell (World.block_lt_of_cell? w _ hx540_2)).trans hx540_2
          replace p540 := eq_true p540
          replace q540 := eq_true q540
          go_wp2_with (first | ((with_reducible refine gate_dst (N := 6) rfl ?_); refine box_event ?hg (N := 6) ?hd (cs := #[.string (⟨#[]⟩ : ByteArray), .int .i64 0, .bool false]) (t := 56) ?hr ?_; (case hd => rfl); (case hg => rfl); (case hr => (go_simp; done)); intro gb541 hg w18 hbox hb; have BK541 := aM_ (hbox); have GW541 := aM_ ((by rw [hg]; exact (below_size HB.out) : w.heap.size ≤ gb541)); have GE541 := GW541; replace HB := aM_ (below_step HB.out hb); have NB538_541 := aM_ ((by rw [hg]; exact Nat.ne_of_lt (blk_lt BK538.out) : gb538 ≠ gb541)); have NB541_538 := aM_ NB538_541.out.symm; replace BK538 := aM_ (blk_below BK538.out hb); clear hb hbox hg; have hnb19 := NB541_538.out; have hnc19 := NB538_541.out; have hcz20_0 : w18.cell? ⟨gb541, 0, none⟩ = some (.string (⟨#[]⟩ : ByteArray)) := (blk_cell BK541.out 0).trans rfl; have hcz20_1 : w18.cell? ⟨gb541, 1, none⟩ = some (.int .i64 0) := (blk_cell BK541.out 1).trans rfl; have hcz20_2 : w18.cell? ⟨gb541, 2, none⟩ = some (.bool false) := (blk_cell BK541.out 2).trans rfl; have hfz20_0 := blk_frozen BK541.out 0; have hfz20_1 := blk_frozen BK541.out 1; have hfz20_2 := blk_frozen BK541.out 2; have hcz21_0 : w18.cell? ⟨gb538, 0, none⟩ = some (.slice (some ad540) l0_0.length c0_0) := (blk_cell BK538.out 0).trans rfl; have hfz21_0 := blk_frozen BK538.out 0; have p542 : 0 ≤ (x4_1 : Int) := of_decide_eq_true (by (with_reducible assumption)); have q542 : x4_1 < (l0_0.length : Int) := of_decide_eq_true (by (with_reducible assumption)); obtain ⟨ad542, e542, hx542_0, hx542_1, hx542_2⟩ := at_T56 HR0_0.out x4_1 p542 q542; obtain rfl : ad540 = ad542 := (by injection e542); have hn542_0 : ad540.block ≠ gb541 := Nat.ne_of_lt (Nat.lt_of_lt_of_le (by have := World.block_lt_of_cell? _ _ hx542_0; rwa [add_block] at this) GW541.out); have hn542_1 : ad540.block ≠ gb541 := Nat.ne_of_lt (Nat.lt_of_lt_of_le (by have := World.block_lt_of_cell? _ _ hx542_0; rwa [add_block] at this) GW541.out); have hn542_2 : ad540.block ≠ gb541 := Nat.ne_of_lt (Nat.lt_of_lt_of_le (by have := World.block_lt_of_cell? _ _ hx542_0; rwa [add_block] at this) GW541.out); replace hx542_0 := (HB.out.cell (World.block_lt_of_cell? w _ hx542_0)).trans hx542_0; replace hx542_1 := (HB.out.cell (World.block_lt_of_cell? w _ hx542_1)).trans hx542_1; replace hx542_2 := (HB.out.cell (World.block_lt_of_cell? w _ hx542_2)).trans hx542_2; replace hx542_0 := (cell_far (p := ⟨gb541, 0, none⟩) (by (rw [add_block]; exact hn542_0)) (.string ((rd_T56 l0_0 x13_1).f0))).trans hx542_0; replace hx542_1 := (cell_far (p := ⟨gb541, 0, none⟩) (by (rw [add_block]; exact hn542_0)) (.string ((rd_T56 l0_0 x13_1).f0))).trans hx542_1; replace hx542_2 := (cell_far (p := ⟨gb541, 0, none⟩) (by (rw [add_block]; exact hn542_0)) (.string ((rd_T56 l0_0 x13_1).f0))).trans hx542_2; replace hx542_0 := (cell_far (p := ⟨gb541, 1, none⟩) (by (rw [add_block]; exact hn542_1)) (.int .i64 ((rd_T56 l0_0 x13_1).f1))).trans hx542_0; replace hx542_1 := (cell_far (p := ⟨gb541, 1, none⟩) (by (rw [add_block]; exact hn542_1)) (.int .i64 ((rd_T56 l0_0 x13_1).f1))).trans hx542_1; replace hx542_2 := (cell_far (p := ⟨gb541, 1, none⟩) (by (rw [add_block]; exact hn542_1)) (.int .i64 ((rd_T56 l0_0 x13_1).f1))).trans hx542_2; replace hx542_0 := (cell_far (p := ⟨gb541, 2, none⟩) (by (rw [add_block]; exact hn542_2)) (.bool ((rd_T56 l0_0 x13_1).f2))).trans hx542_0; replace hx542_1 := (cell_far (p := ⟨gb541, 2, none⟩) (by (rw [add_block]; exact hn542_2)) (.bool ((rd_T56 l0_0 x13_1).f2))).trans hx542_1; replace hx542_2 := (cell_far (p := ⟨gb541, 2, none⟩) (by (rw [add_block]; exact hn542_2)) (.bool ((rd_T56 l0_0 x13_1).f2))).trans hx542_2; (try have hy542_0 := fun (n_ : Nat) => (show (((((w18.drewN n_).setCell ⟨gb541, 0, none⟩ (.string ((rd_T56 l0_0 x13_1).f0))).setCell ⟨gb541, 1, none⟩ (.int .i64 ((rd_T56 l0_0 x13_1).f1))).setCell ⟨gb541, 2, none⟩ (.bool ((rd_T56 l0_0 x13_1).f2)))).cell? _ = some _ from hx542_0)); (try have hy542_1 := fun (n_ : Nat) => (show (((((w18.drewN n_).setCell ⟨gb541, 0, none⟩ (.string ((rd_T56 l0_0 x13_1).f0))).setCell ⟨gb541, 1, none⟩ (.int .i64 ((rd_T56 l0_0 x13_1).f1))).setCell ⟨gb541, 2, none⟩ (.bool ((rd_T56 l0_0 x13_1).f2)))).cell? _ = some _ from hx542_1)); (try have hy542_2 := fun (n_ : Nat) => (show (((((w18.drewN n_).setCell ⟨gb541, 0, none⟩ (.string ((rd_T56 l0_0 x13_1).f0))).setCell ⟨gb541, 1, none⟩ (.int .i64 ((rd_T56 l0_0 x13_1).f1))).setCell ⟨gb541, 2, none⟩ (.bool ((rd_T56 l0_0 x13_1).f2)))).cell? _ = some _ from hx542_2)); clear hn542_0; clear hn542_1; clear hn542_2; replace p542 := eq_true p542; replace q542 := eq_true q542))
          repeat (go_quiet (first | ((with_reducible refine gate_dst (N := 6) rfl ?_); refine box_event ?hg (N := 6) ?hd (cs := #[.string (⟨#[]⟩ : ByteArray), .int .i64 0, .bool false]) (t := 56) ?hr ?_; (case hd => rfl); (case hg => rfl); (case hr => first | (go_simp; done) | (go_simp; rfl)); intro gb541 hg w18 hbox hb; have BK541 := aM_ (hbox); have GW541 := aM_ ((by rw [hg]; exact (below_size (by repeat (first | (with_reducible first | exact HB.out | apply below_alloc | apply pw_below_drewN | apply below_drew1 | refine below_set ?_ GE538.out) | exact HB.out))) : w.heap.size ≤ gb541)); have GE541 := GW541; replace HB := aM_ (below_step (by repeat (first | (with_reducible first | exact HB.out | apply below_alloc | apply pw_below_drewN | apply below_drew1 | refine below_set ?_ GE538.out) | exact HB.out)) hb); have NB538_541 := aM_ ((by rw [hg]; exact Nat.ne_of_lt (blk_lt (g := gb538) (o := .cells #[.slice (some ad540) l0_0.length c0_0] 29 (0, 0)) (by (with_reducible repeat (first | refine blk_drewN ?_ _ | refine blk_drew ?_ | refine blk_alloc ?_ _)); exact BK538.out)) : gb538 ≠ gb541)); have NB541_538 := aM_ ((by rw [hg]; exact Nat.ne_of_gt (blk_lt (g := gb538) (o := .cells #[.slice (some ad540) l0_0.length c0_0] 29 (0, 0)) (by (with_reducible repeat (first | refine blk_drewN ?_ _ | refine blk_drew ?_ | refine blk_alloc ?_ _)); exact BK538.out)) : gb541 ≠ gb538)); replace BK538 := aM_ (blk_below (g := gb538) (o := .cells #[.slice (some ad540) l0_0.length c0_0] 29 (0, 0)) (by (with_reducible repeat (first | refine blk_drewN ?_ _ | refine blk_drew ?_ | refine blk_alloc ?_ _)); exact BK538.out) hb); clear hb hbox hg; have hnb19 := NB541_538.out; have hnc19 := NB538_541.out; have hcz20_0 : w18.cell? ⟨gb541, 0, none⟩ = some (.string (⟨#[]⟩ : ByteArray)) := (blk_cell BK541.out 0).trans rfl; have hcz20_1 : w18.cell? ⟨gb541, 1, none⟩ = some (.int .i64 0) := (blk_cell BK541.out 1).trans rfl; have hcz20_2 : w18.cell? ⟨gb541, 2, none⟩ = some (.bool false) := (blk_cell BK541.out 2).trans rfl; have hfz20_0 := blk_frozen BK541.out 0; have hfz20_1 := blk_frozen BK541.out 1; have hfz20_2 := blk_frozen BK541.out 2; have hcz21_0 : w18.cell? ⟨gb538, 0, none⟩ = some (.slice (some ad540) l0_0.length c0_0) := (blk_cell BK538.out 0).trans rfl; have hfz21_0 := blk_frozen BK538.out 0; have p542 : 0 ≤ (x4_1 : Int) := of_decide_eq_true (by first | (with_reducible assumption) | assumption); have q542 : x4_1 < (l0_0.length : Int) := of_decide_eq_true (by first | (with_reducible assumption) | assumption); obtain ⟨ad542, e542, hx542_0, hx542_1, hx542_2⟩ := at_T56 HR0_0.out x4_1 p542 q542; obtain rfl : ad540 = ad542 := (by injection e542); have hn542_0 : ad540.block ≠ gb541 := Nat.ne_of_lt (Nat.lt_of_lt_of_le (by have := World.block_lt_of_cell? _ _ hx542_0; first | rwa [add_block] at this | exact this) GW541.out); have hn542_1 : ad540.block ≠ gb541 := Nat.ne_of_lt (Nat.lt_of_lt_of_le (by have := World.block_lt_of_cell? _ _ hx542_0; first | rwa [add_block] at this | exact this) GW541.out); have hn542_2 : ad540.block ≠ gb541 := Nat.ne_of_lt (Nat.lt_of_lt_of_le (by have := World.block_lt_of_cell? _ _ hx542_0; first | rwa [add_block] at this | exact this) GW541.out); replace hx542_0 := (HB.out.cell (World.block_lt_of_cell? w _ hx542_0)).trans hx542_0; replace hx542_1 := (HB.out.cell (World.block_lt_of_cell? w _ hx542_1)).trans hx542_1; replace hx542_2 := (HB.out.cell (World.block_lt_of_cell? w _ hx542_2)).trans hx542_2; replace hx542_0 := (cell_far (p := ⟨gb541, 0, none⟩) (by first | (rw [add_block]; exact hn542_0) | (show (Addr.add _ _).block ≠ _; rw [add_block]; exact hn542_0) | exact hn542_0) (.string ((rd_T56 l0_0 x13_1).f0))).trans hx542_0; replace hx542_1 := (cell_far (p := ⟨gb541, 0, none⟩) (by first | (rw [add_block]; exact hn542_0) | (show (Addr.add _ _).block ≠ _; rw [add_block]; exact hn542_0) | exact hn542_0) (.string ((rd_T56 l0_0 x13_1).f0))).trans hx542_1; replace hx542_2 := (cell_far (p := ⟨gb541, 0, none⟩) (by first | (rw [add_block]; exact hn542_0) | (show (Addr.add _ _).block ≠ _; rw [add_block]; exact hn542_0) | exact hn542_0) (.string ((rd_T56 l0_0 x13_1).f0))).trans hx542_2; replace hx542_0 := (cell_far (p := ⟨gb541, 1, none⟩) (by first | (rw [add_block]; exact hn542_1) | (show (Addr.add _ _).block ≠ _; rw [add_block]; exact hn542_1) | exact hn542_1) (.int .i64 ((rd_T56 l0_0 x13_1).f1))).trans hx542_0; replace hx542_1 := (cell_far (p := ⟨gb541, 1, none⟩) (by first | (rw [add_block]; exact hn542_1) | (show (Addr.add _ _).block ≠ _; rw [add_block]; exact hn542_1) | exact hn542_1) (.int .i64 ((rd_T56 l0_0 x13_1).f1))).trans hx542_1; replace hx542_2 := (cell_far (p := ⟨gb541, 1, none⟩) (by first | (rw [add_block]; exact hn542_1) | (show (Addr.add _ _).block ≠ _; rw [add_block]; exact hn542_1) | exact hn542_1) (.int .i64 ((rd_T56 l0_0 x13_1).f1))).trans hx542_2; replace hx542_0 := (cell_far (p := ⟨gb541, 2, none⟩) (by first | (rw [add_block]; exact hn542_2) | (show (Addr.add _ _).block ≠ _; rw [add_block]; exact hn542_2) | exact hn542_2) (.bool ((rd_T56 l0_0 x13_1).f2))).trans hx542_0; replace hx542_1 := (cell_far (p := ⟨gb541, 2, none⟩) (by first | (rw [add_block]; exact hn542_2) | (show (Addr.add _ _).block ≠ _; rw [add_block]; exact hn542_2) | exact hn542_2) (.bool ((rd_T56 l0_0 x13_1).f2))).trans hx542_1; replace hx542_2 := (cell_far (p := ⟨gb541, 2, none⟩) (by first | (rw [add_block]; exact hn542_2) | (show (Addr.add _ _).block ≠ _; rw [add_block]; exact hn542_2) | exact hn542_2) (.bool ((rd_T56 l0_0 x13_1).f2))).trans hx542_2; (try have hy542_0 := fun (n_ : Nat) => (show (((((w18.drewN n_).setCell ⟨gb541, 0, none⟩ (.string ((rd_T56 l0_0 x13_1).f0))).setCell ⟨gb541, 1, none⟩ (.int .i64 ((rd_T56 l0_0 x13_1).f1))).setCell ⟨gb541, 2, none⟩ (.bool ((rd_T56 l0_0 x13_1).f2)))).cell? _ = some _ from hx542_0)); (try have hy542_1 := fun (n_ : Nat) => (show (((((w18.drewN n_).setCell ⟨gb541, 0, none⟩ (.string ((rd_T56 l0_0 x13_1).f0))).setCell ⟨gb541, 1, none⟩ (.int .i64 ((rd_T56 l0_0 x13_1).f1))).setCell ⟨gb541, 2, none⟩ (.bool ((rd_T56 l0_0 x13_1).f2)))).cell? _ = some _ from hx542_1)); (try have hy542_2 := fun (n_ : Nat) => (show (((((w18.drewN n_).setCell ⟨gb541, 0, none⟩ (.string ((rd_T56 l0_0 x13_1).f0))).setCell ⟨gb541, 1, none⟩ (.int .i64 ((rd_T56 l0_0 x13_1).f1))).setCell ⟨gb541, 2, none⟩ (.bool ((rd_T56 l0_0 x13_1).f2)))).cell? _ = some _ from hx542_2)); clear hn542_0; clear hn542_1; clear hn542_2; replace p542 := eq_true p542; replace q542 := eq_true q542)); try go_wp2_with (first | fail))
          go_roundg k1
          case measure => have := HK1.out; omega
          case rel => exact ⟨(x4_1), (wrap64 (x13_1 + 1)), (by rfl), (by rfl), H', ⟨by have := HK1.out; omega⟩, ⟨by (with_reducible repeat (first | refine blk_drewN ?_ _ | refine blk_drew ?_ | refine blk_alloc ?_ _)); refine blk_far ?_ NB538_541.out _; refine blk_far ?_ NB538_541.out _; refine blk_far ?_ NB538_541.out _; exact BK538.out⟩, ⟨by repeat (first | (with_reducible first | exact HB.out | apply below_alloc | apply pw_below_drewN | apply below_drew1 | refine below_set ?_ GE538.out | refine below_set ?_ GE541.out) | exact HB.out)⟩⟩
        ·
         rw [if_neg c12] at H
         exact absurd H (by simp)
       ·
        rw [if_neg c11] at H
        exact absurd H (by simp)
      ·
       rw [if_neg c10] at H
       exact absurd H (by simp)
     ·
      rw [if_neg c9] at H
      exact absurd H (by simp)
    ·
     rw [if_neg c8] at H
     have c8b0 := decide_eq_false c8
     clear c8
     simp only [Option.some.injEq, Prod.mk.injEq] at H
     obtain ⟨rfl, rfl⟩ := H
     go_wp2
     repeat (go_quiet (fail); try go_wp2)
     go_ret2
     exact ⟨by rfl, by exact HB.out⟩
 ·
  replace c3 := Bool.eq_false_iff.mpr c3
  subst c3
  have H1 : (some (0, false)) = some (r1, r2) := by rw [if_neg (show ¬ (false = true) by decide)] at H; exact H
  clear H
  have H := H1
  clear H1
  simp only [Option.some.injEq, Prod.mk.injEq] at H
  obtain ⟨rfl, rfl⟩ := H
  go_enter Tryd.func18, Tryd.ntmps18
  go_wp2_with (first | ((with_reducible refine gate_dst (N := 1) rfl ?_); refine box_event ?hg (N := 1) ?hd (cs := #[.slice A0_0 l0_0.length c0_0]) (t := 29) ?hr ?_; (case hd => rfl); (case hg => rfl); (case hr => (go_simp; done)); intro gb538 hg w22 hbox hb; have BK538 := aM_ (hbox); have GW538 := aM_ ((by rw [hg]; exact (below_size HB.out) : w.heap.size ≤ gb538)); have GE538 := GW538; replace HB := aM_ (below_step HB.out hb); clear hb hbox hg; have hcz23_0 : w22.cell? ⟨gb538, 0, none⟩ = some (.slice A0_0 l0_0.length c0_0) := (blk_cell BK538.out 0).trans rfl; have hfz23_0 := blk_frozen BK538.out 0) | (go_at_call 11; (with_reducible refine (impl_IsPressed.calls k _ _ l0_0 false _ ?side1 ?side2 A2.out).mono ?_); (case side1 => repeat (first | exact (Kd.C_below HR0_0.out HB.out) | (with_reducible refine Kd.C_alloc ?_ _) | (with_reducible refine Kd.C_drewN ?_ _) | (with_reducible refine Kd.C_drew ?_))); (case side2 => exact HC0_0.out); rintro e w24 ⟨rfl, hb⟩; replace BK538 := aM_ (blk_below BK538.out hb); replace HB := aM_ (below_step HB.out hb); (try clear hb); (try clear hb2); (try clear hk); (try clear hi)))
  repeat (go_quiet (first | ((with_reducible refine gate_dst (N := 1) rfl ?_); refine box_event ?hg (N := 1) ?hd (cs := #[.slice A0_0 l0_0.length c0_0]) (t := 29) ?hr ?_; (case hd => rfl); (case hg => rfl); (case hr => first | (go_simp; done) | (go_simp; rfl)); intro gb538 hg w22 hbox hb; have BK538 := aM_ (hbox); have GW538 := aM_ ((by rw [hg]; exact (below_size (by repeat (first | (with_reducible first | exact HB.out | apply below_alloc | apply pw_below_drewN | apply below_drew1) | exact HB.out))) : w.heap.size ≤ gb538)); have GE538 := GW538; replace HB := aM_ (below_step (by repeat (first | (with_reducible first | exact HB.out | apply below_alloc | apply pw_below_drewN | apply below_drew1) | exact HB.out)) hb); clear hb hbox hg; have hcz23_0 : w22.cell? ⟨gb538, 0, none⟩ = some (.slice A0_0 l0_0.length c0_0) := (blk_cell BK538.out 0).trans rfl; have hfz23_0 := blk_frozen BK538.out 0) | (go_at_call 11; (with_reducible refine (impl_IsPressed.calls k _ _ l0_0 false _ ?side1 ?side2 A2.out).mono ?_); (case side1 => repeat (first | exact (Kd.C_below HR0_0.out HB.out) | (with_reducible refine Kd.C_alloc ?_ _) | (with_reducible refine Kd.C_drewN ?_ _) | (with_reducible refine Kd.C_drew ?_))); (case side2 => exact HC0_0.out); rintro e w24 ⟨rfl, hb⟩; replace BK538 := aM_ (blk_below (g := gb538) (o := .cells #[.slice A0_0 l0_0.length c0_0] 29 (0, 0)) (by (with_reducible repeat (first | refine blk_drewN ?_ _ | refine blk_drew ?_ | refine blk_alloc ?_ _)); exact BK538.out) hb); replace HB := aM_ (below_step (by repeat (first | (with_reducible first | exact HB.out | apply below_alloc | apply pw_below_drewN | apply below_drew1 | refine below_set ?_ GE538.out) | exact HB.out)) hb); (try clear hb); (try clear hb2); (try clear hk); (try clear hi))); try go_wp2_with (first | fail))
  go_ret2
  exact ⟨by rfl, by exact HB.out⟩
def spec_LongestBranch.l0 : Nat → Int → Int → List (S56) → Option (Int × Bool)
 | 0, _, _, _ => none
 | k + 1, x6, x7, x531000 => if x7 < (x531000.length : Int) then (if 0 ≤ x7 then (if 0 ≤ x6 then (if x6 < (x531000.length : Int) then (if (((rd_T56 x531000 x7).f0).size : Int) > (((rd_T56 x531000 x6).f0).size : Int) then (spec_LongestBranch.l0 k x7 (wrap64 (x7 + 1)) x531000) else (spec_LongestBranch.l0 k x6 (wrap64 (x7 + 1)) x531000)) else (none)) else (none)) else (none)) else (some (x6, true))
def spec_LongestBranch.f (k : Nat) (l0_0 : List (S56)) : Option (Int × Bool) := (spec_l4Open.f k l0_0).bind fun bt531 => (if bt531.2 = true then (spec_LongestBranch.l0 k 0 1 l0_0) else (some (0, false)))
theorem spec_LongestBranch.mono_l : ∀ k, (∀ y0 y1 y2, LeO (spec_LongestBranch.l0 k y0 y1 y2) (spec_LongestBranch.l0 (k + 1) y0 y1 y2))
 | 0 => fun _ _ _ r h => by simp [spec_LongestBranch.l0] at h
 | k + 1 => by
  have ih0 := spec_LongestBranch.mono_l k
  ·
   intro y0 y1 y2
   unfold spec_LongestBranch.l0
   repeat' first
   | (with_reducible exact ih0 _ _ _)
   | (with_reducible exact spec_l4Open.mono _ _)
   | (with_reducible exact LeO.refl _)
   | (with_reducible exact LeO.none _)
   | (with_reducible refine LeO.ite ?_ ?_)
   | (with_reducible refine LeO.bind ?_ (fun _ => ?_))
   | exact ih0 _ _ _
   | exact spec_l4Open.mono _ _
   | exact LeO.none _
   | refine LeO.ite ?_ ?_
   | refine LeO.bind ?_ (fun _ => ?_)
theorem spec_LongestBranch.mono : ∀ a0 k, LeO (spec_LongestBranch.f k a0) (spec_LongestBranch.f (k + 1) a0) := by
 intro a0 k
 have ih0 := spec_LongestBranch.mono_l k
 unfold spec_LongestBranch.f
 repeat' first
   | (with_reducible exact ih0 _ _ _)
   | (with_reducible exact spec_l4Open.mono _ _)
   | (with_reducible exact LeO.refl _)
   | (with_reducible exact LeO.none _)
   | (with_reducible refine LeO.ite ?_ ?_)
   | (with_reducible refine LeO.bind ?_ (fun _ => ?_))
   | exact ih0 _ _ _
   | exact spec_l4Open.mono _ _
   | exact LeO.none _
   | refine LeO.ite ?_ ?_
   | refine LeO.bind ?_ (fun _ => ?_)
theorem spec_LongestBranch.calls (k : Nat) (A0_0 : Option Addr) (c0_0 : Nat) (l0_0 : List (S56)) (r1 : Int) (r2 : Bool) (w : World) (hr0_0 : Kd.C k56 w A0_0 l0_0.length l0_0) (hc0_0 : l0_0.length ≤ c0_0) (h : spec_LongestBranch.f k l0_0 = some (r1, r2)) :
  Calls Tryd.prog 17 #[.agg #[.slice A0_0 l0_0.length c0_0]] w fun e w' => e = .returned (.tuple #[.int .i64 r1, .bool r2]) ∧ Below w.heap.size w w' := by
 have hu29 := Tryd.underlying29
 have hu44 := Tryd.underlying44
 have HR0_0 := aM_ hr0_0
 have HC0_0 := aM_ hc0_0
 clear hr0_0 hc0_0
 have HB := aM_ (Below.refl w.heap.size w)
 have H : ((spec_l4Open.f k l0_0).bind fun bt531 => (if bt531.2 = true then (spec_LongestBranch.l0 k 0 1 l0_0) else (some (0, false)))) = some (r1, r2) := h
 clear h
 replace H := Option.bind_eq_some_iff.mp H
 obtain ⟨⟨t531, t534⟩, A20, H⟩ := H
 try dsimp only at H
 have A2 := aM_ A20
 clear A20
 by_cases c3 : t534 = true
 ·
  subst c3
  rw [if_pos rfl] at H
  have H' := aM_ H
  clear H
  go_enter Tryd.func17, Tryd.ntmps17
  go_wp2_with (first | ((with_reducible refine gate_dst (N := 1) rfl ?_); refine box_event ?hg (N := 1) ?hd (cs := #[.slice A0_0 l0_0.length c0_0]) (t := 29) ?hr ?_; (case hd => rfl); (case hg => rfl); (case hr => (go_simp; done)); intro gb530 hg w4 hbox hb; have BK530 := aM_ (hbox); have GW530 := aM_ ((by rw [hg]; exact (below_size HB.out) : w.heap.size ≤ gb530)); have GE530 := GW530; replace HB := aM_ (below_step HB.out hb); clear hb hbox hg; have hcz5_0 : w4.cell? ⟨gb530, 0, none⟩ = some (.slice A0_0 l0_0.length c0_0) := (blk_cell BK530.out 0).trans rfl; have hfz5_0 := blk_frozen BK530.out 0) | (go_at_call 22; (with_reducible refine (spec_l4Open.calls k _ _ l0_0 t531 true _ ?side1 ?side2 A2.out).mono ?_); (case side1 => repeat (first | exact (Kd.C_below HR0_0.out HB.out) | (with_reducible refine Kd.C_alloc ?_ _) | (with_reducible refine Kd.C_drewN ?_ _) | (with_reducible refine Kd.C_drew ?_))); (case side2 => exact HC0_0.out); rintro e w6 ⟨v532, rfl, ho0, hb⟩; have HO533 := aM_ (Kd.R_lower ho0 (below_size HB.out)); replace BK530 := aM_ (blk_below BK530.out hb); replace HB := aM_ (below_step HB.out hb); (try clear hb); (try clear hb2); (try clear hk); (try clear hi); (try clear ho0)) | ((with_reducible refine gate_dst (N := 4) rfl ?_); refine box_event ?hg (N := 4) ?hd (cs := #[.slice none 0 0]) (t := 44) ?hr ?_; (case hd => rfl); (case hg => rfl); (case hr => (go_simp; done)); intro gb535 hg w7 hbox hb; replace HO533 := aM_ (Kd.R_below HO533.out hb); have BK535 := aM_ (hbox); have GW535 := aM_ ((by rw [hg]; exact (below_size HB.out) : w.heap.size ≤ gb535)); have GE535 := GW535; replace HB := aM_ (below_step HB.out hb); have NB530_535 := aM_ ((by rw [hg]; exact Nat.ne_of_lt (blk_lt BK530.out) : gb530 ≠ gb535)); have NB535_530 := aM_ NB530_535.out.symm; replace BK530 := aM_ (blk_below BK530.out hb); clear hb hbox hg; obtain ⟨Ao8, co8, eo8⟩ := Kd.R_slice HO533.out; subst eo8; have hnb9 := NB535_530.out; have hnc9 := NB530_535.out; have hcz10_0 : w7.cell? ⟨gb535, 0, none⟩ = some (.slice none 0 0) := (blk_cell BK535.out 0).trans rfl; have hfz10_0 := blk_frozen BK535.out 0))
  repeat (go_quiet (first | ((with_reducible refine gate_dst (N := 1) rfl ?_); refine box_event ?hg (N := 1) ?hd (cs := #[.slice A0_0 l0_0.length c0_0]) (t := 29) ?hr ?_; (case hd => rfl); (case hg => rfl); (case hr => first | (go_simp; done) | (go_simp; rfl)); intro gb530 hg w4 hbox hb; have BK530 := aM_ (hbox); have GW530 := aM_ ((by rw [hg]; exact (below_size (by repeat (first | (with_reducible first | exact HB.out | apply below_alloc | apply pw_below_drewN | apply below_drew1) | exact HB.out))) : w.heap.size ≤ gb530)); have GE530 := GW530; replace HB := aM_ (below_step (by repeat (first | (with_reducible first | exact HB.out | apply below_alloc | apply pw_below_drewN | apply below_drew1) | exact HB.out)) hb); clear hb hbox hg; have hcz5_0 : w4.cell? ⟨gb530, 0, none⟩ = some (.slice A0_0 l0_0.length c0_0) := (blk_cell BK530.out 0).trans rfl; have hfz5_0 := blk_frozen BK530.out 0) | (go_at_call 22; (with_reducible refine (spec_l4Open.calls k _ _ l0_0 t531 true _ ?side1 ?side2 A2.out).mono ?_); (case side1 => repeat (first | exact (Kd.C_below HR0_0.out HB.out) | (with_reducible refine Kd.C_alloc ?_ _) | (with_reducible refine Kd.C_drewN ?_ _) | (with_reducible refine Kd.C_drew ?_))); (case side2 => exact HC0_0.out); rintro e w6 ⟨v532, rfl, ho0, hb⟩; have HO533 := aM_ (Kd.R_lower ho0 (below_size (by repeat (first | (with_reducible first | exact HB.out | apply below_alloc | apply pw_below_drewN | apply below_drew1 | refine below_set ?_ GE530.out) | exact HB.out)))); replace BK530 := aM_ (blk_below (g := gb530) (o := .cells #[.slice A0_0 l0_0.length c0_0] 29 (0, 0)) (by (with_reducible repeat (first | refine blk_drewN ?_ _ | refine blk_drew ?_ | refine blk_alloc ?_ _)); exact BK530.out) hb); replace HB := aM_ (below_step (by repeat (first | (with_reducible first | exact HB.out | apply below_alloc | apply pw_below_drewN | apply below_drew1 | refine below_set ?_ GE530.out) | exact HB.out)) hb); (try clear hb); (try clear hb2); (try clear hk); (try clear hi); (try clear ho0)) | ((with_reducible refine gate_dst (N := 4) rfl ?_); refine box_event ?hg (N := 4) ?hd (cs := #[.slice none 0 0]) (t := 44) ?hr ?_; (case hd => rfl); (case hg => rfl); (case hr => first | (go_simp; done) | (go_simp; rfl)); intro gb535 hg w7 hbox hb; replace HO533 := aM_ (Kd.R_below (by (with_reducible repeat (first | apply Kd.R_alloc | apply Kd.R_drewN | apply Kd.R_drew)); exact HO533.out) hb); have BK535 := aM_ (hbox); have GW535 := aM_ ((by rw [hg]; exact (below_size (by repeat (first | (with_reducible first | exact HB.out | apply below_alloc | apply pw_below_drewN | apply below_drew1 | refine below_set ?_ GE530.out) | exact HB.out))) : w.heap.size ≤ gb535)); have GE535 := GW535; replace HB := aM_ (below_step (by repeat (first | (with_reducible first | exact HB.out | apply below_alloc | apply pw_below_drewN | apply below_drew1 | refine below_set ?_ GE530.out) | exact HB.out)) hb); have NB530_535 := aM_ ((by rw [hg]; exact Nat.ne_of_lt (blk_lt (g := gb530) (o := .cells #[.slice A0_0 l0_0.length c0_0] 29 (0, 0)) (by (with_reducible repeat (first | refine blk_drewN ?_ _ | refine blk_drew ?_ | refine blk_alloc ?_ _)); exact BK530.out)) : gb530 ≠ gb535)); have NB535_530 := aM_ ((by rw [hg]; exact Nat.ne_of_gt (blk_lt (g := gb530) (o := .cells #[.slice A0_0 l0_0.length c0_0] 29 (0, 0)) (by (with_reducible repeat (first | refine blk_drewN ?_ _ | refine blk_drew ?_ | refine blk_alloc ?_ _)); exact BK530.out)) : gb535 ≠ gb530)); replace BK530 := aM_ (blk_below (g := gb530) (o := .cells #[.slice A0_0 l0_0.length c0_0] 29 (0, 0)) (by (with_reducible repeat (first | refine blk_drewN ?_ _ | refine blk_drew ?_ | refine blk_alloc ?_ _)); exact BK530.out) hb); clear hb hbox hg; obtain ⟨Ao8, co8, eo8⟩ := Kd.R_slice HO533.out; subst eo8; have hnb9 := NB535_530.out; have hnc9 := NB530_535.out; have hcz10_0 : w7.cell? ⟨gb535, 0, none⟩ = some (.slice none 0 0) := (blk_cell BK535.out 0).trans rfl; have hfz10_0 := blk_frozen BK535.out 0)); try go_wp2_with (first | fail))
  go_loopg [6, 7] k (fun kq v6 v7 w' => ∃ (x6_1 : Int) (x7_1 : Int), v6 = .int .i64 x6_1 ∧ v7 = .int .i64 x7_1 ∧ Aside0 (spec_LongestBranch.l0 kq x6_1 x7_1 l0_0 = some (r1, r2)) ∧ Aside0 (kq ≤ k) ∧ Aside0 (Kd.R k73 73 w' w.heap.size (fun _ => True) (.slice Ao8 t531.length co8) t531) ∧ Aside0 (w'.heap[gb530]? = some (.cells #[(.slice A0_0 l0_0.length c0_0)] 29 (0, 0))) ∧ Aside0 (w'.heap[gb535]? = some (.cells #[(.slice Ao8 t531.length co8)] 44 (0, 0))) ∧ Aside0 (Below w.heap.size w w'))
  case atStart => exact ⟨(0), (1), (by rfl), (by rfl), H', ⟨Nat.le_refl _⟩, ⟨by exact Kd.R_mono (Kd.R_far (p := ⟨gb535, 0, none⟩) (Kd.R_types HO533.out BK535.out (by decide)) (fun _ hk => hk.2) (.slice Ao8 t531.length co8)) (fun _ hk => trivial)⟩, ⟨by refine blk_far ?_ NB530_535.out _; exact BK530.out⟩, ⟨by refine blk_put (cs := #[.slice none 0 0]) ?_ 0 _ rfl; exact BK535.out⟩, ⟨by repeat (first | (with_reducible first | exact HB.out | apply below_alloc | apply pw_below_drewN | apply below_drew1 | refine below_set ?_ GE530.out | refine below_set ?_ GE535.out) | exact HB.out)⟩⟩
  case round =>
   clear H'
   try clear c1
   try clear p2
   try clear c3
   try clear c9
   try clear hcz10_0
   try clear hcz5_0
   try clear hfz10_0
   try clear hfz5_0
   obtain ⟨x6_1, x7_1, rfl, rfl, HA, HK1, HO_536000, BK530, BK535, HB⟩ := hrel
   cases gk with
   | zero => exact absurd HA.out (by simp [spec_LongestBranch.l0])
   | succ k1 =>
    have H := HA.out
    clear HA
    simp only [spec_LongestBranch.l0] at H
    by_cases c11 : x7_1 < (l0_0.length : Int)
    ·
     rw [if_pos c11] at H
     have c11b0 := decide_eq_true c11
     clear c11
     by_cases c12 : 0 ≤ x7_1
     ·
      rw [if_pos c12] at H
      have c12b0 := decide_eq_true c12
      clear c12
      by_cases c13 : 0 ≤ x6_1
      ·
       rw [if_pos c13] at H
       have c13b0 := decide_eq_true c13
       clear c13
       by_cases c14 : x6_1 < (l0_0.length : Int)
       ·
        rw [if_pos c14] at H
        have c14b0 := decide_eq_true c14
        clear c14
        by_cases c15 : (((rd_T56 l0_0 x7_1).f0).size : Int) > (((rd_T56 l0_0 x6_1).f0).size : Int)
        ·
         rw [if_pos c15] at H
         have c15b0 := decide_eq_true c15
         have c15b1 : decide (((rd_T56 l0_0 x6_1).f0).size < ((rd_T56 l0_0 x7_1).f0).size) = true := decide_eq_true (Int.ofNat_lt.mp c15)
         clear c15
         have H' := aM_ H
         clear H
         have hnb16 := NB530_535.out
         have hnc16 := NB535_530.out
         have hcz17_0 : wr.cell? ⟨gb530, 0, none⟩ = some (.slice A0_0 l0_0.length c0_0) := (blk_cell BK530.out 0).trans rfl
         have hfz17_0 := blk_frozen BK530.out 0
         have p536 : 0 ≤ (x7_1 : Int) := of_decide_eq_true (by (with_reducible assumption))
         have q536 : x7_1 < (l0_0.length : Int) := of_decide_eq_true (by (with_reducible assumption))
         obtain ⟨ad536, e536, hx536_0, hx536_1, hx536_2⟩ := at_T56 HR0_0.out x7_1 p536 q536
         cases e536
         replace hx536_0 := (HB.out.cell (World.block_lt_of_cell? w _ hx536_0)).trans hx536_0
         replace hx536_1 := (HB.out.cell (World.block_lt_of_cell? w _ hx536_1)).trans hx536_1
         replace hx536_2 := (HB.out.cell (World.block_lt_of_cell? w _ hx536_2)).trans hx536_2
         replace p536 := eq_true p536
         replace q536 := eq_true q536
         have p537 : 0 ≤ (x6_1 : Int) := of_decide_eq_true (by (with_reducible assumption))
         have q537 : x6_1 < (l0_0.length : Int) := of_decide_eq_true (by (with_reducible assumption))
         obtain ⟨ad537, e537, hx537_0, hx537_1, hx537_2⟩ := at_T56 HR0_0.out x6_1 p537 q537
         obtain rfl : ad536 = ad537 := (by injection e537)
         replace hx537_0 := (HB.out.cell (World.block_lt_of_cell? w _ hx537_0)).trans hx537_0
         replace hx537_1 := (HB.out.cell (World.block_lt_of_cell? w _ hx537_1)).trans hx537_1
         replace hx537_2 := (HB.out.cell (World.block_lt_of_cell? w _ hx537_2)).trans hx537_2
         replace p537 := eq_true p537
         replace q537 := eq_true q537
         go_wp2
         repeat (go_quiet (fail); try go_wp2)
         go_roundg k1
         case measure => have := HK1.out; omega
         case rel => exact ⟨(x7_1), (wrap64 (x7_1 + 1)), (by rfl), (by rfl), H', ⟨by have := HK1.out; omega⟩, ⟨by (with_reducible repeat (first | apply Kd.R_alloc | apply Kd.R_drewN | apply Kd.R_drew)); exact HO_536000.out⟩, ⟨by (with_reducible repeat (first | refine blk_drewN ?_ _ | refine blk_drew ?_ | refine blk_alloc ?_ _)); exact BK530.out⟩, ⟨by (with_reducible repeat (first | refine blk_drewN ?_ _ | refine blk_drew ?_ | refine blk_alloc ?_ _)); exact BK535.out⟩, ⟨by repeat (first | (with_reducible first | exact HB.out | apply below_alloc | apply pw_below_drewN | apply below_drew1 | refine below_set ?_ GE530.out | refine below_set ?_ GE535.out) | exact HB.out)⟩⟩
        ·
         rw [if_neg c15] at H
         have c15b0 := decide_eq_false c15
         have c15b1 : decide (((rd_T56 l0_0 x6_1).f0).size < ((rd_T56 l0_0 x7_1).f0).size) = false := decide_eq_false (fun h => c15 (Int.ofNat_lt.mpr h))
         clear c15
         have H' := aM_ H
         clear H
         have hnb18 := NB530_535.out
         have hnc18 := NB535_530.out
         have hcz19_0 : wr.cell? ⟨gb530, 0, none⟩ = some (.slice A0_0 l0_0.length c0_0) := (blk_cell BK530.out 0).trans rfl
         have hfz19_0 := blk_frozen BK530.out 0
         have p536 : 0 ≤ (x7_1 : Int) := of_decide_eq_true (by (with_reducible assumption))
         have q536 : x7_1 < (l0_0.length : Int) := of_decide_eq_true (by (with_reducible assumption))
         obtain ⟨ad536, e536, hx536_0, hx536_1, hx536_2⟩ := at_T56 HR0_0.out x7_1 p536 q536
         cases e536
         replace hx536_0 := (HB.out.cell (World.block_lt_of_cell? w _ hx536_0)).trans hx536_0
         replace hx536_1 := (HB.out.cell (World.block_lt_of_cell? w _ hx536_1)).trans hx536_1
         replace hx536_2 := (HB.out.cell (World.block_lt_of_cell? w _ hx536_2)).trans hx536_2
         replace p536 := eq_true p536
         replace q536 := eq_true q536
         have p537 : 0 ≤ (x6_1 : Int) := of_decide_eq_true (by (with_reducible assumption))
         have q537 : x6_1 < (l0_0.length : Int) := of_decide_eq_true (by (with_reducible assumption))
         obtain ⟨ad537, e537, hx537_0, hx537_1, hx537_2⟩ := at_T56 HR0_0.out x6_1 p537 q537
         obtain rfl : ad536 = ad537 := (by injection e537)
         replace hx537_0 := (HB.out.cell (World.block_lt_of_cell? w _ hx537_0)).trans hx537_0
         replace hx537_1 := (HB.out.cell (World.block_lt_of_cell? w _ hx537_1)).trans hx537_1
         replace hx537_2 := (HB.out.cell (World.block_lt_of_cell? w _ hx537_2)).trans hx537_2
         replace p537 := eq_true p537
         replace q537 := eq_true q537
         go_wp2
         repeat (go_quiet (fail); try go_wp2)
         go_roundg k1
         case measure => have := HK1.out; omega
         case rel => exact ⟨(x6_1), (wrap64 (x7_1 + 1)), (by rfl), (by rfl), H', ⟨by have := HK1.out; omega⟩, ⟨by (with_reducible repeat (first | apply Kd.R_alloc | apply Kd.R_drewN | apply Kd.R_drew)); exact HO_536000.out⟩, ⟨by (with_reducible repeat (first | refine blk_drewN ?_ _ | refine blk_drew ?_ | refine blk_alloc ?_ _)); exact BK530.out⟩, ⟨by (with_reducible repeat (first | refine blk_drewN ?_ _ | refine blk_drew ?_ | refine blk_alloc ?_ _)); exact BK535.out⟩, ⟨by repeat (first | (with_reducible first | exact HB.out | apply below_alloc | apply pw_below_drewN | apply below_drew1 | refine below_set ?_ GE530.out | refine below_set ?_ GE535.out) | exact HB.out)⟩⟩
       ·
        rw [if_neg c14] at H
        exact absurd H (by simp)
      ·
       rw [if_neg c13] at H
       exact absurd H (by simp)
     ·
      rw [if_neg c12] at H
      exact absurd H (by simp)
    ·
     rw [if_neg c11] at H
     have c11b0 := decide_eq_false c11
     clear c11
     simp only [Option.some.injEq, Prod.mk.injEq] at H
     obtain ⟨rfl, rfl⟩ := H
     have hnb20 := NB530_535.out
     have hnc20 := NB535_530.out
     have hcz21_0 : wr.cell? ⟨gb530, 0, none⟩ = some (.slice A0_0 l0_0.length c0_0) := (blk_cell BK530.out 0).trans rfl
     have hfz21_0 := blk_frozen BK530.out 0
     go_wp2
     repeat (go_quiet (fail); try go_wp2)
     go_ret2
     exact ⟨by rfl, by exact HB.out⟩
 ·
  replace c3 := Bool.eq_false_iff.mpr c3
  subst c3
  have H1 : (some (0, false)) = some (r1, r2) := by rw [if_neg (show ¬ (false = true) by decide)] at H; exact H
  clear H
  have H := H1
  clear H1
  simp only [Option.some.injEq, Prod.mk.injEq] at H
  obtain ⟨rfl, rfl⟩ := H
  go_enter Tryd.func17, Tryd.ntmps17
  go_wp2_with (first | ((with_reducible refine gate_dst (N := 1) rfl ?_); refine box_event ?hg (N := 1) ?hd (cs := #[.slice A0_0 l0_0.length c0_0]) (t := 29) ?hr ?_; (case hd => rfl); (case hg => rfl); (case hr => (go_simp; done)); intro gb530 hg w22 hbox hb; have BK530 := aM_ (hbox); have GW530 := aM_ ((by rw [hg]; exact (below_size HB.out) : w.heap.size ≤ gb530)); have GE530 := GW530; replace HB := aM_ (below_step HB.out hb); clear hb hbox hg; have hcz23_0 : w22.cell? ⟨gb530, 0, none⟩ = some (.slice A0_0 l0_0.length c0_0) := (blk_cell BK530.out 0).trans rfl; have hfz23_0 := blk_frozen BK530.out 0) | (go_at_call 22; (with_reducible refine (spec_l4Open.calls k _ _ l0_0 t531 false _ ?side1 ?side2 A2.out).mono ?_); (case side1 => repeat (first | exact (Kd.C_below HR0_0.out HB.out) | (with_reducible refine Kd.C_alloc ?_ _) | (with_reducible refine Kd.C_drewN ?_ _) | (with_reducible refine Kd.C_drew ?_))); (case side2 => exact HC0_0.out); rintro e w24 ⟨v532, rfl, ho0, hb⟩; have HO533 := aM_ (Kd.R_lower ho0 (below_size HB.out)); replace BK530 := aM_ (blk_below BK530.out hb); replace HB := aM_ (below_step HB.out hb); (try clear hb); (try clear hb2); (try clear hk); (try clear hi); (try clear ho0)) | ((with_reducible refine gate_dst (N := 4) rfl ?_); refine box_event ?hg (N := 4) ?hd (cs := #[.slice none 0 0]) (t := 44) ?hr ?_; (case hd => rfl); (case hg => rfl); (case hr => (go_simp; done)); intro gb535 hg w25 hbox hb; replace HO533 := aM_ (Kd.R_below HO533.out hb); have BK535 := aM_ (hbox); have GW535 := aM_ ((by rw [hg]; exact (below_size HB.out) : w.heap.size ≤ gb535)); have GE535 := GW535; replace HB := aM_ (below_step HB.out hb); have NB530_535 := aM_ ((by rw [hg]; exact Nat.ne_of_lt (blk_lt BK530.out) : gb530 ≠ gb535)); have NB535_530 := aM_ NB530_535.out.symm; replace BK530 := aM_ (blk_below BK530.out hb); clear hb hbox hg; obtain ⟨Ao26, co26, eo26⟩ := Kd.R_slice HO533.out; subst eo26; have hnb27 := NB535_530.out; have hnc27 := NB530_535.out; have hcz28_0 : w25.cell? ⟨gb535, 0, none⟩ = some (.slice none 0 0) := (blk_cell BK535.out 0).trans rfl; have hfz28_0 := blk_frozen BK535.out 0))
  repeat (go_quiet (first | ((with_reducible refine gate_dst (N := 1) rfl ?_); refine box_event ?hg (N := 1) ?hd (cs := #[.slice A0_0 l0_0.length c0_0]) (t := 29) ?hr ?_; (case hd => rfl); (case hg => rfl); (case hr => first | (go_simp; done) | (go_simp; rfl)); intro gb530 hg w22 hbox hb; have BK530 := aM_ (hbox); have GW530 := aM_ ((by rw [hg]; exact (below_size (by repeat (first | (with_reducible first | exact HB.out | apply below_alloc | apply pw_below_drewN | apply below_drew1) | exact HB.out))) : w.heap.size ≤ gb530)); have GE530 := GW530; replace HB := aM_ (below_step (by repeat (first | (with_reducible first | exact HB.out | apply below_alloc | apply pw_below_drewN | apply below_drew1) | exact HB.out)) hb); clear hb hbox hg; have hcz23_0 : w22.cell? ⟨gb530, 0, none⟩ = some (.slice A0_0 l0_0.length c0_0) := (blk_cell BK530.out 0).trans rfl; have hfz23_0 := blk_frozen BK530.out 0) | (go_at_call 22; (with_reducible refine (spec_l4Open.calls k _ _ l0_0 t531 false _ ?side1 ?side2 A2.out).mono ?_); (case side1 => repeat (first | exact (Kd.C_below HR0_0.out HB.out) | (with_reducible refine Kd.C_alloc ?_ _) | (with_reducible refine Kd.C_drewN ?_ _) | (with_reducible refine Kd.C_drew ?_))); (case side2 => exact HC0_0.out); rintro e w24 ⟨v532, rfl, ho0, hb⟩; have HO533 := aM_ (Kd.R_lower ho0 (below_size (by repeat (first | (with_reducible first | exact HB.out | apply below_alloc | apply pw_below_drewN | apply below_drew1 | refine below_set ?_ GE530.out) | exact HB.out)))); replace BK530 := aM_ (blk_below (g := gb530) (o := .cells #[.slice A0_0 l0_0.length c0_0] 29 (0, 0)) (by (with_reducible repeat (first | refine blk_drewN ?_ _ | refine blk_drew ?_ | refine blk_alloc ?_ _)); exact BK530.out) hb); replace HB := aM_ (below_step (by repeat (first | (with_reducible first | exact HB.out | apply below_alloc | apply pw_below_drewN | apply below_drew1 | refine below_set ?_ GE530.out) | exact HB.out)) hb); (try clear hb); (try clear hb2); (try clear hk); (try clear hi); (try clear ho0)) | ((with_reducible refine gate_dst (N := 4) rfl ?_); refine box_event ?hg (N := 4) ?hd (cs := #[.slice none 0 0]) (t := 44) ?hr ?_; (case hd => rfl); (case hg => rfl); (case hr => first | (go_simp; done) | (go_simp; rfl)); intro gb535 hg w25 hbox hb; replace HO533 := aM_ (Kd.R_below (by (with_reducible repeat (first | apply Kd.R_alloc | apply Kd.R_drewN | apply Kd.R_drew)); exact HO533.out) hb); have BK535 := aM_ (hbox); have GW535 := aM_ ((by rw [hg]; exact (below_size (by repeat (first | (with_reducible first | exact HB.out | apply below_alloc | apply pw_below_drewN | apply below_drew1 | refine below_set ?_ GE530.out) | exact HB.out))) : w.heap.size ≤ gb535)); have GE535 := GW535; replace HB := aM_ (below_step (by repeat (first | (with_reducible first | exact HB.out | apply below_alloc | apply pw_below_drewN | apply below_drew1 | refine below_set ?_ GE530.out) | exact HB.out)) hb); have NB530_535 := aM_ ((by rw [hg]; exact Nat.ne_of_lt (blk_lt (g := gb530) (o := .cells #[.slice A0_0 l0_0.length c0_0] 29 (0, 0)) (by (with_reducible repeat (first | refine blk_drewN ?_ _ | refine blk_drew ?_ | refine blk_alloc ?_ _)); exact BK530.out)) : gb530 ≠ gb535)); have NB535_530 := aM_ ((by rw [hg]; exact Nat.ne_of_gt (blk_lt (g := gb530) (o := .cells #[.slice A0_0 l0_0.length c0_0] 29 (0, 0)) (by (with_reducible repeat (first | refine blk_drewN ?_ _ | refine blk_drew ?_ | refine blk_alloc ?_ _)); exact BK530.out)) : gb535 ≠ gb530)); replace BK530 := aM_ (blk_below (g := gb530) (o := .cells #[.slice A0_0 l0_0.length c0_0] 29 (0, 0)) (by (with_reducible repeat (first | refine blk_drewN ?_ _ | refine blk_drew ?_ | refine blk_alloc ?_ _)); exact BK530.out) hb); clear hb hbox hg; obtain ⟨Ao26, co26, eo26⟩ := Kd.R_slice HO533.out; subst eo26; have hnb27 := NB535_530.out; have hnc27 := NB530_535.out; have hcz28_0 : w25.cell? ⟨gb535, 0, none⟩ = some (.slice none 0 0) := (blk_cell BK535.out 0).trans rfl; have hfz28_0 := blk_frozen BK535.out 0)); try go_wp2_with (first | fail))
  go_ret2
  exact ⟨by rfl, by repeat (first | (with_reducible first | exact HB.out | apply below_alloc | apply pw_below_drewN | apply below_drew1 | refine below_set ?_ GE530.out | refine below_set ?_ GE535.out) | exact HB.out)⟩
def laws_FnExactLongestBranch.j0 : Nat → Bool → List (S61) → List (S56) → Option (Bool)
 | 0, _, _, _ => none
 | k + 1, x34, x544000, x554000 => if x34 = true then (some false) else ((laws_toPressed.f k x544000).bind fun t556 => ((laws_eqPressed.f k x554000 t556).bind fun t559 => (if t559 = true then (some true) else (some false))))
def laws_FnExactLongestBranch.f (k : Nat) (l0_0 : List (S61)) : Option (Bool) := (laws_szPressed.f k l0_0 1048576).bind fun t544 => (if t544 < 0 then (some true) else ((laws_toPressed.f k l0_0).bind fun t545 => ((spec_LongestBranch.f k t545).bind fun bt548 => ((laws_toPressed.f k l0_0).bind fun t550 => ((impl_LongestBranch.f k t550).bind fun bt554 => (if bt554.1 = bt548.1 then (laws_FnExactLongestBranch.j0 k (bt554.2 != bt548.2) l0_0 t550) else (laws_FnExactLongestBranch.j0 k true l0_0 t550)))))))
theorem laws_FnExactLongestBranch.mono_l : ∀ k, (∀ y0 y1 y2, LeO (laws_FnExactLongestBranch.j0 k y0 y1 y2) (laws_FnExactLongestBranch.j0 (k + 1) y0 y1 y2))
 | 0 => fun _ _ _ r h => by simp [laws_FnExactLongestBranch.j0] at h
 | k + 1 => by
  have ih0 := laws_FnExactLongestBranch.mono_l k
  ·
   intro y0 y1 y2
   unfold laws_FnExactLongestBranch.j0
   repeat' first
   | (with_reducible exact ih0 _ _ _)
   | (with_reducible exact impl_LongestBranch.mono _ _)
   | (with_reducible exact laws_eqPressed.mono _ _ _)
   | (with_reducible exact laws_szPressed.mono _ _ _)
   | (with_reducible exact laws_toPressed.mono _ _)
   | (with_reducible exact spec_LongestBranch.mono _ _)
   | (with_reducible exact LeO.refl _)
   | (with_reducible exact LeO.none _)
   | (with_reducible refine LeO.ite ?_ ?_)
   | (with_reducible refine LeO.bind ?_ (fun _ => ?_))
   | exact ih0 _ _ _
   | exact impl_LongestBranch.mono _ _
   | exact laws_eqPressed.mono _ _ _
   | exact laws_szPressed.mono _ _ _
   | exact laws_toPressed.mono _ _
   | exact spec_LongestBranch.mono _ _
   | exact LeO.none _
   | refine LeO.ite ?_ ?_
   | refine LeO.bind ?_ (fun _ => ?_)
theorem laws_FnExactLongestBranch.mono : ∀ a0 k, LeO (laws_FnExactLongestBranch.f k a0) (laws_FnExactLongestBranch.f (k + 1) a0) := by
 intro a0 k
 have ih0 := laws_FnExactLongestBranch.mono_l k
 unfold laws_FnExactLongestBranch.f
 repeat' first
   | (with_reducible exact ih0 _ _ _)
   | (with_reducible exact impl_LongestBranch.mono _ _)
   | (with_reducible exact laws_eqPressed.mono _ _ _)
   | (with_reducible exact laws_szPressed.mono _ _ _)
   | (with_reducible exact laws_toPressed.mono _ _)
   | (with_reducible exact spec_LongestBranch.mono _ _)
   | (with_reducible exact LeO.refl _)
   | (with_reducible exact LeO.none _)
   | (with_reducible refine LeO.ite ?_ ?_)
   | (with_reducible refine LeO.bind ?_ (fun _ => ?_))
   | exact ih0 _ _ _
   | exact impl_LongestBranch.mono _ _
   | exact laws_eqPressed.mono _ _ _
   | exact laws_szPressed.mono _ _ _
   | exact laws_toPressed.mono _ _
   | exact spec_LongestBranch.mono _ _
   | exact LeO.none _
   | refine LeO.ite ?_ ?_
   | refine LeO.bind ?_ (fun _ => ?_)
theorem laws_FnExactLongestBranch.calls (k : Nat) (A0_0 : Option Addr) (c0_0 : Nat) (l0_0 : List (S61)) (r : Bool) (w : World) (hr0_0 : Kd.C k61 w A0_0 l0_0.length l0_0) (hc0_0 : l0_0.length ≤ c0_0) (h : laws_FnExactLongestBranch.f k l0_0 = some r) :
  Calls Tryd.prog 6 #[.agg #[.slice A0_0 l0_0.length c0_0]] w fun e w' => e = .returned (.bool r) ∧ Below w.heap.size w w' := by
 have hu24 := Tryd.underlying24
 have hu29 := Tryd.underlying29
 have HR0_0 := aM_ hr0_0
 have HC0_0 := aM_ hc0_0
 clear hr0_0 hc0_0
 have HB := aM_ (Below.refl w.heap.size w)
 have H : ((laws_szPressed.f k l0_0 1048576).bind fun t544 => (if t544 < 0 then (some true) else ((laws_toPressed.f k l0_0).bind fun t545 => ((spec_LongestBranch.f k t545).bind fun bt548 => ((laws_toPressed.f k l0_0).bind fun t550 => ((impl_LongestBranch.f k t550).bind fun bt554 => (if bt554.1 = bt548.1 then (laws_FnExactLongestBranch.j0 k (bt554.2 != bt548.2) l0_0 t550) else (laws_FnExactLongestBranch.j0 k true l0_0 t550)))))))) = some r := h
 clear h
 replace H := Option.bind_eq_some_iff.mp H
 obtain ⟨t544, A20, H⟩ := H
 try dsimp only at H
 have A2 := aM_ A20
 clear A20
 by_cases c3 : t544 < 0
 ·
  rw [if_pos c3] at H
  have c3b0 := decide_eq_true c3
  clear c3
  obtain rfl := Option.some.inj H
  go_enter Tryd.func6, Tryd.ntmps6
  go_wp2_with (first | ((with_reducible refine gate_dst (N := 1) rfl ?_); refine box_event ?hg (N := 1) ?hd (cs := #[.slice A0_0 l0_0.length c0_0]) (t := 24) ?hr ?_; (case hd => rfl); (case hg => rfl); (case hr => (go_simp; done)); intro gb543 hg w4 hbox hb; have BK543 := aM_ (hbox); have GW543 := aM_ ((by rw [hg]; exact (below_size HB.out) : w.heap.size ≤ gb543)); have GE543 := GW543; replace HB := aM_ (below_step HB.out hb); clear hb hbox hg; have hcz5_0 : w4.cell? ⟨gb543, 0, none⟩ = some (.slice A0_0 l0_0.length c0_0) := (blk_cell BK543.out 0).trans rfl; have hfz5_0 := blk_frozen BK543.out 0) | ((with_reducible refine gate_callee (f := 8) rfl ?_); refine goesL_ (some 11) rfl rfl Tryd.func8 (by kernel_rfl) rfl #[.agg #[.slice A0_0 l0_0.length c0_0], .int .i64 1048576] rfl (by (try simp only [sD_, sE_, sF_]); rfl) ?_; (with_reducible refine (laws_szPressed.calls k _ _ l0_0 1048576 t544 _ ?side1 ?side2 A2.out).mono ?_); (case side1 => repeat (first | exact (Kd.C_below HR0_0.out HB.out) | (with_reducible refine Kd.C_alloc ?_ _) | (with_reducible refine Kd.C_drewN ?_ _) | (with_reducible refine Kd.C_drew ?_))); (case side2 => exact HC0_0.out); rintro e w6 ⟨rfl, hb⟩; refine ⟨_, rfl, ?_⟩; replace BK543 := aM_ (blk_below BK543.out hb); replace HB := aM_ (below_step HB.out hb); (try clear hb); (try clear hb2); (try clear hk); (try clear hi)))
  go_ret
  exact ⟨by rfl, by exact HB.out⟩
 ·
  rw [if_neg c3] at H
  have c3b0 := decide_eq_false c3
  clear c3
  replace H := Option.bind_eq_some_iff.mp H
  obtain ⟨t545, A70, H⟩ := H
  try dsimp only at H
  have A7 := aM_ A70
  clear A70
  replace H := Option.bind_eq_some_iff.mp H
  obtain ⟨⟨t548, t549⟩, A80, H⟩ := H
  try dsimp only at H
  have A8 := aM_ A80
  clear A80
  replace H := Option.bind_eq_some_iff.mp H
  obtain ⟨t550, A90, H⟩ := H
  try dsimp only at H
  have A9 := aM_ A90
  clear A90
  replace H := Option.bind_eq_some_iff.mp H
  obtain ⟨⟨t554, t555⟩, A100, H⟩ := H
  try dsimp only at H
  have A10 := aM_ A100
  clear A100
  have HC11 := aM_ H
  clear H
  go_enter Tryd.func6, Tryd.ntmps6
  go_upto_region 8 with (first | ((with_reducible refine gate_dst (N := 1) rfl ?_); refine box_event ?hg (N := 1) ?hd (cs := #[.slice A0_0 l0_0.length c0_0]) (t := 24) ?hr ?_; (case hd => rfl); (case hg => rfl); (case hr => (go_simp; done)); intro gb543 hg w12 hbox hb; have BK543 := aM_ (hbox); have GW543 := aM_ ((by rw [hg]; exact (below_size HB.out) : w.heap.size ≤ gb543)); have GE543 := GW543; replace HB := aM_ (below_step HB.out hb); clear hb hbox hg; have hcz13_0 : w12.cell? ⟨gb543, 0, none⟩ = some (.slice A0_0 l0_0.length c0_0) := (blk_cell BK543.out 0).trans rfl; have hfz13_0 := blk_frozen BK543.out 0) | ((with_reducible refine gate_callee (f := 8) rfl ?_); refine goesL_ (some 11) rfl rfl Tryd.func8 (by kernel_rfl) rfl #[.agg #[.slice A0_0 l0_0.length c0_0], .int .i64 1048576] rfl (by (try simp only [sD_, sE_, sF_]); rfl) ?_; (with_reducible refine (laws_szPressed.calls k _ _ l0_0 1048576 t544 _ ?side1 ?side2 A2.out).mono ?_); (case side1 => repeat (first | exact (Kd.C_below HR0_0.out HB.out) | (with_reducible refine Kd.C_alloc ?_ _) | (with_reducible refine Kd.C_drewN ?_ _) | (with_reducible refine Kd.C_drew ?_))); (case side2 => exact HC0_0.out); rintro e w14 ⟨rfl, hb⟩; refine ⟨_, rfl, ?_⟩; replace BK543 := aM_ (blk_below BK543.out hb); replace HB := aM_ (below_step HB.out hb); (try clear hb); (try clear hb2); (try clear hk); (try clear hi); have hcz15_0 : w14.cell? ⟨gb543, 0, none⟩ = some (.slice A0_0 l0_0.length c0_0) := (blk_cell BK543.out 0).trans rfl; have hfz15_0 := blk_frozen BK543.out 0) | ((with_reducible refine gate_callee (f := 10) rfl ?_); refine goesL_ (some 16) rfl rfl Tryd.func10 (by kernel_rfl) rfl #[.agg #[.slice A0_0 l0_0.length c0_0]] rfl (by (try simp only [sD_, sE_, sF_]); rfl) ?_; (with_reducible refine (laws_toPressed.calls k _ _ l0_0 t545 _ ?side1 ?side2 A7.out).mono ?_); (case side1 => repeat (first | exact (Kd.C_below HR0_0.out HB.out) | (with_reducible refine Kd.C_alloc ?_ _) | (with_reducible refine Kd.C_drewN ?_ _) | (with_reducible refine Kd.C_drew ?_))); (case side2 => exact HC0_0.out); rintro e w16 ⟨v546, rfl, ho0, hb⟩; refine ⟨_, rfl, ?_⟩; have HO547 := aM_ (Kd.R_lower ho0 (below_size HB.out)); replace BK543 := aM_ (blk_below BK543.out hb); replace HB := aM_ (below_step HB.out hb); (try clear hb); (try clear hb2); (try clear hk); (try clear hi); (try clear ho0); obtain ⟨Ao17, co17, eo17⟩ := Kd.R_slice HO547.out; subst eo17) | ((with_reducible refine gate_callee (f := 17) rfl ?_); refine goesL_ (some 17) rfl rfl Tryd.func17 (by kernel_rfl) rfl #[.agg #[.slice Ao17 t545.length co17]] rfl (by (try simp only [sD_, sE_, sF_]); rfl) ?_; (with_reducible refine (spec_LongestBranch.calls k _ _ t545 t548 t549 _ ?side1 ?side2 A8.out).mono ?_); (case side1 => repeat (first | exact (Kd.R_reads' HO547.out).2.2 | (with_reducible refine Kd.C_alloc ?_ _) | (with_reducible refine Kd.C_drewN ?_ _) | (with_reducible refine Kd.C_drew ?_))); (case side2 => exact (Kd.R_reads' HO547.out).2.1); rintro e w18 ⟨rfl, hb⟩; refine ⟨_, rfl, ?_⟩; replace HO547 := aM_ (Kd.R_below HO547.out hb); replace BK543 := aM_ (blk_below BK543.out hb); replace HB := aM_ (below_step HB.out hb); (try clear hb); (try clear hb2); (try clear hk); (try clear hi); have hcz19_0 : w18.cell? ⟨gb543, 0, none⟩ = some (.slice A0_0 l0_0.length c0_0) := (blk_cell BK543.out 0).trans rfl; have hfz19_0 := blk_frozen BK543.out 0) | ((with_reducible refine gate_callee (f := 10) rfl ?_); refine goesL_ (some 21) rfl rfl Tryd.func10 (by kernel_rfl) rfl #[.agg #[.slice A0_0 l0_0.length c0_0]] rfl (by (try simp only [sD_, sE_, sF_]); rfl) ?_; (with_reducible refine (laws_toPressed.calls k _ _ l0_0 t550 _ ?side1 ?side2 A9.out).mono ?_); (case side1 => repeat (first | exact (Kd.C_below HR0_0.out HB.out) | (with_reducible refine Kd.C_alloc ?_ _) | (with_reducible refine Kd.C_drewN ?_ _) | (with_reducible refine Kd.C_drew ?_))); (case side2 => exact HC0_0.out); rintro e w20 ⟨v551, rfl, ho0, hb⟩; refine ⟨_, rfl, ?_⟩; have HO552 := aM_ (Kd.R_lower (Kd.R_new' ho0 (Kd.R_lt HO547.out)) (below_size HB.out)); replace HO547 := aM_ (Kd.R_elder' HO547.out (Kd.R_base ho0) hb); replace BK543 := aM_ (blk_below BK543.out hb); replace HB := aM_ (below_step HB.out hb); (try clear hb); (try clear hb2); (try clear hk); (try clear hi); (try clear ho0)) | ((with_reducible refine gate_dst (N := 6) rfl ?_); refine box_event ?hg (N := 6) ?hd (cs := #[.slice none 0 0]) (t := 29) ?hr ?_; (case hd => rfl); (case hg => rfl); (case hr => (go_simp; done)); intro gb553 hg w21 hbox hb; replace HO547 := aM_ (Kd.R_below HO547.out hb); replace HO552 := aM_ (Kd.R_below HO552.out hb); have BK553 := aM_ (hbox); have GW553 := aM_ ((by rw [hg]; exact (below_size HB.out) : w.heap.size ≤ gb553)); have GE553 := GW553; replace HB := aM_ (below_step HB.out hb); have NB543_553 := aM_ ((by rw [hg]; exact Nat.ne_of_lt (blk_lt BK543.out) : gb543 ≠ gb553)); have NB553_543 := aM_ NB543_553.out.symm; replace BK543 := aM_ (blk_below BK543.out hb); clear hb hbox hg; obtain ⟨Ao22, co22, eo22⟩ := Kd.R_slice HO552.out; subst eo22; have hnb23 := NB553_543.out; have hnc23 := NB543_553.out; have hcz24_0 : w21.cell? ⟨gb553, 0, none⟩ = some (.slice none 0 0) := (blk_cell BK553.out 0).trans rfl; have hfz24_0 := blk_frozen BK553.out 0) | ((with_reducible refine gate_callee (f := 18) rfl ?_); refine goesL_ (some 24) rfl rfl Tryd.func18 (by kernel_rfl) rfl #[.agg #[.slice Ao22 t550.length co22]] rfl (by (try simp only [sD_, sE_, sF_]); rfl) ?_; (with_reducible refine (impl_LongestBranch.calls k _ _ t550 t554 t555 _ ?side1 ?side2 A10.out).mono ?_); (case side1 => refine (Kd.R_reads' (e := 56) (base := w.heap.size) (ok := fun k_ => (True ∧ some k_ ≠ (.slice Ao17 t545.length co17 : Value).ownBlock)) (n := t550.length) (c := co22) ?_).2.2; exact (by exact (Kd.R_mono (Kd.R_far (p := ⟨gb553, 0, none⟩) (Kd.R_types HO552.out BK553.out (by decide)) (fun _ hk => hk.2) (.slice Ao22 t550.length co22)) (fun _ h_ => h_.1)))); (case side2 => exact (Kd.R_reads' HO552.out).2.1); rintro e w25 ⟨rfl, hb⟩; refine ⟨_, rfl, ?_⟩; replace HO547 := aM_ (Kd.R_below (by exact (Kd.R_mono (Kd.R_far (p := ⟨gb553, 0, none⟩) (Kd.R_types HO547.out BK553.out (by decide)) (fun _ hk => hk.2) (.slice Ao22 t550.length co22)) (fun _ h_ => h_.1))) hb); replace HO552 := aM_ (Kd.R_below (by exact (Kd.R_mono (Kd.R_far (p := ⟨gb553, 0, none⟩) (Kd.R_types HO552.out BK553.out (by decide)) (fun _ hk => hk.2) (.slice Ao22 t550.length co22)) (fun _ h_ => h_.1))) hb); replace BK543 := aM_ (blk_below (g := gb543) (o := .cells #[.slice A0_0 l0_0.length c0_0] 24 (0, 0)) (by refine blk_far ?_ NB543_553.out _; exact BK543.out) hb); replace BK553 := aM_ (blk_below (g := gb553) (o := .cells #[.slice Ao22 t550.length co22] 29 (0, 0)) (by refine blk_put (cs := #[.slice none 0 0]) ?_ 0 _ rfl; exact BK553.out) hb); replace HB := aM_ (below_step (by repeat (first | (with_reducible first | exact HB.out | apply below_alloc | apply pw_below_drewN | apply below_drew1 | refine below_set ?_ GE543.out | refine below_set ?_ GE553.out) | exact HB.out)) hb); (try clear hb); (try clear hb2); (try clear hk); (try clear hi)))
  (try simp only [Act.put, sA_, sB_, sC_])
  go_cut [34] (fun v34 wc => ∃ (kq : Nat) (x34_10 : Bool), v34 = .bool x34_10 ∧ Aside0 (laws_FnExactLongestBranch.j0 kq x34_10 l0_0 t550 = some r) ∧ Aside0 (kq ≤ k) ∧ Aside0 (Kd.R k56 56 wc w.heap.size (fun _ => True) (.slice Ao22 t550.length co22) t550) ∧ Aside0 (wc.heap[gb543]? = some (.cells #[(.slice A0_0 l0_0.length c0_0)] 24 (0, 0))) ∧ Aside0 (wc.heap[gb553]? = some (.cells #[(.slice Ao22 t550.length co22)] 29 (0, 0))) ∧ Aside0 (Below w.heap.size w wc))
  case first =>
   have H := HC11.out
   clear HC11
   by_cases c26 : t554 = t548
   ·
    rw [if_pos c26] at H
    have c26b0 : (t554 == t548) = true := beq_iff_eq.mpr c26
    have c26b1 : (t554 != t548) = false := bne_eq_false_iff_eq.mpr c26
    clear c26
    (skip)
    have H' := aM_ H
    clear H
    go_wp2
    go_meet
    case rel => exact ⟨_, ((t555 != t549)), (by rfl), H', ⟨by omega⟩, ⟨by exact Kd.R_mono HO552.out (fun _ hk => trivial)⟩, ⟨BK543.out⟩, ⟨BK553.out⟩, ⟨HB.out⟩⟩
   ·
    rw [if_neg c26] at H
    have c26b0 : (t554 == t548) = false := beq_eq_false_iff_ne.mpr c26
    have c26b1 : (t554 != t548) = true := bne_iff_ne.mpr c26
    (skip)
    have H' := aM_ H
    clear H
    go_wp2
    go_meet
    case rel => exact ⟨_, (true), (by rfl), H', ⟨by omega⟩, ⟨by exact Kd.R_mono HO552.out (fun _ hk => trivial)⟩, ⟨BK543.out⟩, ⟨BK553.out⟩, ⟨HB.out⟩⟩
  case rest =>
   clear HC11
   try clear c1
   try clear c2
   try clear p2
   try clear c3
   try clear c3b0
   try clear c6
   try clear c8
   try clear c10
   try clear c17
   try clear c18
   try clear c23
   try clear c26
   try clear c26b0
   try clear c26b1
   try clear hcz13_0
   try clear hcz15_0
   try clear hcz19_0
   try clear hcz24_0
   try clear hcz5_0
   try clear hfz13_0
   try clear hfz15_0
   try clear hfz19_0
   try clear hfz24_0
   try clear hfz5_0
   obtain ⟨kq, x34_10, rfl, HA, HJ10, HO_554000, BK543, BK553, HB⟩ := hcut
   cases kq with
   | zero => exact absurd HA.out (by simp [laws_FnExactLongestBranch.j0])
   | succ kj10 =>
    have H := HA.out
    clear HA
    simp only [laws_FnExactLongestBranch.j0] at H
    by_cases c27 : x34_10 = true
    ·
     subst c27
     rw [if_pos rfl] at H
     obtain rfl := Option.some.inj H
     go_wp2
     go_ret
     exact ⟨by rfl, by exact HB.out⟩
    ·
     replace c27 := Bool.eq_false_iff.mpr c27
     subst c27
     have H1 : ((laws_toPressed.f kj10 l0_0).bind fun t556 => ((laws_eqPressed.f kj10 t550 t556).bind fun t559 => (if t559 = true then (some true) else (some false)))) = some r := by rw [if_neg (show ¬ (false = true) by decide)] at H; exact H
     clear H
     have H := H1
     clear H1
     replace H := Option.bind_eq_some_iff.mp H
     obtain ⟨t556, A280, H⟩ := H
     try dsimp only at H
     have A28 := aM_ A280
     clear A280
     replace H := Option.bind_eq_some_iff.mp H
     obtain ⟨t559, A290, H⟩ := H
     try dsimp only at H
     have A29 := aM_ A290
     clear A290
     by_cases c30 : t559 = true
     ·
      subst c30
      rw [if_pos rfl] at H
      obtain rfl := Option.some.inj H
      try go_wp2
      have n0_ := aM_ (Kd.R_drew HO_554000.out)
      have n1_ := aM_ (blk_drew BK543.out)
      have n2_ := aM_ (blk_drew BK553.out)
      have n3_ := aM_ (below_drew1 HB.out)
      clear HO_554000
      clear BK543
      clear BK553
      clear HB
      have HO_554000 := n0_
      have BK543 := n1_
      have BK553 := n2_
      have HB := n3_
      clear n0_ n1_ n2_ n3_
      refine start_ (n := 5) (S := fun w' => w'.cell? ⟨gb553, 0, none⟩ = some (.slice Ao22 t550.length co22) ∧ w'.cell? ⟨gb543, 0, none⟩ = some (.slice A0_0 l0_0.length c0_0)) (ds := []) #[fy, fy, fy, fy, fy] (by kernel_rfl) rfl rfl ⟨(blk_cell BK553.out 0).trans rfl, (blk_cell BK543.out 0).trans rfl⟩ (fun hHeld => ?_)
      generalize wc.drew = w31 at HO_554000 BK543 BK553 HB hHeld ⊢
      refine take_ (i := 0) (N := some 35) (v := ?_) (a' := ?_) #[ty, fy, fy, fy, fy] rfl rfl (by kernel_rfl) (fun _ _ _ h => h) (Or.inl ⟨by rfl, ?_⟩) hHeld ?_ ?_; rotate_left; (rintro w' ⟨s0, s1⟩; go_simp; with_reducible rfl); rotate_left; (simp only [Act.put, sA_, sB_, sC_, i64_w, i32_w]; rfl)
      refine take_ (i := 1) (N := some 36) (v := ?_) (a' := ?_) #[ty, ty, fy, fy, fy] rfl rfl (by kernel_rfl) (fun _ _ _ h => h) (Or.inl ⟨by rfl, ?_⟩) hHeld ?_ ?_; rotate_left; (rintro w' ⟨s0, s1⟩; go_simp; with_reducible rfl); rotate_left; (simp only [Act.put, sA_, sB_, sC_, i64_w, i32_w]; rfl)
      refine one_ (i := 2) (N := some 37) #[ty, ty, ty, fy, fy] rfl rfl (by kernel_rfl) (by decide) (fun K hK => ?_)
      refine goes_ Tryd.func10 (by kernel_rfl) rfl #[.agg #[.slice A0_0 l0_0.length c0_0]] (by rfl) rfl rfl (by (try simp only [sD_, sE_, sF_]); rfl) ?_
      with_reducible refine (laws_toPressed.calls kj10 _ _ l0_0 t556 _ ?side1 ?side2 A28.out).mono ?_
      (case side1 => repeat (first | exact (Kd.C_below HR0_0.out HB.out) | (with_reducible refine Kd.C_alloc ?_ _) | (with_reducible refine Kd.C_drewN ?_ _) | (with_reducible refine Kd.C_drew ?_)))
      (case side2 => exact HC0_0.out)
      rintro e w32 ⟨v557, rfl, ho0, hb⟩
      refine ⟨_, rfl, ?_⟩
      have n0_ := aM_ (Kd.R_elder' HO_554000.out (Kd.R_base ho0) hb)
      have n1_ := aM_ (Kd.R_lower (Kd.R_new' ho0 (Kd.R_lt HO_554000.out)) (below_size HB.out))
      have n2_ := aM_ (blk_below BK543.out hb)
      have n3_ := aM_ (blk_below BK553.out hb)
      have n4_ := aM_ (below_step HB.out hb)
      clear HO_554000
      clear BK543
      clear BK553
      clear HB
      have HO_554000 := n0_
      have HO558 := n1_
      have BK543 := n2_
      have BK553 := n3_
      have HB := n4_
      clear n0_ n1_ n2_ n3_ n4_
      (try clear hb)
      (try clear hb2)
      (try clear hk)
      (try clear hi)
      (try clear ho0)
      obtain ⟨Ao33, co33, eo33⟩ := Kd.R_slice HO558.out
      (subst eo33)
      refine hK.out _ _ ⟨(blk_cell BK553.out 0).trans rfl, (blk_cell BK543.out 0).trans rfl⟩ (fun hHeld => ?_)
      clear hK K
      refine norm_ (a' := ?_) ?_ ?_; rotate_left; (show Act.put _ (some 37) _ = _; simp only [Act.put, sA_, sB_, sC_, i64_w, i32_w]; rfl)
      refine one_ (i := 3) (N := some 38) #[ty, ty, ty, ty, fy] rfl rfl (by kernel_rfl) (by decide) (fun K hK => ?_)
      refine goes_ Tryd.func12 (by kernel_rfl) rfl #[.agg #[.slice Ao22 t550.length co22], .agg #[.slice Ao33 t556.length co33]] (by rfl) rfl rfl (by (try simp only [sD_, sE_, sF_]); rfl) ?_
      with_reducible refine (laws_eqPressed.calls kj10 _ _ t550 _ _ t556 true _ ?side1 ?side2 ?side3 ?side4 A29.out).mono ?_
      (case side1 => repeat (first | exact (Kd.R_reads' HO_554000.out).2.2 | (with_reducible refine Kd.C_alloc ?_ _) | (with_reducible refine Kd.C_drewN ?_ _) | (with_reducible refine Kd.C_drew ?_)))
      (case side2 => exact (Kd.R_reads' HO_554000.out).2.1)
      (case side3 => repeat (first | exact (Kd.R_reads' HO558.out).2.2 | (with_reducible refine Kd.C_alloc ?_ _) | (with_reducible refine Kd.C_drewN ?_ _) | (with_reducible refine Kd.C_drew ?_)))
      (case side4 => exact (Kd.R_reads' HO558.out).2.1)
      rintro e w34 ⟨rfl, hb⟩
      refine ⟨_, rfl, ?_⟩
      have n0_ := aM_ (Kd.R_below HO_554000.out hb)
      have n1_ := aM_ (Kd.R_below HO558.out hb)
      have n2_ := aM_ (blk_below BK543.out hb)
      have n3_ := aM_ (blk_below BK553.out hb)
      have n4_ := aM_ (below_step HB.out hb)
      clear HO_554000
      clear HO558
      clear BK543
      clear BK553
      clear HB
      have HO_554000 := n0_
      have HO558 := n1_
      have BK543 := n2_
      have BK553 := n3_
      have HB := n4_
      clear n0_ n1_ n2_ n3_ n4_
      (try clear hb)
      (try clear hb2)
      (try clear hk)
      (try clear hi)
      refine hK.out _ _ ⟨(blk_cell BK553.out 0).trans rfl, (blk_cell BK543.out 0).trans rfl⟩ (fun hHeld => ?_)
      clear hK K
      refine norm_ (a' := ?_) ?_ ?_; rotate_left; (show Act.put _ (some 38) _ = _; simp only [Act.put, sA_, sB_, sC_, i64_w, i32_w]; rfl)
      refine pure_ (i := 4) (N := some 39) (v := ?_) (a' := ?_) #[ty, ty, ty, ty, ty] rfl rfl (by kernel_rfl) (fun _ _ _ h => h) (Or.inl ⟨by rfl, ?_⟩) ?_ ?_; rotate_left; (intro w'; go_simp; with_reducible rfl); rotate_left; (simp only [Act.put, sA_, sB_, sC_, i64_w, i32_w]; rfl)
      refine done_ (by kernel_rfl) ?_
      try go_wp2
      go_ret
      exact ⟨by rfl, by exact HB.out⟩
     ·
      replace c30 := Bool.eq_false_iff.mpr c30
      subst c30
      have H1 : (some false) = some r := by rw [if_neg (show ¬ (false = true) by decide)] at H; exact H
      clear H
      have H := H1
      clear H1
      obtain rfl := Option.some.inj H
      try go_wp2
      have n0_ := aM_ (Kd.R_drew HO_554000.out)
      have n1_ := aM_ (blk_drew BK543.out)
      have n2_ := aM_ (blk_drew BK553.out)
      have n3_ := aM_ (below_drew1 HB.out)
      clear HO_554000
      clear BK543
      clear BK553
      clear HB
      have HO_554000 := n0_
      have BK543 := n1_
      have BK553 := n2_
      have HB := n3_
      clear n0_ n1_ n2_ n3_
      refine start_ (n := 5) (S := fun w' => w'.cell? ⟨gb553, 0, none⟩ = some (.slice Ao22 t550.length co22) ∧ w'.cell? ⟨gb543, 0, none⟩ = some (.slice A0_0 l0_0.length c0_0)) (ds := []) #[fy, fy, fy, fy, fy] (by kernel_rfl) rfl rfl ⟨(blk_cell BK553.out 0).trans rfl, (blk_cell BK543.out 0).trans rfl⟩ (fun hHeld => ?_)
      generalize wc.drew = w35 at HO_554000 BK543 BK553 HB hHeld ⊢
      refine take_ (i := 0) (N := some 35) (v := ?_) (a' := ?_) #[ty, fy, fy, fy, fy] rfl rfl (by kernel_rfl) (fun _ _ _ h => h) (Or.inl ⟨by rfl, ?_⟩) hHeld ?_ ?_; rotate_left; (rintro w' ⟨s0, s1⟩; go_simp; with_reducible rfl); rotate_left; (simp only [Act.put, sA_, sB_, sC_, i64_w, i32_w]; rfl)
      refine take_ (i := 1) (N := some 36) (v := ?_) (a' := ?_) #[ty, ty, fy, fy, fy] rfl rfl (by kernel_rfl) (fun _ _ _ h => h) (Or.inl ⟨by rfl, ?_⟩) hHeld ?_ ?_; rotate_left; (rintro w' ⟨s0, s1⟩; go_simp; with_reducible rfl); rotate_left; (simp only [Act.put, sA_, sB_, sC_, i64_w, i32_w]; rfl)
      refine one_ (i := 2) (N := some 37) #[ty, ty, ty, fy, fy] rfl rfl (by kernel_rfl) (by decide) (fun K hK => ?_)
      refine goes_ Tryd.func10 (by kernel_rfl) rfl #[.agg #[.slice A0_0 l0_0.length c0_0]] (by rfl) rfl rfl (by (try simp only [sD_, sE_, sF_]); rfl) ?_
      with_reducible refine (laws_toPressed.calls kj10 _ _ l0_0 t556 _ ?side1 ?side2 A28.out).mono ?_
      (case side1 => repeat (first | exact (Kd.C_below HR0_0.out HB.out) | (with_reducible refine Kd.C_alloc ?_ _) | (with_reducible refine Kd.C_drewN ?_ _) | (with_reducible refine Kd.C_drew ?_)))
      (case side2 => exact HC0_0.out)
      rintro e w36 ⟨v557, rfl, ho0, hb⟩
      refine ⟨_, rfl, ?_⟩
      have n0_ := aM_ (Kd.R_elder' HO_554000.out (Kd.R_base ho0) hb)
      have n1_ := aM_ (Kd.R_lower (Kd.R_new' ho0 (Kd.R_lt HO_554000.out)) (below_size HB.out))
      have n2_ := aM_ (blk_below BK543.out hb)
      have n3_ := aM_ (blk_below BK553.out hb)
      have n4_ := aM_ (below_step HB.out hb)
      clear HO_554000
      clear BK543
      clear BK553
      clear HB
      have HO_554000 := n0_
      have HO558 := n1_
      have BK543 := n2_
      have BK553 := n3_
      have HB := n4_
      clear n0_ n1_ n2_ n3_ n4_
      (try clear hb)
      (try clear hb2)
      (try clear hk)
      (try clear hi)
      (try clear ho0)
      obtain ⟨Ao37, co37, eo37⟩ := Kd.R_slice HO558.out
      (subst eo37)
      refine hK.out _ _ ⟨(blk_cell BK553.out 0).trans rfl, (blk_cell BK543.out 0).trans rfl⟩ (fun hHeld => ?_)
      clear hK K
      refine norm_ (a' := ?_) ?_ ?_; rotate_left; (show Act.put _ (some 37) _ = _; simp only [Act.put, sA_, sB_, sC_, i64_w, i32_w]; rfl)
      refine one_ (i := 3) (N := some 38) #[ty, ty, ty, ty, fy] rfl rfl (by kernel_rfl) (by decide) (fun K hK => ?_)
      refine goes_ Tryd.func12 (by kernel_rfl) rfl #[.agg #[.slice Ao22 t550.length co22], .agg #[.slice Ao37 t556.length co37]] (by rfl) rfl rfl (by (try simp only [sD_, sE_, sF_]); rfl) ?_
      with_reducible refine (laws_eqPressed.calls kj10 _ _ t550 _ _ t556 false _ ?side1 ?side2 ?side3 ?side4 A29.out).mono ?_
      (case side1 => repeat (first | exact (Kd.R_reads' HO_554000.out).2.2 | (with_reducible refine Kd.C_alloc ?_ _) | (with_reducible refine Kd.C_drewN ?_ _) | (with_reducible refine Kd.C_drew ?_)))
      (case side2 => exact (Kd.R_reads' HO_554000.out).2.1)
      (case side3 => repeat (first | exact (Kd.R_reads' HO558.out).2.2 | (with_reducible refine Kd.C_alloc ?_ _) | (with_reducible refine Kd.C_drewN ?_ _) | (with_reducible refine Kd.C_drew ?_)))
      (case side4 => exact (Kd.R_reads' HO558.out).2.1)
      rintro e w38 ⟨rfl, hb⟩
      refine ⟨_, rfl, ?_⟩
      have n0_ := aM_ (Kd.R_below HO_554000.out hb)
      have n1_ := aM_ (Kd.R_below HO558.out hb)
      have n2_ := aM_ (blk_below BK543.out hb)
      have n3_ := aM_ (blk_below BK553.out hb)
      have n4_ := aM_ (below_step HB.out hb)
      clear HO_554000
      clear HO558
      clear BK543
      clear BK553
      clear HB
      have HO_554000 := n0_
      have HO558 := n1_
      have BK543 := n2_
      have BK553 := n3_
      have HB := n4_
      clear n0_ n1_ n2_ n3_ n4_
      (try clear hb)
      (try clear hb2)
      (try clear hk)
      (try clear hi)
      refine hK.out _ _ ⟨(blk_cell BK553.out 0).trans rfl, (blk_cell BK543.out 0).trans rfl⟩ (fun hHeld => ?_)
      clear hK K
      refine norm_ (a' := ?_) ?_ ?_; rotate_left; (show Act.put _ (some 38) _ = _; simp only [Act.put, sA_, sB_, sC_, i64_w, i32_w]; rfl)
      refine pure_ (i := 4) (N := some 39) (v := ?_) (a' := ?_) #[ty, ty, ty, ty, ty] rfl rfl (by kernel_rfl) (fun _ _ _ h => h) (Or.inl ⟨by rfl, ?_⟩) ?_ ?_; rotate_left; (intro w'; go_simp; with_reducible rfl); rotate_left; (simp only [Act.put, sA_, sB_, sC_, i64_w, i32_w]; rfl)
      refine done_ (by kernel_rfl) ?_
      try go_wp2
      go_ret
      exact ⟨by rfl, by exact HB.out⟩
def laws_FnExactLongestBranch.Pure : Prop := ∀ (l0_0 : List S61), l0_0.length ≤ 9223372036854775807 → (∀ x ∈ l0_0, x.f0.size ≤ 9223372036854775807) → ∃ k, laws_FnExactLongestBranch.f k l0_0 = some true
theorem laws_FnExactLongestBranch.walk (P : laws_FnExactLongestBranch.Pure) (w : World) (A0 : Option Addr) (c0 : Nat) (l0_0 : List S61) (hr0 : Kd.C k61 w A0 l0_0.length l0_0) (hc0 : l0_0.length ≤ c0) (hs0 : ∀ x ∈ l0_0, x.f0.size ≤ 9223372036854775807) :
  Calls Tryd.prog 6 #[.agg #[.slice A0 l0_0.length c0]] w fun e w' => e = .returned (.bool true) ∧ Below w.heap.size w w' := by
 obtain ⟨k, h⟩ := P l0_0 hr0.2.1 hs0
 refine (laws_FnExactLongestBranch.calls k _ _ l0_0 true w hr0 hc0 h).mono ?_
 rintro e w' ⟨rfl, hd⟩
 exact ⟨rfl, hd⟩
end Go.Proofs.YtfhffcefpnkllaaDoor.P
namespace Go.Proofs.YtfhffcefpnkllaaDoor.Pure
open Go.RowKit Go.Proofs.YtfhffcefpnkllaaDoor.P Go.Proofs.YtfhffcefpnkllaaDoor.M Go.Proofs.YtfhffcefpnkllaaDoorW.PrintWords Go.Proofs.YtfhffcefpnkllaaDoorW.PrintLast Go.Proofs.YtfhffcefpnkllaaDoorW.PrintMore
open Go.Proofs.YtfhffcefpnkllaaDoor.L
namespace LongestBranch
def bm (f : Nat → Int) : Nat → Nat → Nat → Nat
 | 0, _, b => b
 | d + 1, i, b => bm f d (i + 1) (if f i > f b then i else b)
def sz (N : List Bd) (i : Nat) : Int := ((rd_T56 N (i : Int)).f0.size : Int)
theorem spec_loop (N : List Bd) (hN : N.length ≤ 1000000) : ∀ d i b, i + d = N.length → b < N.length → Ev (fun k => spec_LongestBranch.l0 k (b : Int) (i : Int) N) ((bm (sz N) d i b : Int), true) := by
 intro d
 induction d with
 | zero => intro i b h hb; exact Ev.step (fun k => spec_LongestBranch.l0.eq_2 ..) (Ev.ifF (by omega) (Ev.now _))
 | succ d ih =>
  intro i b h hb
  refine Ev.step (fun k => spec_LongestBranch.l0.eq_2 ..) (Ev.ifT (by omega) (Ev.ifT (by omega) (Ev.ifT (by omega) (Ev.ifT (by omega) ?_))))
  rw [wrap64_succ i (by omega), bm]
  by_cases c : sz N i > sz N b
  ·
   rw [if_pos c]; exact Ev.ifT c (ih (i + 1) i (by omega) (by omega))
  ·
   rw [if_neg c]; exact Ev.ifF c (ih (i + 1) b (by omega) hb)
theorem impl_loop (N : List Bd) (hN : N.length ≤ 1000000) : ∀ d i b, i + d = N.length → b < N.length → Ev (fun k => impl_LongestBranch.l0 k (b : Int) N (N.length : Int) (i : Int) N) ((bm (sz N) d i b : Int), true) := by
 intro d
 induction d with
 | zero => intro i b h hb; exact Ev.step (fun k => impl_LongestBranch.l0.eq_2 ..) (Ev.ifF (by omega) (Ev.now _))
 | succ d ih =>
  intro i b h hb
  refine Ev.step (fun k => impl_LongestBranch.l0.eq_2 ..) (Ev.ifT (by omega) (Ev.ifT (by omega) (Ev.ifT (by omega) (Ev.ifT (by omega) (Ev.ifT (by omega) ?_)))))
  rw [wrap64_succ i (by omega), bm]
  by_cases c : sz N i > sz N b
  ·
   rw [if_pos c]; exact Ev.ifT c (ih (i + 1) i (by omega) (by omega))
  ·
   rw [if_neg c]; exact Ev.ifF c (ih (i + 1) b (by omega) hb)
theorem both (N : List Bd) (hb : ∀ b ∈ N, b.f0.size ≤ 1000000000) : ∃ r : Int × Bool, Ev (fun k => spec_LongestBranch.f k N) r ∧ Ev (fun k => impl_LongestBranch.f k N) r := by
 unfold spec_LongestBranch.f impl_LongestBranch.f impl_IsPressed.f
 rcases open_both N hb with ⟨ws, h, rfl, hl, e1, e2⟩ | ⟨e1, e2⟩
 ·
  have hQ := (stayQ_zero ws (asc_preL ws) (clo_preL ws)).1
  obtain ⟨n, hn⟩ : ∃ n, (brs (preL ws) ws).length = n + 1 := ⟨(brs (preL ws) ws).length - 1, by rw [brs_length]; omega⟩
  have hl2 := brs_length (preL ws) ws
  have h1 := spec_loop (brs (preL ws) ws) (by omega) n 1 0 (by omega) (by omega)
  have h2 := impl_loop (brs (preL ws) ws) (by omega) (n + 1) 0 0 (by omega) (by omega)
  rw [bm, if_neg (by omega)] at h2
  exact ⟨_, Ev.bind e1 (Ev.ifT rfl h1), Ev.bind (Ev.bind e2 (Ev.now _)) (Ev.ifT rfl h2)⟩
 ·
  exact ⟨(0, false), Ev.bind e1 (Ev.ifF Bool.false_ne_true (Ev.now _)), Ev.bind (Ev.bind e2 (Ev.now _)) (Ev.ifF Bool.false_ne_true (Ev.now _))⟩
end LongestBranch
theorem FnExactLongestBranch : laws_FnExactLongestBranch.Pure := by
 intro l hl hs
 obtain ⟨v, v1, v2⟩ := szP_ev l hl hs
 refine Ev.rounds ?_
 unfold laws_FnExactLongestBranch.f
 refine Ev.bind v1 ?_
 by_cases h0 : v < 0
 ·
  exact Ev.ifT h0 (Ev.now _)
 ·
  obtain ⟨hlen, hsm⟩ := v2 (by omega)
  obtain ⟨r, h1, h2⟩ := LongestBranch.both (toB l) (toB_small hsm)
  have he := eqPressed_ev (toB l) (by rw [toB_length]; omega)
  refine Ev.ifF h0 (Ev.bind (toPressed_ev l hlen) (Ev.bind h1 (Ev.bind (toPressed_ev l hlen) (Ev.bind h2 ?_))))
  exact Ev.ifT rfl (Ev.step (fun k => laws_FnExactLongestBranch.j0.eq_2 ..) (Ev.ifF (by simp) (Ev.bind (toPressed_ev l hlen) (Ev.bind he (Ev.ifT rfl (Ev.now _))))))
end Go.Proofs.YtfhffcefpnkllaaDoor.Pure
namespace Go.Proofs.YtfhffcefpnkllaaDoor.fnExactLongestBranch
open Go.ChangeShapes Go.WideShapes Go.ChangeAt Go.RowKit Go.Proofs.YtfhffcefpnkllaaDoor.P
open Go.ChangeMaps (open_string shut_string)
def laidL : List (String × DataW Unit) := [("unicode/utf8.acceptRanges", Rows.laid_unicode_utf8_acceptRanges), ("unicode/utf8.first", Rows.laid_unicode_utf8_first)]
theorem own : ownKnob Tryd.prog.godebug = none := by kernel_rfl
theorem laidOut : laidOutB Tryd.prog = true := by kernel_rfl
theorem lifted (os : Os) (started : os.Started) (H : Type) (enc : TypeId × Value → H) :
    ReturnsInHanded {} Tryd.checked os 6 .any (fun w args => (Rows.fnExactLongestBranchSpec.pre enc Tryd.prog Tryd.f6 [] false w args ∧ laidMetH Tryd.prog laidL w) ∧ sizedMet enc Tryd.prog Tryd.f6 (OpenSpec.ofChange Rows.fnExactLongestBranchSpec) false w args) (Rows.fnExactLongestBranchSpec.post enc Tryd.prog Tryd.f6 false true false false) := by
  refine returnsInHanded_of_change_and (C := Tryd.checked) (X := fun w _ => laidMetH Tryd.prog laidL w) (fun _ _ _ hh h => h.of_heap hh) own started (by kernel_rfl) Tryd.func6
    (ChangeSpec.witness_shaped (enc := enc) (C := Tryd.checked) (os := os) (X := fun w _ => laidMetH Tryd.prog laidL w) false (World.laidAll Tryd.prog os laidL) #[.agg #[.slice none 0 0]] 8 (World.laidAll_os _ _ _) (World.shaped_of_ZipB (by kernel_rfl) (by kernel_rfl)) (by kernel_rfl) (by kernel_rfl) (by kernel_rfl)
      (by rw [MakeChecks.laidMetH_plain _ _ _ (by kernel_rfl)]; exact laidMet_laidAll _ (by kernel_rfl) (by kernel_rfl))) ?_
  intro W base args ds gs before hval0 hW hcnd hsz0 hL_ _
  have hsz : (DataW.weightsEach Tryd.prog (Tryd.f6.params.toList ++ Rows.fnExactLongestBranchSpec.plain.varTypes Tryd.prog) (ds ++ gs)).all (· ≤ reachBytes) = true := hsz0
  have hval : ∀ (j : Nat) t v, Tryd.f6.params[j]? = some t → args[j]? = some v → Value.okWide Tryd.prog W .any base t v := hval0
  have hW' := hW
  obtain ⟨p, q, hA0, hV, rfl, hfz, hnd⟩ := hW
  have hA : DataW.TrodAll enc Tryd.prog W 0 (fun _ => true) true Tryd.f6.params.toList args.toList ds p := hA0
  rw [Tryd.params6] at hA hval hsz
  obtain ⟨v0, vs0, d0, ds0, p0, q0, hargs, rfl, rfl, h0, r0⟩ := trodAll_cons hA
  obtain ⟨rfl, rfl, rfl⟩ := trodAll_nil r0
  obtain rfl : args = #[v0] := by cases args; simp_all
  obtain ⟨rfl, rfl⟩ := trodVars_none hV
  have k0 := h0
  have lt0 : ∀ x ∈ p0, x.block < W.heap.size := by obtain ⟨m, hm⟩ := k0; exact DataW.trod_lt m _ _ _ hm
  obtain ⟨A0, c0, l0, ev0, hc0, hr0, hs0⟩ := OPr.pressed (hval 0 24 v0 rfl rfl) h0
  subst ev0
  clear hA0 hval0 hsz0 hsz
  refine (laws_FnExactLongestBranch.walk Pure.FnExactLongestBranch W A0 c0 l0 hr0 hc0 hs0).mono fun e W' ⟨he, bel⟩ => ?_
  subst he
  exact ⟨_, rfl, _, _, _, [], _, [], hW', trodAll_mk1 (shut_bool Tryd.underlying4 _), (trodAll_cons_mk (Below.trod laidOut (by kernel_rfl) (of_decide_eq_true (by kernel_rfl)) k0 bel lt0) trodAll_mk0), rfl, bel.frame _, fun h => by cases h⟩
theorem over : Rows.fnExactLongestBranchRow.holds Tryd.pinned (OpenSpec.ofChange Rows.fnExactLongestBranchSpec) :=
  OpenClaim.holds_of_wide 6 Tryd.f6 rfl rfl rfl rfl rfl rfl rfl ⟨rfl, rfl, rfl, rfl, rfl⟩ rfl rfl rfl rfl rfl (by kernel_rfl) Tryd.func6 (by kernel_rfl)
    (of_decide_eq_true (by kernel_rfl)) (by unfold Func.isWrapper; first | (rw [if_pos (by decide +kernel)]; kernel_rfl) | (rw [if_neg (by decide +kernel)]; exact ⟨rfl, rfl⟩))
    (fun os started H enc _ => lifted os started H enc)
theorem proved : Rows.FnExactLongestBranchSaid := over
end Go.Proofs.YtfhffcefpnkllaaDoor.fnExactLongestBranch
namespace Go.Proofs.YtfhffcefpnkllaaDoor
theorem fnExactLongestBranch_holds : Rows.FnExactLongestBranchSaid := fnExactLongestBranch.proved
theorem fnExactLongestBranch_card : Rows.FnExactLongestBranchCardSaid :=
  Claim7.holds_tied_plain_at .later [] [.data, .pinned] true (true, "97b29d604ec60663e25153da0d9bc01aba1077f8cce9963c8e9a0e4698d57707") false
    fnExactLongestBranch_holds (fun _ h => by cases h) (by kernel_rfl) (fun _ h => by cases h) fnExactLongestBranch_row_tie rfl ⟨rfl, rfl⟩ (by kernel_rfl) rfl
    (fun f fn hf hfn => by
      obtain rfl : f = 6 := Option.some.inj ((show Tryd.prog.funcNamed "loop.example/g01243/laws.FnExactLongestBranch" = some 6 by kernel_rfl).symm.trans hf) |>.symm
      obtain rfl : fn = Tryd.f6 := (Option.some.inj (Tryd.func6.symm.trans hfn)).symm
      exact ⟨by kernel_rfl, fun j t ht => by
        rw [Tryd.params6] at ht
        have hm : t ∈ [24] := by simpa using Array.mem_of_getElem? ht
        have hall : ([24].all fun u => !Tryd.prog.wantsStandIn u) = true := by kernel_rfl
        exact (show Tryd.prog.wantsStandIn t = false by simpa using List.all_eq_true.1 hall t hm)⟩)
    (by kernel_rfl)
end Go.Proofs.YtfhffcefpnkllaaDoor
