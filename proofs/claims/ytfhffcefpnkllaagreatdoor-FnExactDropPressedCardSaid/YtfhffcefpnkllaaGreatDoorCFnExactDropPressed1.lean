/-
  Part 2 of the proof that FnExactDropPressed returns true for every input: the functions that it reaches, each with its contract, and the law.
  Conditions: those of the given statement, no others.
-/
import Derived.Test.YtfhffcefpnkllaaGreatDoorCFnExactDropPressedW0
import Derived.Test.YtfhffcefpnkllaaGreatDoorProg
import Derived.Ground.NamesProg
import Derived.Shelf.Strings.SlTrimAscii
import Derived.Maps.OwnOps
import Derived.Maps.Views
import Derived.Shelf.Sort.Plain
import Derived.Shelf.Slices.In.SortNone
import Derived.Shelf.Slices.CompactS
import Derived.RangeFuncBox
import Derived.RangeFuncLeaves
import Derived.Shelf.Abstract
import Derived.OwnWalkIn
import Derived.TacticsInMore
import Derived.LoopNIn
import Derived.LoopIn
import Derived.Maps.AppendAt
import Derived.Sort.OwnSorted
import Derived.Lib.OwnBridge
import Derived.Test.YtfhffcefpnkllaaGreatDoorCFnExactDropPressed0
set_option linter.unusedVariables false
set_option linter.unusedSimpArgs false
set_option maxHeartbeats 8000000
set_option maxRecDepth 100000
namespace Go.Proofs.YtfhffcefpnkllaaGreatDoor.P
open Go.RowKit Go.Proofs.YtfhffcefpnkllaaGreatDoorW.PrintWords Go.Proofs.YtfhffcefpnkllaaGreatDoorW.PrintLast Go.Proofs.YtfhffcefpnkllaaGreatDoorW.PrintMore
open Go.Proofs.YtfhffcefpnkllaaGreatDoorW.PrintWords renaming blk_frozen → bF_, blk_cell → bC_, below_set → bS_, blk_below → bB_, below_step → bT_, pw_below_drewN → bN_, below_size → bZ_, below_drew1 → bD_, below_alloc → bA_, blk_far → bR_, gate_callee → gC_, gate_dst → gD_, box_event → bE_, blk_drew → b1_, blk_put → bP_, blk_drewN → b2_, blk_alloc → b3_, blk_lt → bL_, cell_far → cF_
open Go.Proofs.YtfhffcefpnkllaaGreatDoorW.PrintLast renaming any_of → aO_, i64_w → i6_, i32_w → i3_, take_ofW → tW_
open Go.Proofs.YtfhffcefpnkllaaGreatDoorW.PrintWords.Kd renaming R_below → kB_, R_mono → kM_, R_far → kF_, R_reads' → kR_, R_types → kT_, R_slice → kS_, R_celln → kC_, R_alloc → k1_, R_drewN → k2_, R_drew → k3_, C_below → k4_, R_lower → k5_, R_ne → k6_, own_blk → k7_
open Go.Proofs.YtfhffcefpnkllaaGreatDoorW.PrintWords.LeO renaming none → l0_, bind → l1_, ite → l2_, refl → l3_
open World renaming block_lt_of_cell? → wB_
open _root_.Option renaming bind_eq_some_iff → oB_
open _root_.ByteArray renaming empty → eB_
open List renaming setIfInBounds_toArray → sA_, set_cons_zero → sB_, set_cons_succ → sC_, map_toArray → sD_, map_cons → sE_, map_nil → sF_, length_drop → sG_, length_take → sH_
open Bool renaming true → ty, false → fy
open Aside0 renaming mk → aM_
attribute [local go_sem] max2_int min2_int max_two min_two max_three min_three max_four min_four
attribute [local go_sem high] eqA60
mutual
def sF70.l0 : Nat → Int → List (S60) → List (S60) → Option (Bool)
 | 0, _, _, _ => none
 | k + 1, x5, x242000, x243000 => if x5 < (x242000.length : Int) then (sF70.j1 k x5 (decide (x5 < (x243000.length : Int))) x242000 x243000) else (sF70.j1 k x5 false x242000 x243000)
def sF70.j1 : Nat → Int → Bool → List (S60) → List (S60) → Option (Bool)
 | 0, _, _, _, _ => none
 | k + 1, x5, x17, x242000, x243000 => if x17 = true then (if 0 ≤ x5 then (if x5 < (x242000.length : Int) then (if x5 < (x243000.length : Int) then (if (!((((rd_T60 x242000 x5).f0).toList) == (((rd_T60 x243000 x5).f0).toList)) || (!(((rd_T60 x242000 x5).f1) == ((rd_T60 x243000 x5).f1)) || (!(((rd_T60 x242000 x5).f2) == ((rd_T60 x243000 x5).f2))))) = true then (some false) else (sF70.l0 k (wrap64 (x5 + 1)) x242000 x243000)) else (none)) else (none)) else (none)) else (some ((x242000.length : Int) == (x243000.length : Int)))
end
def sF70.f (k : Nat) (l0_0 : List (S60)) (l1_0 : List (S60)) : Option (Bool) := sF70.l0 k 0 l0_0 l1_0
theorem sF70.mono_l : ∀ k, (∀ y0 y1 y2, LeO (sF70.l0 k y0 y1 y2) (sF70.l0 (k + 1) y0 y1 y2)) ∧ (∀ y0 y1 y2 y3, LeO (sF70.j1 k y0 y1 y2 y3) (sF70.j1 (k + 1) y0 y1 y2 y3))
 | 0 => ⟨fun _ _ _ r h => by simp [sF70.l0] at h, fun _ _ _ _ r h => by simp [sF70.j1] at h⟩
 | k + 1 => by
  obtain ⟨ih0, ih1⟩ := sF70.mono_l k
  refine ⟨?_, ?_⟩
  ·
   intro y0 y1 y2
   unfold sF70.l0
   repeat' with_reducible first | exact ih0 _ _ _ | exact ih1 _ _ _ _ | exact l3_ _ | exact l0_ _ | refine l2_ ?_ ?_ | refine l1_ ?_ (fun _ => ?_)
  intro y0 y1 y2 y3
  unfold sF70.j1
  repeat' with_reducible first | exact ih0 _ _ _ | exact ih1 _ _ _ _ | exact l3_ _ | exact l0_ _ | refine l2_ ?_ ?_ | refine l1_ ?_ (fun _ => ?_)
theorem sF70.mono : ∀ a0 a1 k, LeO (sF70.f k a0 a1) (sF70.f (k + 1) a0 a1) := by
 intro a0 a1 k
 obtain ⟨ih0, ih1⟩ := sF70.mono_l k
 unfold sF70.f
 repeat' with_reducible first | exact ih0 _ _ _ | exact ih1 _ _ _ _ | exact l3_ _ | exact l0_ _ | refine l2_ ?_ ?_ | refine l1_ ?_ (fun _ => ?_)
theorem sF70.calls (k : Nat) (A0_0 : Option Addr) (c0_0 : Nat) (l0_0 : List (S60)) (A1_0 : Option Addr) (c1_0 : Nat) (l1_0 : List (S60)) (r : Bool) (w : World) (hr0_0 : Kd.C k60 w A0_0 l0_0.length l0_0) (hc0_0 : l0_0.length ≤ c0_0) (hr1_0 : Kd.C k60 w A1_0 l1_0.length l1_0) (hc1_0 : l1_0.length ≤ c1_0) (h : sF70.f k l0_0 l1_0 = some r) :
  Calls Tryz.prog 57 #[.agg #[.slice A0_0 l0_0.length c0_0], .agg #[.slice A1_0 l1_0.length c1_0]] w fun e w' => e = .returned (.bool r) ∧ Below w.heap.size w w' := by
 have hu30 := Tryz.underlying30
 have hu60 := Tryz.underlying60
 have HR0_0 := aM_ hr0_0
 have HC0_0 := aM_ hc0_0
 clear hr0_0 hc0_0
 have HR1_0 := aM_ hr1_0
 have HC1_0 := aM_ hc1_0
 clear hr1_0 hc1_0
 have HB := aM_ (Below.refl w.heap.size w)
 have H : (sF70.l0 k 0 l0_0 l1_0) = some r := h
 clear h
 have H' := aM_ H
 clear H
 go_enter Tryz.func57, Tryz.ntmps57
 go_wp2_with (first | ((with_reducible refine gD_ (N := 2) rfl ?_); (try (refine gate_guard (by rfl) ?_; dsimp only)); refine bE_ ?hg (N := 2) ?hd (cs := #[.slice A0_0 l0_0.length c0_0]) (t := 30) ?hr ?_; (case hd => rfl); (case hg => rfl); (case hr => (go_simp; done)); intro gb241 hg w3 hbox hb; have BK241 := aM_ (hbox); have GW241 := gw_ hg HB; replace HB := b4_ HB hb; clear hb hbox hg) | ((with_reducible refine gD_ (N := 3) rfl ?_); (try (refine gate_guard (by rfl) ?_; dsimp only)); refine bE_ ?hg (N := 3) ?hd (cs := #[.slice A1_0 l1_0.length c1_0]) (t := 30) ?hr ?_; (case hd => rfl); (case hg => rfl); (case hr => (go_simp; done)); intro gb242 hg w4 hbox hb; have BK242 := aM_ (hbox); have GW242 := gw_ hg HB; replace HB := b4_ HB hb; have NB241_242 := nb_ hg BK241; have NB242_241 := ns_ NB241_242; replace BK241 := b5_ BK241 hb; clear hb hbox hg))
 repeat (go_quiet (first | ((with_reducible refine gD_ (N := 2) rfl ?_); (try (refine gate_guard (by rfl) ?_; dsimp only)); refine bE_ ?hg (N := 2) ?hd (cs := #[.slice A0_0 l0_0.length c0_0]) (t := 30) ?hr ?_; (case hd => rfl); (case hg => rfl); (case hr => first | (go_simp; done) | (go_simp; rfl)); intro gb241 hg w3 hbox hb; have BK241 := aM_ (hbox); have GW241 := aM_ ((by rw [hg]; exact (bZ_ (by repeat with_reducible first | exact HB.out | apply bA_ | apply bN_ | apply bD_)) : w.heap.size ≤ gb241)); replace HB := aM_ (bT_ (by repeat with_reducible first | exact HB.out | apply bA_ | apply bN_ | apply bD_) hb); clear hb hbox hg) | ((with_reducible refine gD_ (N := 3) rfl ?_); (try (refine gate_guard (by rfl) ?_; dsimp only)); refine bE_ ?hg (N := 3) ?hd (cs := #[.slice A1_0 l1_0.length c1_0]) (t := 30) ?hr ?_; (case hd => rfl); (case hg => rfl); (case hr => first | (go_simp; done) | (go_simp; rfl)); intro gb242 hg w4 hbox hb; have BK242 := aM_ (hbox); have GW242 := aM_ ((by rw [hg]; exact (bZ_ (by repeat with_reducible first | exact HB.out | apply bA_ | apply bN_ | apply bD_ | refine bS_ ?_ GW241.out)) : w.heap.size ≤ gb242)); replace HB := aM_ (bT_ (by repeat with_reducible first | exact HB.out | apply bA_ | apply bN_ | apply bD_ | refine bS_ ?_ GW241.out) hb); have NB241_242 := aM_ ((by rw [hg]; exact Nat.ne_of_lt (bL_ (g := gb241) (o := .cells #[.slice A0_0 l0_0.length c0_0] 30 (0, 0)) (by (with_reducible repeat (first | refine b2_ ?_ _ | refine b1_ ?_ | refine b3_ ?_ _)); exact BK241.out)) : gb241 ≠ gb242)); have NB242_241 := aM_ ((by rw [hg]; exact Nat.ne_of_gt (bL_ (g := gb241) (o := .cells #[.slice A0_0 l0_0.length c0_0] 30 (0, 0)) (by (with_reducible repeat (first | refine b2_ ?_ _ | refine b1_ ?_ | refine b3_ ?_ _)); exact BK241.out)) : gb242 ≠ gb241)); replace BK241 := aM_ (bB_ (g := gb241) (o := .cells #[.slice A0_0 l0_0.length c0_0] 30 (0, 0)) (by (with_reducible repeat (first | refine b2_ ?_ _ | refine b1_ ?_ | refine b3_ ?_ _)); exact BK241.out) hb); clear hb hbox hg)); try go_wp2_with (first | fail))
 go_loopg [5] k (fun kq v5 w' => ∃ (x5_1 : Int), v5 = .int .i64 x5_1 ∧ Aside0 (sF70.l0 kq x5_1 l0_0 l1_0 = some r) ∧ Aside0 (kq ≤ k) ∧ Aside0 (w'.heap[gb241]? = some (.cells #[(.slice A0_0 l0_0.length c0_0)] 30 (0, 0))) ∧ Aside0 (w'.heap[gb242]? = some (.cells #[(.slice A1_0 l1_0.length c1_0)] 30 (0, 0))) ∧ Aside0 (Below w.heap.size w w'))
 case atStart => exact ⟨(0), (by rfl), H', ⟨Nat.le_refl _⟩, ⟨BK241.out⟩, ⟨BK242.out⟩, ⟨HB.out⟩⟩
 clear H'
 try clear p2
 obtain ⟨x5_1, rfl, HA, HK1, BK241, BK242, HB⟩ := hrel
 cases gk with
 | zero => exact absurd HA.out (by simp [sF70.l0])
 | succ k1 =>
  have H := HA.out
  clear HA
  simp only [sF70.l0] at H
  have HC5 := aM_ H
  clear H
  go_upto_region 2 with (fail)
  repeat (go_quiet (fail); go_upto_region 2 with (fail))
  go_cut [17] (fun v17 wc => ∃ (kq : Nat) (x17_4 : Bool), v17 = .bool x17_4 ∧ Aside0 (sF70.j1 kq x5_1 x17_4 l0_0 l1_0 = some r) ∧ Aside0 (kq ≤ k1) ∧ Aside0 (wc.heap[gb241]? = some (.cells #[(.slice A0_0 l0_0.length c0_0)] 30 (0, 0))) ∧ Aside0 (wc.heap[gb242]? = some (.cells #[(.slice A1_0 l1_0.length c1_0)] 30 (0, 0))) ∧ Aside0 (Below w.heap.size w wc))
  case first =>
   have H := HC5.out
   clear HC5
   by_cases c6 : x5_1 < (l0_0.length : Int)
   ·
    rw [if_pos c6] at H
    have c6b0 := dT_ c6
    clear c6
    (skip)
    have H' := aM_ H
    clear H
    have hnb7 := NB241_242.out
    have hnc7 := NB242_241.out
    have hcz8_0 := c0_ BK241
    have hfz8_0 := bF_ BK241.out 0
    have hcz9_0 := c0_ BK242
    have hfz9_0 := bF_ BK242.out 0
    go_wp2
    repeat (go_quiet (fail); try go_wp2)
    go_meet
    case rel => exact ⟨_, (decide (x5_1 < (l1_0.length : Int))), (by rfl), H', ⟨by have := HK1.out; omega⟩, ⟨BK241.out⟩, ⟨BK242.out⟩, ⟨HB.out⟩⟩
   rw [if_neg c6] at H
   have c6b0 := dF_ c6
   clear c6
   (skip)
   have H' := aM_ H
   clear H
   have hnb10 := NB241_242.out
   have hnc10 := NB242_241.out
   have hcz11_0 := c0_ BK241
   have hfz11_0 := bF_ BK241.out 0
   go_wp2
   repeat (go_quiet (fail); try go_wp2)
   go_meet
   case rel => exact ⟨_, (false), (by rfl), H', ⟨by have := HK1.out; omega⟩, ⟨BK241.out⟩, ⟨BK242.out⟩, ⟨HB.out⟩⟩
  clear HC5
  try clear p2
  try clear c6b0
  try clear hcz11_0
  try clear hcz8_0
  try clear hcz9_0
  try clear hfz11_0
  try clear hfz8_0
  try clear hfz9_0
  try clear p2
  obtain ⟨kq, x17_4, rfl, HA, HJ4, BK241, BK242, HB⟩ := hcut
  cases kq with
  | zero => exact absurd HA.out (by simp [sF70.j1])
  | succ kj4 =>
   have H := HA.out
   clear HA
   simp only [sF70.j1] at H
   by_cases c12 : x17_4 = true
   rotate_left
   ·
    replace c12 := Bool.eq_false_iff.mpr c12
    subst c12
    replace H : (some ((l0_0.length : Int) == (l1_0.length : Int))) = some r := by rw [if_neg (show ¬ (false = true) by decide)] at H; exact H
    obtain rfl := Option.some.inj H
    have hnb23 := NB241_242.out
    have hnc23 := NB242_241.out
    have hcz24_0 := c0_ BK241
    have hfz24_0 := bF_ BK241.out 0
    have hcz25_0 := c0_ BK242
    have hfz25_0 := bF_ BK242.out 0
    go_wp2
    repeat (go_quiet (fail); try go_wp2)
    go_ret
    exact ⟨by rfl, by exact HB.out⟩
   subst c12
   rw [if_pos rfl] at H
   by_cases c13 : 0 ≤ x5_1
   rotate_left
   ·
    rw [if_neg c13] at H
    exact absurd H (by simp)
   rw [if_pos c13] at H
   have c13b0 := dT_ c13
   clear c13
   by_cases c14 : x5_1 < (l0_0.length : Int)
   rotate_left
   ·
    rw [if_neg c14] at H
    exact absurd H (by simp)
   rw [if_pos c14] at H
   have c14b0 := dT_ c14
   clear c14
   by_cases c15 : x5_1 < (l1_0.length : Int)
   rotate_left
   ·
    rw [if_neg c15] at H
    exact absurd H (by simp)
   rw [if_pos c15] at H
   have c15b0 := dT_ c15
   clear c15
   by_cases c16 : (!((((rd_T60 l0_0 x5_1).f0).toList) == (((rd_T60 l1_0 x5_1).f0).toList)) || (!(((rd_T60 l0_0 x5_1).f1) == ((rd_T60 l1_0 x5_1).f1)) || (!(((rd_T60 l0_0 x5_1).f2) == ((rd_T60 l1_0 x5_1).f2))))) = true
   ·
    rw [if_pos c16] at H
    have c16b0 : (!((((rd_T60 l0_0 x5_1).f0).toList) == (((rd_T60 l1_0 x5_1).f0).toList)) || (!(((rd_T60 l0_0 x5_1).f1) == ((rd_T60 l1_0 x5_1).f1)) || (!(((rd_T60 l0_0 x5_1).f2) == ((rd_T60 l1_0 x5_1).f2))))) = true := c16
    clear c16
    obtain rfl := Option.some.inj H
    have hnb17 := NB241_242.out
    have hnc17 := NB242_241.out
    have hcz18_0 := c0_ BK241
    have hfz18_0 := bF_ BK241.out 0
    have p243 : 0 ≤ (x5_1 : Int) := oD_ ‹_›
    have q243 : x5_1 < (l0_0.length : Int) := oD_ ‹_›
    obtain ⟨ad243, e243, hx243_0, hx243_1, hx243_2⟩ := at_T60 HR0_0.out x5_1 p243 q243
    cases e243
    replace hx243_0 := cb_ HB hx243_0
    replace hx243_1 := cb_ HB hx243_1
    replace hx243_2 := cb_ HB hx243_2
    replace p243 := eq_true p243
    replace q243 := eq_true q243
    have hcz19_0 := c0_ BK242
    have hfz19_0 := bF_ BK242.out 0
    have p244 : 0 ≤ (x5_1 : Int) := oD_ ‹_›
    have q244 : x5_1 < (l1_0.length : Int) := oD_ ‹_›
    obtain ⟨ad244, e244, hx244_0, hx244_1, hx244_2⟩ := at_T60 HR1_0.out x5_1 p244 q244
    cases e244
    replace hx244_0 := cb_ HB hx244_0
    replace hx244_1 := cb_ HB hx244_1
    replace hx244_2 := cb_ HB hx244_2
    replace p244 := eq_true p244
    replace q244 := eq_true q244
    go_wp2
    repeat (go_quiet (fail); try go_wp2)
    go_ret
    exact ⟨by rfl, by repeat with_reducible first | exact HB.out | apply bA_ | apply bN_ | apply bD_ | refine bS_ ?_ (Aside0.out ‹_›)⟩
   rw [if_neg c16] at H
   have c16b0 : (!((((rd_T60 l0_0 x5_1).f0).toList) == (((rd_T60 l1_0 x5_1).f0).toList)) || (!(((rd_T60 l0_0 x5_1).f1) == ((rd_T60 l1_0 x5_1).f1)) || (!(((rd_T60 l0_0 x5_1).f2) == ((rd_T60 l1_0 x5_1).f2))))) = false := by simpa using c16
   clear c16
   have H' := aM_ H
   clear H
   have hnb20 := NB241_242.out
   have hnc20 := NB242_241.out
   have hcz21_0 := c0_ BK241
   have hfz21_0 := bF_ BK241.out 0
   have p243 : 0 ≤ (x5_1 : Int) := oD_ ‹_›
   have q243 : x5_1 < (l0_0.length : Int) := oD_ ‹_›
   obtain ⟨ad243, e243, hx243_0, hx243_1, hx243_2⟩ := at_T60 HR0_0.out x5_1 p243 q243
   cases e243
   replace hx243_0 := cb_ HB hx243_0
   replace hx243_1 := cb_ HB hx243_1
   replace hx243_2 := cb_ HB hx243_2
   replace p243 := eq_true p243
   replace q243 := eq_true q243
   have hcz22_0 := c0_ BK242
   have hfz22_0 := bF_ BK242.out 0
   have p244 : 0 ≤ (x5_1 : Int) := oD_ ‹_›
   have q244 : x5_1 < (l1_0.length : Int) := oD_ ‹_›
   obtain ⟨ad244, e244, hx244_0, hx244_1, hx244_2⟩ := at_T60 HR1_0.out x5_1 p244 q244
   cases e244
   replace hx244_0 := cb_ HB hx244_0
   replace hx244_1 := cb_ HB hx244_1
   replace hx244_2 := cb_ HB hx244_2
   replace p244 := eq_true p244
   replace q244 := eq_true q244
   go_wp2
   repeat (go_quiet (fail); try go_wp2)
   go_roundg kj4
   case measure => have := HK1.out; have := HJ4.out; omega
   case rel => exact ⟨(wrap64 (x5_1 + 1)), (by rfl), H', ⟨by have := HK1.out; have := HJ4.out; omega⟩, ⟨by (with_reducible repeat (first | refine b2_ ?_ _ | refine b1_ ?_ | refine b3_ ?_ _)); exact BK241.out⟩, ⟨by (with_reducible repeat (first | refine b2_ ?_ _ | refine b1_ ?_ | refine b3_ ?_ _)); exact BK242.out⟩, ⟨by repeat with_reducible first | exact HB.out | apply bA_ | apply bN_ | apply bD_ | refine bS_ ?_ (Aside0.out ‹_›)⟩⟩
end Go.Proofs.YtfhffcefpnkllaaGreatDoor.P
namespace Go.Proofs.YtfhffcefpnkllaaGreatDoor.P
open Go.RowKit Go.Proofs.YtfhffcefpnkllaaGreatDoorW.PrintWords Go.Proofs.YtfhffcefpnkllaaGreatDoorW.PrintLast Go.Proofs.YtfhffcefpnkllaaGreatDoorW.PrintMore
open Go.Proofs.YtfhffcefpnkllaaGreatDoorW.PrintWords renaming blk_frozen → bF_, blk_cell → bC_, below_set → bS_, blk_below → bB_, below_step → bT_, pw_below_drewN → bN_, below_size → bZ_, below_drew1 → bD_, below_alloc → bA_, blk_far → bR_, gate_callee → gC_, gate_dst → gD_, box_event → bE_, blk_drew → b1_, blk_put → bP_, blk_drewN → b2_, blk_alloc → b3_, blk_lt → bL_, cell_far → cF_
open Go.Proofs.YtfhffcefpnkllaaGreatDoorW.PrintLast renaming any_of → aO_, i64_w → i6_, i32_w → i3_, take_ofW → tW_
open Go.Proofs.YtfhffcefpnkllaaGreatDoorW.PrintWords.Kd renaming R_below → kB_, R_mono → kM_, R_far → kF_, R_reads' → kR_, R_types → kT_, R_slice → kS_, R_celln → kC_, R_alloc → k1_, R_drewN → k2_, R_drew → k3_, C_below → k4_, R_lower → k5_, R_ne → k6_, own_blk → k7_
open Go.Proofs.YtfhffcefpnkllaaGreatDoorW.PrintWords.LeO renaming none → l0_, bind → l1_, ite → l2_, refl → l3_
open World renaming block_lt_of_cell? → wB_
open _root_.Option renaming bind_eq_some_iff → oB_
open _root_.ByteArray renaming empty → eB_
open List renaming setIfInBounds_toArray → sA_, set_cons_zero → sB_, set_cons_succ → sC_, map_toArray → sD_, map_cons → sE_, map_nil → sF_, length_drop → sG_, length_take → sH_
open Bool renaming true → ty, false → fy
open Aside0 renaming mk → aM_
attribute [local go_sem] max2_int min2_int max_two min_two max_three min_three max_four min_four
def sF66.l0 : Nat → List ByteArray → Int → List (S76) → Option (List ByteArray)
 | 0, _, _, _ => none
 | k + 1, x3, x4, x269000 => if x4 < (x269000.length : Int) then (if 0 ≤ x4 then (if (rd_T76 x269000 x4).f2 = true then ((sF58.f k x269000 x4).bind fun t273 => (if x3.length < 8796093022208 then (sF66.l0 k (x3 ++ [t273]) (wrap64 (x4 + 1)) x269000) else (none))) else (sF66.l0 k x3 (wrap64 (x4 + 1)) x269000)) else (none)) else (some x3)
def sF66.f (k : Nat) (l0_0 : List (S76)) : Option (List ByteArray) := sF66.l0 k (([] : List ByteArray)) 0 l0_0
theorem sF66.mono_l : ∀ k, (∀ y0 y1 y2, LeO (sF66.l0 k y0 y1 y2) (sF66.l0 (k + 1) y0 y1 y2))
 | 0 => fun _ _ _ r h => by simp [sF66.l0] at h
 | k + 1 => by
  have ih0 := sF66.mono_l k
  intro y0 y1 y2
  unfold sF66.l0
  repeat' with_reducible first | exact ih0 _ _ _ | exact sF58.mono _ _ _ | exact l3_ _ | exact l0_ _ | refine l2_ ?_ ?_ | refine l1_ ?_ (fun _ => ?_)
theorem sF66.mono : ∀ a0 k, LeO (sF66.f k a0) (sF66.f (k + 1) a0) := by
 intro a0 k
 have ih0 := sF66.mono_l k
 unfold sF66.f
 repeat' with_reducible first | exact ih0 _ _ _ | exact sF58.mono _ _ _ | exact l3_ _ | exact l0_ _ | refine l2_ ?_ ?_ | refine l1_ ?_ (fun _ => ?_)
theorem sF66.calls (k : Nat) (A0_0 : Option Addr) (c0_0 : Nat) (l0_0 : List (S76)) (r : List ByteArray) (w : World) (hr0_0 : Kd.C k76 w A0_0 l0_0.length l0_0) (hc0_0 : l0_0.length ≤ c0_0) (h : sF66.f k l0_0 = some r) :
  Calls Tryz.prog 29 #[.agg #[.slice A0_0 l0_0.length c0_0]] w fun e w' => ∃ v0_ : Value, e = .returned (v0_) ∧ Kd.R Kd.string 9 w' w.heap.size (fun _ => True) v0_ r ∧ Below w.heap.size w w' := by
 have hu36 := Tryz.underlying36
 have HR0_0 := aM_ hr0_0
 have HC0_0 := aM_ hc0_0
 clear hr0_0 hc0_0
 have HB := aM_ (Below.refl w.heap.size w)
 have H : (sF66.l0 k (([] : List ByteArray)) 0 l0_0) = some r := h
 clear h
 obtain ⟨y269, hy269⟩ : ∃ y_ : List ByteArray, y_ = (([] : List ByteArray)) := ⟨_, rfl⟩
 replace H : (sF66.l0 k y269 0 l0_0) = some r := by (try rw [hy269]); first | with_reducible exact H | with_reducible exact oS_ H | exact H
 have Ny269 := aM_ hy269
 clear hy269
 have H' := aM_ H
 clear H
 go_enter Tryz.func29, Tryz.ntmps29
 go_wp2_with (first | (refine bx_ 1 #[.slice A0_0 l0_0.length c0_0] 36 ?_; intro gb268 hg w2 hbox hb; have BK268 := aM_ (hbox); have GW268 := gw_ hg HB; replace HB := b4_ HB hb; clear hb hbox hg) | ((with_reducible refine gD_ (N := 5) rfl ?_); refine Kd.R_lit Kd.string _ 9 ?hg (N := 5) ?hd (xs := ([] : List ByteArray)) (inner := []) (ok := fun _ => True) (okp := fun _ => True) ?hr ?hp (fun _ hk => hk) trivial (Below.refl _ _) (Nat.le_refl _) (by simp) ?_; (case hd => rfl); (case hg => rfl); (case hr => (go_simp; done)); (case hp => exact (Reps.none _ _)); intro v270 w3 ho4 hb hg_ hnew_; clear hg_ hnew_; (rw [← Ny269.out] at ho4); have HO271 := aM_ (k5_ ho4 (bZ_ HB.out)); replace BK268 := b5_ BK268 hb; replace HB := b4_ HB hb; clear hb ho4))
 go_loopg [3, 4] k (fun kq v3 v4 w' => ∃ (x3_1 : List ByteArray) (x4_1 : Int), v4 = .int .i64 x4_1 ∧ Aside0 (sF66.l0 kq x3_1 x4_1 l0_0 = some r) ∧ Aside0 (kq ≤ k) ∧ Aside0 (Kd.R Kd.string 9 w' w.heap.size (fun _ => True) v3 x3_1) ∧ Aside0 (w'.heap[gb268]? = some (.cells #[(.slice A0_0 l0_0.length c0_0)] 36 (0, 0))) ∧ Aside0 (Below w.heap.size w w'))
 case atStart => exact ⟨(y269), (0), (by rfl), H', ⟨Nat.le_refl _⟩, ⟨HO271.out⟩, ⟨BK268.out⟩, ⟨HB.out⟩⟩
 clear H'
 try clear p2
 obtain ⟨x3_1, x4_1, rfl, HA, HK1, HO_3, BK268, HB⟩ := hrel
 cases gk with
 | zero => exact absurd HA.out (by simp [sF66.l0])
 | succ k1 =>
  have H := HA.out
  clear HA
  simp only [sF66.l0] at H
  by_cases c5 : x4_1 < (l0_0.length : Int)
  rotate_left
  ·
   rw [if_neg c5] at H
   have c5b0 := dF_ c5
   clear c5
   obtain rfl := Option.some.inj H
   have hcz15_0 := c0_ BK268
   have hfz15_0 := bF_ BK268.out 0
   go_wp2
   go_ret
   exact ⟨_, by rfl, by exact HO_3.out, by exact HB.out⟩
  rw [if_pos c5] at H
  have c5b0 := dT_ c5
  clear c5
  by_cases c6 : 0 ≤ x4_1
  rotate_left
  ·
   rw [if_neg c6] at H
   exact absurd H (by simp)
  rw [if_pos c6] at H
  have c6b0 := dT_ c6
  clear c6
  obtain ⟨bq7, hbq7⟩ : ∃ b_ : Bool, b_ = ((rd_T76 l0_0 x4_1).f2) := ⟨_, rfl⟩
  replace H : (if bq7 = true then ((sF58.f k1 l0_0 x4_1).bind fun t273 => (if x3_1.length < 8796093022208 then (sF66.l0 k1 (x3_1 ++ [t273]) (wrap64 (x4_1 + 1)) l0_0) else (none))) else (sF66.l0 k1 x3_1 (wrap64 (x4_1 + 1)) l0_0)) = some r := by rw [← hbq7] at H; exact H
  have Nbq7 := aM_ hbq7
  clear hbq7
  by_cases c8 : bq7 = true
  rotate_left
  ·
   replace c8 := Bool.eq_false_iff.mpr c8
   subst c8
   replace H : (sF66.l0 k1 x3_1 (wrap64 (x4_1 + 1)) l0_0) = some r := by rw [if_neg (show ¬ (false = true) by decide)] at H; exact H
   have H' := aM_ H
   clear H
   have hcz14_0 := c0_ BK268
   have hfz14_0 := bF_ BK268.out 0
   have p272 : 0 ≤ (x4_1 : Int) := oD_ ‹_›
   have q272 : x4_1 < (l0_0.length : Int) := oD_ ‹_›
   obtain ⟨ad272, e272, hx272_0, hx272_1, hx272_2⟩ := at_T76 HR0_0.out x4_1 p272 q272
   (try rw [← Nbq7.out] at hx272_2)
   cases e272
   replace hx272_0 := cb_ HB hx272_0
   replace hx272_1 := cb_ HB hx272_1
   replace hx272_2 := cb_ HB hx272_2
   replace p272 := eq_true p272
   replace q272 := eq_true q272
   go_wp2
   go_roundg k1
   case measure => have := HK1.out; omega
   case rel => exact ⟨(x3_1), (wrap64 (x4_1 + 1)), (by rfl), H', ⟨by have := HK1.out; omega⟩, ⟨HO_3.out⟩, ⟨BK268.out⟩, ⟨HB.out⟩⟩
  subst c8
  rw [if_pos rfl] at H
  replace H := oB_.mp H
  obtain ⟨t273, A90, H⟩ := H
  try dsimp only at H
  have A9 := aM_ A90
  clear A90
  by_cases c10 : x3_1.length < 8796093022208
  rotate_left
  ·
   rw [if_neg c10] at H
   exact absurd H (by simp)
  rw [if_pos c10] at H
  have LMc10 := aM_ c10
  clear c10
  obtain ⟨y274, hy274⟩ : ∃ y_ : List ByteArray, y_ = (x3_1 ++ [t273]) := ⟨_, rfl⟩
  replace H : (sF66.l0 k1 y274 (wrap64 (x4_1 + 1)) l0_0) = some r := by (try rw [hy274]); first | with_reducible exact H | with_reducible exact oS_ H | exact H
  have Ny274 := aM_ hy274
  clear hy274
  have H' := aM_ H
  clear H
  have hcz11_0 := c0_ BK268
  have hfz11_0 := bF_ BK268.out 0
  have p272 : 0 ≤ (x4_1 : Int) := oD_ ‹_›
  have q272 : x4_1 < (l0_0.length : Int) := oD_ ‹_›
  obtain ⟨ad272, e272, hx272_0, hx272_1, hx272_2⟩ := at_T76 HR0_0.out x4_1 p272 q272
  (try rw [← Nbq7.out] at hx272_2)
  cases e272
  replace hx272_0 := cb_ HB hx272_0
  replace hx272_1 := cb_ HB hx272_1
  replace hx272_2 := cb_ HB hx272_2
  replace p272 := eq_true p272
  replace q272 := eq_true q272
  go_wp2_with (first | (refine gs_ 22 Tryz.func58 #[.agg #[.slice (some ad272) l0_0.length c0_0], .int .i64 x4_1] ?_; (with_reducible refine (sF58.calls k1 _ _ l0_0 x4_1 t273 _ ?side1 HC0_0.out A9.out).mono ?_); (case side1 => repeat (first | exact (k4_ HR0_0.out HB.out) | with_reducible first | apply cA_ | apply cN_ | apply cD_)); rintro e w12 ⟨rfl, hb⟩; refine ⟨_, rfl, ?_⟩; replace HO_3 := k9_ HO_3 hb; replace BK268 := b5_ BK268 hb; replace HB := b4_ HB hb; (try clear hb)) | ((with_reducible refine gate_builtin (b := .append) (xs := #[.tmp 19, .tmp 23]) rfl ?_); at_builtin; refine Kd.R_append Kd.string (w0 := w) w.heap.size rfl (.tmp 19) (.tmp 23) 49 9 (.string ⟨#[]⟩) 16 rfl Tryz.underlying49 info9 rfl (by decide) (by omega) u3 x3_1 t273 [.string t273] (fun _ => True) (fun _ => False) rfl rfl ?aP (fun _ hk => hk.elim) ?aF ?aO ?aB ?aS ?aL ?_; (case aP => exact rfl); (case aB => exact HB.out); (case aF => exact (fun _ _ => trivial)); (case aO => exact HO_3.out); (case aS => exact (bZ_ HB.out)); (case aL => have := LMc10.out; omega); intro v275 w13 ho hb hg hat; rw [← Ny274.out] at ho; have n0_ := aM_ (blk_grown (g := gb268) (o := .cells #[.slice (some ad272) l0_0.length c0_0] 36 (0, 0)) BK268.out hg (k6_ HO_3.out BK268.out (by decide))); have n1_ := aM_ (hb); have n2_ := aM_ (ho); clear BK268; clear HB; clear HO_3; have BK268 := n0_; have HB := n1_; have HO276 := n2_; clear n0_ n1_ n2_; clear ho hb hg hat))
  go_roundg k1
  case measure => have := HK1.out; omega
  case rel => exact ⟨(y274), (wrap64 (x4_1 + 1)), (by rfl), H', ⟨by have := HK1.out; omega⟩, ⟨HO276.out⟩, ⟨BK268.out⟩, ⟨HB.out⟩⟩
end Go.Proofs.YtfhffcefpnkllaaGreatDoor.P
namespace Go.Proofs.YtfhffcefpnkllaaGreatDoor.P
open Go.RowKit Go.Proofs.YtfhffcefpnkllaaGreatDoorW.PrintWords Go.Proofs.YtfhffcefpnkllaaGreatDoorW.PrintLast Go.Proofs.YtfhffcefpnkllaaGreatDoorW.PrintMore
attribute [local go_sem] max2_int min2_int max_two min_two max_three min_three max_four min_four
theorem eqA76 (d : Nat) (w : World) (x0 y0 : Int) (x1 y1 : Int) (x2 y2 : Bool) :
    (Op.equalIn (d + 2) 76 (.agg #[.int .i64 x0, .int .i64 x1, .bool x2]) (.agg #[.int .i64 y0, .int .i64 y1, .bool y2])).run Tryz.prog w = .ok (x0 == y0 && (x1 == y1 && (x2 == y2))) w := by
  refine eqA_of Tryz.underlying76 (by kernel_rfl) ?_
  refine eqf_cons (by rfl) (by go_simp; rfl) (by go_simp; rfl) (by go_simp) ?_
  refine eqf_cons (by rfl) (by go_simp; rfl) (by go_simp; rfl) (by go_simp) ?_
  exact eqf_last (by rfl) (by go_simp; rfl) (by go_simp; rfl) (by go_simp)
end Go.Proofs.YtfhffcefpnkllaaGreatDoor.P
namespace Go.Proofs.YtfhffcefpnkllaaGreatDoor.P
open Go.RowKit Go.Proofs.YtfhffcefpnkllaaGreatDoorW.PrintWords Go.Proofs.YtfhffcefpnkllaaGreatDoorW.PrintLast Go.Proofs.YtfhffcefpnkllaaGreatDoorW.PrintMore
open Go.Proofs.YtfhffcefpnkllaaGreatDoorW.PrintWords renaming blk_frozen → bF_, blk_cell → bC_, below_set → bS_, blk_below → bB_, below_step → bT_, pw_below_drewN → bN_, below_size → bZ_, below_drew1 → bD_, below_alloc → bA_, blk_far → bR_, gate_callee → gC_, gate_dst → gD_, box_event → bE_, blk_drew → b1_, blk_put → bP_, blk_drewN → b2_, blk_alloc → b3_, blk_lt → bL_, cell_far → cF_
open Go.Proofs.YtfhffcefpnkllaaGreatDoorW.PrintLast renaming any_of → aO_, i64_w → i6_, i32_w → i3_, take_ofW → tW_
open Go.Proofs.YtfhffcefpnkllaaGreatDoorW.PrintWords.Kd renaming R_below → kB_, R_mono → kM_, R_far → kF_, R_reads' → kR_, R_types → kT_, R_slice → kS_, R_celln → kC_, R_alloc → k1_, R_drewN → k2_, R_drew → k3_, C_below → k4_, R_lower → k5_, R_ne → k6_, own_blk → k7_
open Go.Proofs.YtfhffcefpnkllaaGreatDoorW.PrintWords.LeO renaming none → l0_, bind → l1_, ite → l2_, refl → l3_
open World renaming block_lt_of_cell? → wB_
open _root_.Option renaming bind_eq_some_iff → oB_
open _root_.ByteArray renaming empty → eB_
open List renaming setIfInBounds_toArray → sA_, set_cons_zero → sB_, set_cons_succ → sC_, map_toArray → sD_, map_cons → sE_, map_nil → sF_, length_drop → sG_, length_take → sH_
open Bool renaming true → ty, false → fy
open Aside0 renaming mk → aM_
attribute [local go_sem] max2_int min2_int max_two min_two max_three min_three max_four min_four
attribute [local go_sem high] eqA76
mutual
def sF62.l0 : Nat → Int → List (S76) → List (S76) → Option (Bool)
 | 0, _, _, _ => none
 | k + 1, x5, x644000, x645000 => if x5 < (x644000.length : Int) then (sF62.j1 k x5 (decide (x5 < (x645000.length : Int))) x644000 x645000) else (sF62.j1 k x5 false x644000 x645000)
def sF62.j1 : Nat → Int → Bool → List (S76) → List (S76) → Option (Bool)
 | 0, _, _, _, _ => none
 | k + 1, x5, x17, x644000, x645000 => if x17 = true then (if 0 ≤ x5 then (if x5 < (x644000.length : Int) then (if x5 < (x645000.length : Int) then (if (!(((rd_T76 x644000 x5).f0) == ((rd_T76 x645000 x5).f0)) || (!(((rd_T76 x644000 x5).f1) == ((rd_T76 x645000 x5).f1)) || (!(((rd_T76 x644000 x5).f2) == ((rd_T76 x645000 x5).f2))))) = true then (some false) else (sF62.l0 k (wrap64 (x5 + 1)) x644000 x645000)) else (none)) else (none)) else (none)) else (some ((x644000.length : Int) == (x645000.length : Int)))
end
def sF62.f (k : Nat) (l0_0 : List (S76)) (l1_0 : List (S76)) : Option (Bool) := sF62.l0 k 0 l0_0 l1_0
theorem sF62.mono_l : ∀ k, (∀ y0 y1 y2, LeO (sF62.l0 k y0 y1 y2) (sF62.l0 (k + 1) y0 y1 y2)) ∧ (∀ y0 y1 y2 y3, LeO (sF62.j1 k y0 y1 y2 y3) (sF62.j1 (k + 1) y0 y1 y2 y3))
 | 0 => ⟨fun _ _ _ r h => by simp [sF62.l0] at h, fun _ _ _ _ r h => by simp [sF62.j1] at h⟩
 | k + 1 => by
  obtain ⟨ih0, ih1⟩ := sF62.mono_l k
  refine ⟨?_, ?_⟩
  ·
   intro y0 y1 y2
   unfold sF62.l0
   repeat' with_reducible first | exact ih0 _ _ _ | exact ih1 _ _ _ _ | exact l3_ _ | exact l0_ _ | refine l2_ ?_ ?_ | refine l1_ ?_ (fun _ => ?_)
  intro y0 y1 y2 y3
  unfold sF62.j1
  repeat' with_reducible first | exact ih0 _ _ _ | exact ih1 _ _ _ _ | exact l3_ _ | exact l0_ _ | refine l2_ ?_ ?_ | refine l1_ ?_ (fun _ => ?_)
theorem sF62.mono : ∀ a0 a1 k, LeO (sF62.f k a0 a1) (sF62.f (k + 1) a0 a1) := by
 intro a0 a1 k
 obtain ⟨ih0, ih1⟩ := sF62.mono_l k
 unfold sF62.f
 repeat' with_reducible first | exact ih0 _ _ _ | exact ih1 _ _ _ _ | exact l3_ _ | exact l0_ _ | refine l2_ ?_ ?_ | refine l1_ ?_ (fun _ => ?_)
theorem sF62.calls (k : Nat) (A0_0 : Option Addr) (c0_0 : Nat) (l0_0 : List (S76)) (A1_0 : Option Addr) (c1_0 : Nat) (l1_0 : List (S76)) (r : Bool) (w : World) (hr0_0 : Kd.C k76 w A0_0 l0_0.length l0_0) (hc0_0 : l0_0.length ≤ c0_0) (hr1_0 : Kd.C k76 w A1_0 l1_0.length l1_0) (hc1_0 : l1_0.length ≤ c1_0) (h : sF62.f k l0_0 l1_0 = some r) :
  Calls Tryz.prog 89 #[.agg #[.slice A0_0 l0_0.length c0_0], .agg #[.slice A1_0 l1_0.length c1_0]] w fun e w' => e = .returned (.bool r) ∧ Below w.heap.size w w' := by
 have hu36 := Tryz.underlying36
 have hu76 := Tryz.underlying76
 have HR0_0 := aM_ hr0_0
 have HC0_0 := aM_ hc0_0
 clear hr0_0 hc0_0
 have HR1_0 := aM_ hr1_0
 have HC1_0 := aM_ hc1_0
 clear hr1_0 hc1_0
 have HB := aM_ (Below.refl w.heap.size w)
 have H : (sF62.l0 k 0 l0_0 l1_0) = some r := h
 clear h
 have H' := aM_ H
 clear H
 go_enter Tryz.func89, Tryz.ntmps89
 go_wp2_with (first | ((with_reducible refine gD_ (N := 2) rfl ?_); (try (refine gate_guard (by rfl) ?_; dsimp only)); refine bE_ ?hg (N := 2) ?hd (cs := #[.slice A0_0 l0_0.length c0_0]) (t := 36) ?hr ?_; (case hd => rfl); (case hg => rfl); (case hr => (go_simp; done)); intro gb643 hg w3 hbox hb; have BK643 := aM_ (hbox); have GW643 := gw_ hg HB; replace HB := b4_ HB hb; clear hb hbox hg) | ((with_reducible refine gD_ (N := 3) rfl ?_); (try (refine gate_guard (by rfl) ?_; dsimp only)); refine bE_ ?hg (N := 3) ?hd (cs := #[.slice A1_0 l1_0.length c1_0]) (t := 36) ?hr ?_; (case hd => rfl); (case hg => rfl); (case hr => (go_simp; done)); intro gb644 hg w4 hbox hb; have BK644 := aM_ (hbox); have GW644 := gw_ hg HB; replace HB := b4_ HB hb; have NB643_644 := nb_ hg BK643; have NB644_643 := ns_ NB643_644; replace BK643 := b5_ BK643 hb; clear hb hbox hg))
 repeat (go_quiet (first | ((with_reducible refine gD_ (N := 2) rfl ?_); (try (refine gate_guard (by rfl) ?_; dsimp only)); refine bE_ ?hg (N := 2) ?hd (cs := #[.slice A0_0 l0_0.length c0_0]) (t := 36) ?hr ?_; (case hd => rfl); (case hg => rfl); (case hr => first | (go_simp; done) | (go_simp; rfl)); intro gb643 hg w3 hbox hb; have BK643 := aM_ (hbox); have GW643 := aM_ ((by rw [hg]; exact (bZ_ (by repeat with_reducible first | exact HB.out | apply bA_ | apply bN_ | apply bD_)) : w.heap.size ≤ gb643)); replace HB := aM_ (bT_ (by repeat with_reducible first | exact HB.out | apply bA_ | apply bN_ | apply bD_) hb); clear hb hbox hg) | ((with_reducible refine gD_ (N := 3) rfl ?_); (try (refine gate_guard (by rfl) ?_; dsimp only)); refine bE_ ?hg (N := 3) ?hd (cs := #[.slice A1_0 l1_0.length c1_0]) (t := 36) ?hr ?_; (case hd => rfl); (case hg => rfl); (case hr => first | (go_simp; done) | (go_simp; rfl)); intro gb644 hg w4 hbox hb; have BK644 := aM_ (hbox); have GW644 := aM_ ((by rw [hg]; exact (bZ_ (by repeat with_reducible first | exact HB.out | apply bA_ | apply bN_ | apply bD_ | refine bS_ ?_ GW643.out)) : w.heap.size ≤ gb644)); replace HB := aM_ (bT_ (by repeat with_reducible first | exact HB.out | apply bA_ | apply bN_ | apply bD_ | refine bS_ ?_ GW643.out) hb); have NB643_644 := aM_ ((by rw [hg]; exact Nat.ne_of_lt (bL_ (g := gb643) (o := .cells #[.slice A0_0 l0_0.length c0_0] 36 (0, 0)) (by (with_reducible repeat (first | refine b2_ ?_ _ | refine b1_ ?_ | refine b3_ ?_ _)); exact BK643.out)) : gb643 ≠ gb644)); have NB644_643 := aM_ ((by rw [hg]; exact Nat.ne_of_gt (bL_ (g := gb643) (o := .cells #[.slice A0_0 l0_0.length c0_0] 36 (0, 0)) (by (with_reducible repeat (first | refine b2_ ?_ _ | refine b1_ ?_ | refine b3_ ?_ _)); exact BK643.out)) : gb644 ≠ gb643)); replace BK643 := aM_ (bB_ (g := gb643) (o := .cells #[.slice A0_0 l0_0.length c0_0] 36 (0, 0)) (by (with_reducible repeat (first | refine b2_ ?_ _ | refine b1_ ?_ | refine b3_ ?_ _)); exact BK643.out) hb); clear hb hbox hg)); try go_wp2_with (first | fail))
 go_loopg [5] k (fun kq v5 w' => ∃ (x5_1 : Int), v5 = .int .i64 x5_1 ∧ Aside0 (sF62.l0 kq x5_1 l0_0 l1_0 = some r) ∧ Aside0 (kq ≤ k) ∧ Aside0 (w'.heap[gb643]? = some (.cells #[(.slice A0_0 l0_0.length c0_0)] 36 (0, 0))) ∧ Aside0 (w'.heap[gb644]? = some (.cells #[(.slice A1_0 l1_0.length c1_0)] 36 (0, 0))) ∧ Aside0 (Below w.heap.size w w'))
 case atStart => exact ⟨(0), (by rfl), H', ⟨Nat.le_refl _⟩, ⟨BK643.out⟩, ⟨BK644.out⟩, ⟨HB.out⟩⟩
 clear H'
 try clear p2
 obtain ⟨x5_1, rfl, HA, HK1, BK643, BK644, HB⟩ := hrel
 cases gk with
 | zero => exact absurd HA.out (by simp [sF62.l0])
 | succ k1 =>
  have H := HA.out
  clear HA
  simp only [sF62.l0] at H
  have HC5 := aM_ H
  clear H
  go_upto_region 2 with (fail)
  repeat (go_quiet (fail); go_upto_region 2 with (fail))
  go_cut [17] (fun v17 wc => ∃ (kq : Nat) (x17_4 : Bool), v17 = .bool x17_4 ∧ Aside0 (sF62.j1 kq x5_1 x17_4 l0_0 l1_0 = some r) ∧ Aside0 (kq ≤ k1) ∧ Aside0 (wc.heap[gb643]? = some (.cells #[(.slice A0_0 l0_0.length c0_0)] 36 (0, 0))) ∧ Aside0 (wc.heap[gb644]? = some (.cells #[(.slice A1_0 l1_0.length c1_0)] 36 (0, 0))) ∧ Aside0 (Below w.heap.size w wc))
  case first =>
   have H := HC5.out
   clear HC5
   by_cases c6 : x5_1 < (l0_0.length : Int)
   ·
    rw [if_pos c6] at H
    have c6b0 := dT_ c6
    clear c6
    (skip)
    have H' := aM_ H
    clear H
    have hnb7 := NB643_644.out
    have hnc7 := NB644_643.out
    have hcz8_0 := c0_ BK643
    have hfz8_0 := bF_ BK643.out 0
    have hcz9_0 := c0_ BK644
    have hfz9_0 := bF_ BK644.out 0
    go_wp2
    repeat (go_quiet (fail); try go_wp2)
    go_meet
    case rel => exact ⟨_, (decide (x5_1 < (l1_0.length : Int))), (by rfl), H', ⟨by have := HK1.out; omega⟩, ⟨BK643.out⟩, ⟨BK644.out⟩, ⟨HB.out⟩⟩
   rw [if_neg c6] at H
   have c6b0 := dF_ c6
   clear c6
   (skip)
   have H' := aM_ H
   clear H
   have hnb10 := NB643_644.out
   have hnc10 := NB644_643.out
   have hcz11_0 := c0_ BK643
   have hfz11_0 := bF_ BK643.out 0
   go_wp2
   repeat (go_quiet (fail); try go_wp2)
   go_meet
   case rel => exact ⟨_, (false), (by rfl), H', ⟨by have := HK1.out; omega⟩, ⟨BK643.out⟩, ⟨BK644.out⟩, ⟨HB.out⟩⟩
  clear HC5
  try clear p2
  try clear c6b0
  try clear hcz11_0
  try clear hcz8_0
  try clear hcz9_0
  try clear hfz11_0
  try clear hfz8_0
  try clear hfz9_0
  try clear p2
  obtain ⟨kq, x17_4, rfl, HA, HJ4, BK643, BK644, HB⟩ := hcut
  cases kq with
  | zero => exact absurd HA.out (by simp [sF62.j1])
  | succ kj4 =>
   have H := HA.out
   clear HA
   simp only [sF62.j1] at H
   by_cases c12 : x17_4 = true
   rotate_left
   ·
    replace c12 := Bool.eq_false_iff.mpr c12
    subst c12
    replace H : (some ((l0_0.length : Int) == (l1_0.length : Int))) = some r := by rw [if_neg (show ¬ (false = true) by decide)] at H; exact H
    obtain rfl := Option.some.inj H
    have hnb23 := NB643_644.out
    have hnc23 := NB644_643.out
    have hcz24_0 := c0_ BK643
    have hfz24_0 := bF_ BK643.out 0
    have hcz25_0 := c0_ BK644
    have hfz25_0 := bF_ BK644.out 0
    go_wp2
    repeat (go_quiet (fail); try go_wp2)
    go_ret
    exact ⟨by rfl, by exact HB.out⟩
   subst c12
   rw [if_pos rfl] at H
   by_cases c13 : 0 ≤ x5_1
   rotate_left
   ·
    rw [if_neg c13] at H
    exact absurd H (by simp)
   rw [if_pos c13] at H
   have c13b0 := dT_ c13
   clear c13
   by_cases c14 : x5_1 < (l0_0.length : Int)
   rotate_left
   ·
    rw [if_neg c14] at H
    exact absurd H (by simp)
   rw [if_pos c14] at H
   have c14b0 := dT_ c14
   clear c14
   by_cases c15 : x5_1 < (l1_0.length : Int)
   rotate_left
   ·
    rw [if_neg c15] at H
    exact absurd H (by simp)
   rw [if_pos c15] at H
   have c15b0 := dT_ c15
   clear c15
   by_cases c16 : (!(((rd_T76 l0_0 x5_1).f0) == ((rd_T76 l1_0 x5_1).f0)) || (!(((rd_T76 l0_0 x5_1).f1) == ((rd_T76 l1_0 x5_1).f1)) || (!(((rd_T76 l0_0 x5_1).f2) == ((rd_T76 l1_0 x5_1).f2))))) = true
   ·
    rw [if_pos c16] at H
    have c16b0 : (!(((rd_T76 l0_0 x5_1).f0) == ((rd_T76 l1_0 x5_1).f0)) || (!(((rd_T76 l0_0 x5_1).f1) == ((rd_T76 l1_0 x5_1).f1)) || (!(((rd_T76 l0_0 x5_1).f2) == ((rd_T76 l1_0 x5_1).f2))))) = true := c16
    clear c16
    obtain rfl := Option.some.inj H
    have hnb17 := NB643_644.out
    have hnc17 := NB644_643.out
    have hcz18_0 := c0_ BK643
    have hfz18_0 := bF_ BK643.out 0
    have p645 : 0 ≤ (x5_1 : Int) := oD_ ‹_›
    have q645 : x5_1 < (l0_0.length : Int) := oD_ ‹_›
    obtain ⟨ad645, e645, hx645_0, hx645_1, hx645_2⟩ := at_T76 HR0_0.out x5_1 p645 q645
    cases e645
    replace hx645_0 := cb_ HB hx645_0
    replace hx645_1 := cb_ HB hx645_1
    replace hx645_2 := cb_ HB hx645_2
    replace p645 := eq_true p645
    replace q645 := eq_true q645
    have hcz19_0 := c0_ BK644
    have hfz19_0 := bF_ BK644.out 0
    have p646 : 0 ≤ (x5_1 : Int) := oD_ ‹_›
    have q646 : x5_1 < (l1_0.length : Int) := oD_ ‹_›
    obtain ⟨ad646, e646, hx646_0, hx646_1, hx646_2⟩ := at_T76 HR1_0.out x5_1 p646 q646
    cases e646
    replace hx646_0 := cb_ HB hx646_0
    replace hx646_1 := cb_ HB hx646_1
    replace hx646_2 := cb_ HB hx646_2
    replace p646 := eq_true p646
    replace q646 := eq_true q646
    go_wp2
    repeat (go_quiet (fail); try go_wp2)
    go_ret
    exact ⟨by rfl, by repeat with_reducible first | exact HB.out | apply bA_ | apply bN_ | apply bD_ | refine bS_ ?_ (Aside0.out ‹_›)⟩
   rw [if_neg c16] at H
   have c16b0 : (!(((rd_T76 l0_0 x5_1).f0) == ((rd_T76 l1_0 x5_1).f0)) || (!(((rd_T76 l0_0 x5_1).f1) == ((rd_T76 l1_0 x5_1).f1)) || (!(((rd_T76 l0_0 x5_1).f2) == ((rd_T76 l1_0 x5_1).f2))))) = false := by simpa using c16
   clear c16
   have H' := aM_ H
   clear H
   have hnb20 := NB643_644.out
   have hnc20 := NB644_643.out
   have hcz21_0 := c0_ BK643
   have hfz21_0 := bF_ BK643.out 0
   have p645 : 0 ≤ (x5_1 : Int) := oD_ ‹_›
   have q645 : x5_1 < (l0_0.length : Int) := oD_ ‹_›
   obtain ⟨ad645, e645, hx645_0, hx645_1, hx645_2⟩ := at_T76 HR0_0.out x5_1 p645 q645
   cases e645
   replace hx645_0 := cb_ HB hx645_0
   replace hx645_1 := cb_ HB hx645_1
   replace hx645_2 := cb_ HB hx645_2
   replace p645 := eq_true p645
   replace q645 := eq_true q645
   have hcz22_0 := c0_ BK644
   have hfz22_0 := bF_ BK644.out 0
   have p646 : 0 ≤ (x5_1 : Int) := oD_ ‹_›
   have q646 : x5_1 < (l1_0.length : Int) := oD_ ‹_›
   obtain ⟨ad646, e646, hx646_0, hx646_1, hx646_2⟩ := at_T76 HR1_0.out x5_1 p646 q646
   cases e646
   replace hx646_0 := cb_ HB hx646_0
   replace hx646_1 := cb_ HB hx646_1
   replace hx646_2 := cb_ HB hx646_2
   replace p646 := eq_true p646
   replace q646 := eq_true q646
   go_wp2
   repeat (go_quiet (fail); try go_wp2)
   go_roundg kj4
   case measure => have := HK1.out; have := HJ4.out; omega
   case rel => exact ⟨(wrap64 (x5_1 + 1)), (by rfl), H', ⟨by have := HK1.out; have := HJ4.out; omega⟩, ⟨by (with_reducible repeat (first | refine b2_ ?_ _ | refine b1_ ?_ | refine b3_ ?_ _)); exact BK643.out⟩, ⟨by (with_reducible repeat (first | refine b2_ ?_ _ | refine b1_ ?_ | refine b3_ ?_ _)); exact BK644.out⟩, ⟨by repeat with_reducible first | exact HB.out | apply bA_ | apply bN_ | apply bD_ | refine bS_ ?_ (Aside0.out ‹_›)⟩⟩
end Go.Proofs.YtfhffcefpnkllaaGreatDoor.P
namespace Go.Proofs.YtfhffcefpnkllaaGreatDoor.P
open Go.RowKit Go.Proofs.YtfhffcefpnkllaaGreatDoorW.PrintWords Go.Proofs.YtfhffcefpnkllaaGreatDoorW.PrintLast Go.Proofs.YtfhffcefpnkllaaGreatDoorW.PrintMore
attribute [local go_sem] max2_int min2_int max_two min_two max_three min_three max_four min_four
theorem goesD_ {P : Program} {ops : Array Oper} {Q : Exit → Act → World → Prop} {rest : List Oper} {oi : Oper} {a : Act} {w : World} (N : Option Tmp) (hd : oi.dst = N) (hg : oi.guard = none) {t : Tmp} {f : FuncId} {fn : Func} {az : Array Operand} {ts : Array TypeId} (hev : a.eval (.tmp t) = .func (.func f) #[] #[]) (hf : P.funcs[f]? = some fn) (hname : (fn.name == "runtime.NumGoroutine") = false) (hb : fn.body.isSome = true) (args : Array Value)
  (hop : oi.op = .call { callee := .value (.tmp t), args := az, argTypes := ts }) (hargs : az.map a.eval = args)
  (h : Calls P f args w fun e w' => ∃ v, e = .returned v ∧ wpList P ops Q rest (a.put N v) w') : wpList P ops Q (oi :: rest) a w := by
 refine wpList_plain hg fun K hK => ?_
 have he := enters_ hf hname hb args w
 have hrun : (execOp a.eval oi).run P w = .ok (.enter f args) w := by
  unfold execOp
  simp [hop, resolve, Deferred.ofValue, invoke, hev, hargs, he]
 unfold Oper.wp
 rw [hrun, Oper.upon_enter]
 refine h.mono fun e w'' hh => ?_
 obtain ⟨v, rfl, hk⟩ := hh
 subst hd
 exact hK _ _ hk
end Go.Proofs.YtfhffcefpnkllaaGreatDoor.P
namespace Go.Proofs
open Go.Shelf
def Tryz.lays160_ren : Go.Shelf.Ren := ⟨fun | 160 => 85 | 232 => 101 | 231 => 100 | 227 => 102 | 234 => 104 | 233 => 103 | 236 => 106 | 235 => 105 | 228 => 118 | 271 => 121 | 151 => 120 | 197 => 119 | 120 => 130 | 152 => 129 | 260 => 128 | 137 => 141 | 119 => 142 | 224 => 143 | 225 => 144 | 217 => 150 | 266 => 152 | n => n, fun | 9 => 9 | 4 => 4 | 3 => 3 | 5 => 5 | 117 => 117 | 116 => 116 | 0 => 0 | 124 => 120 | 21 => 21 | 105 => 127 | 46 => 124 | 119 => 148 | 139 => 151 | 138 => 150 | n => n, fun | 3 => 1 | 4 => 2 | n => n⟩
theorem Tryz.lays160 : Go.Proofs.Lays.n160 Tryz.prog Tryz.lays160_ren := {
  mixed := by kernel_rfl
  f119 := Tryz.func142.trans (congrArg some (by kernel_rfl))
  f120 := Tryz.func130.trans (congrArg some (by kernel_rfl))
  f137 := Tryz.func141.trans (congrArg some (by kernel_rfl))
  f151 := Tryz.func120.trans (congrArg some (by kernel_rfl))
  f152 := Tryz.func129.trans (congrArg some (by kernel_rfl))
  f160 := Tryz.func85.trans (congrArg some (by kernel_rfl))
  f197 := Tryz.func119.trans (congrArg some (by kernel_rfl))
  f217 := Tryz.func150.trans (congrArg some (by kernel_rfl))
  f224 := Tryz.func143.trans (congrArg some (by kernel_rfl))
  f225 := Tryz.func144.trans (congrArg some (by kernel_rfl))
  f227 := Tryz.func102.trans (congrArg some (by kernel_rfl))
  f228 := Tryz.func118.trans (congrArg some (by kernel_rfl))
  f231 := Tryz.func100.trans (congrArg some (by kernel_rfl))
  f232 := Tryz.func101.trans (congrArg some (by kernel_rfl))
  f233 := Tryz.func103.trans (congrArg some (by kernel_rfl))
  f234 := Tryz.func104.trans (congrArg some (by kernel_rfl))
  f235 := Tryz.func105.trans (congrArg some (by kernel_rfl))
  f236 := Tryz.func106.trans (congrArg some (by kernel_rfl))
  f260 := Tryz.func128.trans (congrArg some (by kernel_rfl))
  f266 := Tryz.func152.trans (congrArg some (by kernel_rfl))
  f271 := Tryz.func121.trans (congrArg some (by kernel_rfl))
  t0 := Tryz.underlying0
  a0 := Tryz.isAgg0
  z0 := Tryz.sizeOf0
  v0 := Tryz.zeroValue0
  t3 := Tryz.underlying3
  a3 := Tryz.isAgg3
  z3 := Tryz.sizeOf3
  v3 := Tryz.zeroValue3
  t4 := Tryz.underlying4
  a4 := Tryz.isAgg4
  z4 := Tryz.sizeOf4
  v4 := Tryz.zeroValue4
  t5 := Tryz.underlying5
  a5 := Tryz.isAgg5
  z5 := Tryz.sizeOf5
  v5 := Tryz.zeroValue5
  t9 := Tryz.underlying9
  a9 := Tryz.isAgg9
  z9 := Tryz.sizeOf9
  v9 := Tryz.zeroValue9
  t21 := Tryz.underlying21
  a21 := Tryz.isAgg21
  z21 := Tryz.sizeOf21
  v21 := Tryz.zeroValue21
  t46 := Tryz.underlying124
  a46 := Tryz.isAgg124
  z46 := Tryz.sizeOf124
  v46 := Tryz.zeroValue124
  t105 := Tryz.underlying127
  a105 := Tryz.isAgg127
  z105 := Tryz.sizeOf127
  v105 := Tryz.zeroValue127
  t116 := Tryz.underlying116
  a116 := Tryz.isAgg116
  z116 := Tryz.sizeOf116
  t117 := Tryz.underlying117
  a117 := Tryz.isAgg117
  z117 := Tryz.sizeOf117
  v117 := Tryz.zeroValue117
  t119 := Tryz.underlying148
  a119 := Tryz.isAgg148
  z119 := Tryz.sizeOf148
  t124 := Tryz.underlying120
  a124 := Tryz.isAgg120
  z124 := Tryz.sizeOf120
  v124 := Tryz.zeroValue120
  t138 := Tryz.underlying150
  a138 := Tryz.isAgg150
  z138 := Tryz.sizeOf150
  v138 := Tryz.zeroValue150
  t139 := Tryz.underlying151
  a139 := Tryz.isAgg151
  z139 := Tryz.sizeOf151
  v139 := Tryz.zeroValue151
  g3 := by kernel_rfl
  g4 := by kernel_rfl }
end Go.Proofs
namespace Go.Proofs.YtfhffcefpnkllaaGreatDoor.P
open Go.RowKit Go.Proofs.YtfhffcefpnkllaaGreatDoorW.PrintWords Go.Proofs.YtfhffcefpnkllaaGreatDoorW.PrintLast Go.Proofs.YtfhffcefpnkllaaGreatDoorW.PrintMore
open Go.Proofs.YtfhffcefpnkllaaGreatDoorW.PrintWords renaming blk_frozen → bF_, blk_cell → bC_, below_set → bS_, blk_below → bB_, below_step → bT_, pw_below_drewN → bN_, below_size → bZ_, below_drew1 → bD_, below_alloc → bA_, blk_far → bR_, gate_callee → gC_, gate_dst → gD_, box_event → bE_, blk_drew → b1_, blk_put → bP_, blk_drewN → b2_, blk_alloc → b3_, blk_lt → bL_, cell_far → cF_
open Go.Proofs.YtfhffcefpnkllaaGreatDoorW.PrintLast renaming any_of → aO_, i64_w → i6_, i32_w → i3_, take_ofW → tW_
open Go.Proofs.YtfhffcefpnkllaaGreatDoorW.PrintWords.Kd renaming R_below → kB_, R_mono → kM_, R_far → kF_, R_reads' → kR_, R_types → kT_, R_slice → kS_, R_celln → kC_, R_alloc → k1_, R_drewN → k2_, R_drew → k3_, C_below → k4_, R_lower → k5_, R_ne → k6_, own_blk → k7_
open Go.Proofs.YtfhffcefpnkllaaGreatDoorW.PrintWords.LeO renaming none → l0_, bind → l1_, ite → l2_, refl → l3_
open World renaming block_lt_of_cell? → wB_
open _root_.Option renaming bind_eq_some_iff → oB_
open _root_.ByteArray renaming empty → eB_
open List renaming setIfInBounds_toArray → sA_, set_cons_zero → sB_, set_cons_succ → sC_, map_toArray → sD_, map_cons → sE_, map_nil → sF_, length_drop → sG_, length_take → sH_
open Bool renaming true → ty, false → fy
open Aside0 renaming mk → aM_
attribute [local go_sem] max2_int min2_int max_two min_two max_three min_three max_four min_four
def iF19.letter (c : UInt8) : Bool := decide (97 ≤ c.toNat ∧ c.toNat ≤ 122)
def iF19.f (a0 : ByteArray) : Option Bool := if a0.size ≤ 9223372036854775807 then some (a0.data.toList.all iF19.letter) else none
def iF19.abc : List UInt8 := [97, 98, 99, 100, 101, 102, 103, 104, 105, 106, 107, 108, 109, 110, 111, 112, 113, 114, 115, 116, 117, 118, 119, 120, 121, 122]
theorem iF19.abc_mem (c : UInt8) : iF19.abc.contains c = iF19.letter c := by
 have h : ∀ n : Fin 256, iF19.abc.contains (UInt8.ofNat n.val) = iF19.letter (UInt8.ofNat n.val) := by decide +kernel
 have := h ⟨c.toNat, c.toNat_lt⟩
 simpa using this
theorem iF19.dw_nil (p : UInt8 → Bool) : ∀ l : List UInt8, l.dropWhile p = [] ↔ ∀ x ∈ l, p x = true
 | [] => by simp
 | a :: l => by
  cases h : p a
  ·
   simp [List.dropWhile_cons, h]
  simp [List.dropWhile_cons, h, iF19.dw_nil p l]
theorem iF19.dw_head (p : UInt8 → Bool) : ∀ (l t : List UInt8) (a : UInt8), l.dropWhile p = a :: t → p a = false
 | [], _, _, h => by simp at h
 | b :: l, t, a, h => by
  cases hb : p b
  ·
   simp [List.dropWhile_cons, hb] at h; rw [← h.1]; exact hb
  simp [List.dropWhile_cons, hb] at h; exact iF19.dw_head p l t a h
theorem iF19.trim_eq (p : UInt8 → Bool) (l : List UInt8) : ((l.reverse.dropWhile p).reverse.dropWhile p).isEmpty = l.all p := by
 rw [Bool.eq_iff_iff, List.isEmpty_iff, iF19.dw_nil p, List.all_eq_true]
 constructor
 ·
  intro h
  cases hm : l.reverse.dropWhile p with
  | nil =>
   rw [iF19.dw_nil p] at hm
   exact fun x hx => hm x (by simpa using hx)
  | cons a t =>
   have h1 : p a = true := h a (by rw [hm]; simp)
   rw [iF19.dw_head p _ _ _ hm] at h1; cases h1
 intro h x hx
 have : x ∈ l.reverse.dropWhile p := by simpa using hx
 have := (List.dropWhile_sublist p).subset this
 exact h x (by simpa using this)
theorem iF19.trim_nil (l : List UInt8) : (Lib.trimS l iF19.abc).isEmpty = l.all iF19.letter := by
 unfold Lib.trimS Lib.trimLeftS Lib.trimRightS
 have : (fun x => iF19.abc.contains x) = iF19.letter := funext iF19.abc_mem
 rw [this, iF19.trim_eq]
theorem iF19.rb {a b : Bool} (h : a = b) : Ending.returned (.bool a) = .returned (.bool b) := by rw [h]
set_option maxHeartbeats 2000000 in
theorem iF19.calls (a0 : ByteArray) (r : Bool) (w : World) (h : iF19.f a0 = some r) :
  Calls Tryz.prog 64 #[.string a0] w fun e w' => e = .returned (.bool r) ∧ Below w.heap.size w w' := by
 unfold iF19.f at h
 by_cases hs : a0.size ≤ 9223372036854775807
 rotate_left
 ·
  rw [if_neg hs] at h; cases h
 rw [if_pos hs] at h
 have H := aM_ (Option.some.inj h)
 clear h
 have HC := aM_ (Go.Proofs.Any.strings_Trim_laid Go.Proofs.Tryz.lays160 (by kernel_rfl) a0 ⟨#[97, 98, 99, 100, 101, 102, 103, 104, 105, 106, 107, 108, 109, 110, 111, 112, 113, 114, 115, 116, 117, 118, 119, 120, 121, 122]⟩ w hs (by decide) (Go.Proofs.ascii_of_all (by decide)))
 have HT := aM_ ((show (Lib.trimS a0.data.toList iF19.abc).isEmpty = r from (iF19.trim_nil _).trans H.out))
 clear H
 go_enter Tryz.func64, Tryz.ntmps64
 go_wp2_with fail
 refine HC.out.mono ?_
 clear HC
 rintro e w1 ⟨rfl, hb0⟩
 have HB := aM_ hb0
 clear hb0
 obtain ⟨t, ht⟩ : ∃ t, t = Lib.trimS a0.data.toList iF19.abc := ⟨_, rfl⟩
 rw [show Lib.trimS a0.data.toList (⟨#[97, 98, 99, 100, 101, 102, 103, 104, 105, 106, 107, 108, 109, 110, 111, 112, 113, 114, 115, 116, 117, 118, 119, 120, 121, 122]⟩ : ByteArray).data.toList = t from ht.symm]
 rw [← ht] at HT
 clear ht
 cases t with
 | nil =>
  go_wp2_with fail
  go_ret
  exact ⟨iF19.rb (by rw [← HT.out]; rfl), HB.out⟩
 | cons c t =>
  go_wp2_with fail
  go_ret
  exact ⟨iF19.rb (by rw [← HT.out]; rfl), HB.out⟩
def iF24.f (a0 : ByteArray) : Option (Bool) := if (a0.size : Int) ≤ 12 then ((iF19.f a0).bind fun t306 => (some t306)) else (some false)
theorem iF24.calls (a0 : ByteArray) (r : Bool) (w : World) (h : iF24.f a0 = some r) :
  Calls Tryz.prog 34 #[.string a0] w fun e w' => e = .returned (.bool r) ∧ Below w.heap.size w w' := by
 have HB := aM_ (Below.refl w.heap.size w)
 have H : (if (a0.size : Int) ≤ 12 then ((iF19.f a0).bind fun t306 => (some t306)) else (some false)) = some r := h
 clear h
 by_cases c2 : (a0.size : Int) ≤ 12
 ·
  rw [if_pos c2] at H
  have c2b0 := dT_ c2
  have c2b1 : decide (a0.size ≤ 12) = true := dT_ (by omega)
  clear c2
  replace H := oB_.mp H
  obtain ⟨t306, A30, H⟩ := H
  try dsimp only at H
  have A3 := aM_ A30
  clear A30
  obtain rfl := Option.some.inj H
  go_enter Tryz.func34, Tryz.ntmps34
  go_wp2_with (first | (go_at_call 64; (with_reducible refine (iF19.calls a0 t306 _ A3.out).mono ?_); rintro e w4 ⟨rfl, hb⟩; replace HB := b4_ HB hb; (try clear hb)))
  go_ret
  exact ⟨by rfl, by exact HB.out⟩
 rw [if_neg c2] at H
 have c2b0 := dF_ c2
 have c2b1 : decide (a0.size ≤ 12) = false := dF_ (by omega)
 clear c2
 obtain rfl := Option.some.inj H
 go_enter Tryz.func34, Tryz.ntmps34
 go_wp2
 go_ret
 exact ⟨by rfl, by exact HB.out⟩
def iF21.f (a0 : Int) (a1 : Int) (a2 : Int) : Option (Bool) := if a0 ≥ a1 then (some (decide (a0 ≤ a2))) else (some false)
theorem iF21.calls (a0 : Int) (a1 : Int) (a2 : Int) (r : Bool) (w : World) (h : iF21.f a0 a1 a2 = some r) :
  Calls Tryz.prog 67 #[.int .i64 a0, .int .i64 a1, .int .i64 a2] w fun e w' => e = .returned (.bool r) ∧ Drawn0 w w' := by
 have H : (if a0 ≥ a1 then (some (decide (a0 ≤ a2))) else (some false)) = some r := h
 clear h
 by_cases c4 : a0 ≥ a1
 ·
  rw [if_pos c4] at H
  have c4b0 := dT_ c4
  clear c4
  obtain rfl := Option.some.inj H
  go_enter Tryz.func67, Tryz.ntmps67
  go_wp2
  go_ret
  exact ⟨by rfl, by repeat (first | exact Drawn0.refl _ | apply Drawn0.step)⟩
 rw [if_neg c4] at H
 have c4b0 := dF_ c4
 clear c4
 obtain rfl := Option.some.inj H
 go_enter Tryz.func67, Tryz.ntmps67
 go_wp2
 go_ret
 exact ⟨by rfl, by repeat (first | exact Drawn0.refl _ | apply Drawn0.step)⟩
def iF11.l0 : Nat → List ByteArray → List (S60) → Int → Int → Option (List ByteArray × Bool)
 | 0, _, _, _, _ => none
 | k + 1, x4, x15, x16, x17 => if x17 < x16 then (if 0 ≤ x17 then (if x17 < (x15.length : Int) then ((iF21.f ((rd_T60 x15 x17).f1) 0 x17).bind fun t318 => (if t318 = true then (if (((rd_T60 x15 x17).f0).size : Int) > 12 then (some (([] : List ByteArray), false)) else (if 0 ≤ ((rd_T60 x15 x17).f1) then (if ((rd_T60 x15 x17).f1) < (x4.length : Int) then (if (rdOf eB_ x4 ((rd_T60 x15 x17).f1)).size + ((rd_T60 x15 x17).f0).size ≤ 9223372036854775807 then ((iF24.f ((rdOf eB_ x4 ((rd_T60 x15 x17).f1)) ++ ((rd_T60 x15 x17).f0))).bind fun t320 => (if t320 = true then (if x4.length < 8796093022208 then (iF11.l0 k (x4 ++ [(rdOf eB_ x4 ((rd_T60 x15 x17).f1)) ++ ((rd_T60 x15 x17).f0)]) x15 x16 (wrap64 (x17 + 1))) else (none)) else (some (([] : List ByteArray), false)))) else (none)) else (none)) else (none))) else (some (([] : List ByteArray), false)))) else (none)) else (none)) else (some (x4, true))
def iF11.f (k : Nat) (l0_0 : List (S60)) : Option (List ByteArray × Bool) := (iF21.f (l0_0.length : Int) 1 81).bind fun t311 => (if t311 = true then (if 1 ≤ (l0_0.length : Int) then ((some (l0_0.drop 1 : List (S60))).bind fun y312 => (iF11.l0 k (([(⟨#[]⟩ : ByteArray)] : List ByteArray)) y312 (y312.length : Int) 0)) else (none)) else (some (([] : List ByteArray), false)))
theorem iF11.mono_l : ∀ k, (∀ y0 y1 y2 y3, LeO (iF11.l0 k y0 y1 y2 y3) (iF11.l0 (k + 1) y0 y1 y2 y3))
 | 0 => fun _ _ _ _ r h => by simp [iF11.l0] at h
 | k + 1 => by
  have ih0 := iF11.mono_l k
  intro y0 y1 y2 y3
  unfold iF11.l0
  repeat' with_reducible first | exact ih0 _ _ _ _ | exact l3_ _ | exact l0_ _ | refine l2_ ?_ ?_ | refine l1_ ?_ (fun _ => ?_)
theorem iF11.mono : ∀ a0 k, LeO (iF11.f k a0) (iF11.f (k + 1) a0) := by
 intro a0 k
 have ih0 := iF11.mono_l k
 unfold iF11.f
 repeat' with_reducible first | exact ih0 _ _ _ _ | exact l3_ _ | exact l0_ _ | refine l2_ ?_ ?_ | refine l1_ ?_ (fun _ => ?_)
def iF11.T7 : Bool × List (List Nat × List Nat) := (true, [([], []), ([0], [0]), ([], []), ([1, 2], [1, 2]), ([3], [3]), ([4, 3], [4]), ([5], [5]), ([6, 5], [5, 6]), ([7, 5], [5, 7]), ([8, 5], [5, 8]), ([5, 9], [5, 9]), ([10, 5], [10]), ([11], [11]), ([11], [11]), ([13, 11], [11, 13]), ([12, 14, 11], [11, 12, 14]), ([15, 11], [11, 15]), ([11], [11]), ([17, 11], [11, 17]), ([16, 18, 11], [11, 16, 18]), ([19, 11, 11], [11, 19]), ([20, 11], [11, 20]), ([11, 21], [11, 21])])
def iF11.B7 : List Nat := [0, 1, 0, 7, 15, 31, 63, 127, 255, 511, 1023, 2047, 4095, 4095, 12287, 32767, 65535, 4095, 135167, 524287, 1048575, 2097151, 4194303]
theorem iF11.tab7 : rtab .any (opsOf Tryz.f36 7) = iF11.T7 := by kernel_rfl
theorem iF11.bits7 : waitsOk iF11.T7.2 iF11.B7 = true := by kernel_rfl
def iF11.T9 : Bool × List (List Nat × List Nat) := (true, [([], []), ([], []), ([], []), ([2], [2]), ([1, 3], [1, 3]), ([4], [4]), ([], []), ([6], [6]), ([5, 7], [5, 7]), ([8], [8]), ([0, 9], [0, 9]), ([10, 10, 0, 1, 2, 3, 4, 5, 6, 7, 8, 9, 10], [0, 1, 10])])
def iF11.B9 : List Nat := [0, 0, 0, 4, 14, 30, 0, 64, 254, 510, 1023, 2047]
theorem iF11.tab9 : rtab .any (opsOf Tryz.f36 9) = iF11.T9 := by kernel_rfl
theorem iF11.bits9 : waitsOk iF11.T9.2 iF11.B9 = true := by kernel_rfl
theorem iF11.calls (k : Nat) (A0_0 : Option Addr) (c0_0 : Nat) (l0_0 : List (S60)) (r1 : List ByteArray) (r2 : Bool) (w : World) (hr0_0 : Kd.C k60 w A0_0 l0_0.length l0_0) (hc0_0 : l0_0.length ≤ c0_0) (h : iF11.f k l0_0 = some (r1, r2)) :
  Calls Tryz.prog 36 #[.agg #[.slice A0_0 l0_0.length c0_0]] w fun e w' => ∃ v0_ : Value, e = .returned (.tuple #[v0_, .bool r2]) ∧ Kd.R Kd.string 9 w' w.heap.size (fun _ => True) v0_ r1 ∧ Below w.heap.size w w' := by
 have hu30 := Tryz.underlying30
 have hu60 := Tryz.underlying60
 have HR0_0 := aM_ hr0_0
 have HC0_0 := aM_ hc0_0
 clear hr0_0 hc0_0
 have HB := aM_ (Below.refl w.heap.size w)
 have H : ((iF21.f (l0_0.length : Int) 1 81).bind fun t311 => (if t311 = true then (if 1 ≤ (l0_0.length : Int) then ((some (l0_0.drop 1 : List (S60))).bind fun y312 => (iF11.l0 k (([(⟨#[]⟩ : ByteArray)] : List ByteArray)) y312 (y312.length : Int) 0)) else (none)) else (some (([] : List ByteArray), false)))) = some (r1, r2) := h
 clear h
 obtain ⟨y308, hy308⟩ : ∃ y_ : List ByteArray, y_ = (([(⟨#[]⟩ : ByteArray)] : List ByteArray)) := ⟨_, rfl⟩
 replace H : ((iF21.f (l0_0.length : Int) 1 81).bind fun t311 => (if t311 = true then (if 1 ≤ (l0_0.length : Int) then ((some (l0_0.drop 1 : List (S60))).bind fun y312 => (iF11.l0 k y308 y312 (y312.length : Int) 0)) else (none)) else (some (([] : List ByteArray), false)))) = some (r1, r2) := by (try rw [hy308]); first | with_reducible exact H | with_reducible exact oS_ H | exact H
 have Ny308 := aM_ hy308
 clear hy308
 replace H := oB_.mp H
 obtain ⟨t311, A20, H⟩ := H
 try dsimp only at H
 have A2 := aM_ A20
 clear A20
 by_cases c3 : t311 = true
 rotate_left
 ·
  replace c3 := Bool.eq_false_iff.mpr c3
  subst c3
  replace H : (some (([] : List ByteArray), false)) = some (r1, r2) := by rw [if_neg (show ¬ (false = true) by decide)] at H; exact H
  simp only [Option.some.injEq, Prod.mk.injEq] at H
  obtain ⟨rfl, rfl⟩ := H
  go_enter Tryz.func36, Tryz.ntmps36
  go_wp2_with (first | ((with_reducible refine gD_ (N := 1) rfl ?_); (try (refine gate_guard (by rfl) ?_; dsimp only)); refine bE_ ?hg (N := 1) ?hd (cs := #[.slice A0_0 l0_0.length c0_0]) (t := 30) ?hr ?_; (case hd => rfl); (case hg => rfl); (case hr => (go_simp; done)); intro gb307 hg w48 hbox hb; have BK307 := aM_ (hbox); have GW307 := gw_ hg HB; replace HB := b4_ HB hb; clear hb hbox hg) | ((with_reducible refine gD_ (N := 7) rfl ?_); (try (refine gate_guard (by rfl) ?_; dsimp only)); refine Kd.R_lit Kd.string _ 9 ?hg (N := 7) ?hd (xs := ([(⟨#[]⟩ : ByteArray)] : List ByteArray)) (inner := [.string (⟨#[]⟩ : ByteArray)]) (ok := fun _ => True) (okp := fun _ => True) ?hr ?hp (fun _ hk => hk) trivial (Below.refl _ _) (Nat.le_refl _) (by simp) ?_; (case hd => rfl); (case hg => rfl); (case hr => (go_simp; done)); (case hp => exact (Reps.one (show Kd.M Kd.string _ _ _ (⟨#[]⟩ : ByteArray) [.string (⟨#[]⟩ : ByteArray)] from rfl) (Reps.none _ _))); intro v309 w49 ho50 hb hg_ hnew_; clear hg_ hnew_; (rw [← Ny308.out] at ho50); have HO310 := aM_ (k5_ ho50 (bZ_ HB.out)); replace BK307 := b5_ BK307 hb; replace HB := b4_ HB hb; clear hb ho50; have hcz51_0 := c0_ BK307; have hfz51_0 := bF_ BK307.out 0) | (refine gs_ 11 Tryz.func67 #[.int .i64 (l0_0.length : Int), .int .i64 1, .int .i64 81] ?_; (with_reducible refine (iF21.calls (l0_0.length : Int) 1 81 false _ A2.out).mono ?_); rintro e w' ⟨rfl, ⟨nd, rfl⟩⟩; refine ⟨_, rfl, ?_⟩))
  go_ret2
  exact ⟨_, by rfl, by exact Kd.R_nil _ _ _ _ _, by repeat with_reducible first | exact HB.out | apply bA_ | apply bN_ | apply bD_ | refine bS_ ?_ GW307.out⟩
 subst c3
 rw [if_pos rfl] at H
 by_cases c4 : 1 ≤ (l0_0.length : Int)
 rotate_left
 ·
  rw [if_neg c4] at H
  exact absurd H (by simp)
 rw [if_pos c4] at H
 have c4b0 := eq_true c4
 have c4b1 := dT_ c4
 clear c4
 obtain ⟨y312, hy312⟩ : ∃ y_ : List (S60), y_ = (l0_0.drop 1) := ⟨_, rfl⟩
 replace H : (iF11.l0 k y308 y312 (y312.length : Int) 0) = some (r1, r2) := by (try rw [hy312]); first | with_reducible exact H | with_reducible exact oS_ H | exact H
 have Ny312 := aM_ hy312
 clear hy312
 have H' := aM_ H
 clear H
 go_enter Tryz.func36, Tryz.ntmps36
 go_wp2_with (first | ((with_reducible refine gD_ (N := 1) rfl ?_); (try (refine gate_guard (by rfl) ?_; dsimp only)); refine bE_ ?hg (N := 1) ?hd (cs := #[.slice A0_0 l0_0.length c0_0]) (t := 30) ?hr ?_; (case hd => rfl); (case hg => rfl); (case hr => (go_simp; done)); intro gb307 hg w5 hbox hb; have BK307 := aM_ (hbox); have GW307 := gw_ hg HB; replace HB := b4_ HB hb; clear hb hbox hg) | ((with_reducible refine gD_ (N := 7) rfl ?_); (try (refine gate_guard (by rfl) ?_; dsimp only)); refine Kd.R_lit Kd.string _ 9 ?hg (N := 7) ?hd (xs := ([(⟨#[]⟩ : ByteArray)] : List ByteArray)) (inner := [.string (⟨#[]⟩ : ByteArray)]) (ok := fun _ => True) (okp := fun _ => True) ?hr ?hp (fun _ hk => hk) trivial (Below.refl _ _) (Nat.le_refl _) (by simp) ?_; (case hd => rfl); (case hg => rfl); (case hr => (go_simp; done)); (case hp => exact (Reps.one (show Kd.M Kd.string _ _ _ (⟨#[]⟩ : ByteArray) [.string (⟨#[]⟩ : ByteArray)] from rfl) (Reps.none _ _))); intro v309 w6 ho7 hb hg_ hnew_; clear hg_ hnew_; (rw [← Ny308.out] at ho7); have HO310 := aM_ (k5_ ho7 (bZ_ HB.out)); replace BK307 := b5_ BK307 hb; replace HB := b4_ HB hb; clear hb ho7; have hcz8_0 := c0_ BK307; have hfz8_0 := bF_ BK307.out 0) | (refine gs_ 11 Tryz.func67 #[.int .i64 (l0_0.length : Int), .int .i64 1, .int .i64 81] ?_; (with_reducible refine (iF21.calls (l0_0.length : Int) 1 81 true _ A2.out).mono ?_); rintro e w' ⟨rfl, ⟨nd, rfl⟩⟩; refine ⟨_, rfl, ?_⟩; have q9 : (1 : Int) ≤ ((l0_0.length : Int) : Int) := oD_ ‹_›; obtain ⟨i09, hi09, _, hsz9, _⟩ := info_parts info60; have hroom9 : l0_0.length ≤ c0_0 := HC0_0.out; have hC9 : Kd.C k60 _ A0_0 l0_0.length l0_0 := HR0_0.out; have hcut9 := cut_from (P := Tryz.prog) 28 60 .i64 Tryz.underlying28 hi09 3 hsz9 A0_0 l0_0.length c0_0 1 (by omega) q9; have hr9 := Kd.C_drop (m := (1 : Int).toNat) (c := c0_0) hC9 (by omega) hroom9; obtain ⟨A9, hA9⟩ : ∃ A1, A1 = (if c0_0 = (1 : Int).toNat then A0_0 else (A0_0 : Option Addr).map (·.add ((1 : Int).toNat * 3))) := ⟨_, rfl⟩; obtain ⟨c9, hc9⟩ : ∃ c1, c1 = c0_0 - (1 : Int).toNat := ⟨_, rfl⟩; have hy9 : y312.length = l0_0.length - (1 : Int).toNat := (by rw [Ny312.out, List.length_drop] <;> omega); rw [show (l0_0).drop (1 : Int).toNat = y312 from Ny312.out.symm] at hr9; replace hr9 : Kd.C k60 _ A9 y312.length y312 := (by rw [hA9]; exact hr9); rw [← hy9, ← hA9, ← hc9] at hcut9; have HR315 := aM_ hr9; have HC315 := aM_ (show y312.length ≤ c9 from by rw [hy9, hc9]; exact Nat.sub_le_sub_right hroom9 _); clear hr9 hC9 hroom9 hi09 hsz9 hc9; have KY9 := aM_ hy9; have KA9 := aM_ hA9; clear hy9 hA9; replace q9 := eq_true q9))
 go_loopg [4, 17] k (fun kq v4 v17 w' => ∃ (x4_1 : List ByteArray) (x17_1 : Int), v17 = .int .i64 x17_1 ∧ Aside0 (iF11.l0 kq x4_1 y312 (y312.length : Int) x17_1 = some (r1, r2)) ∧ Aside0 (kq ≤ k) ∧ Aside0 (Kd.R Kd.string 9 w' w.heap.size (fun _ => True) v4 x4_1) ∧ Aside0 (w'.heap[gb307]? = some (.cells #[(.slice A0_0 l0_0.length c0_0)] 30 (0, 0))) ∧ Aside0 (Below w.heap.size w w'))
 case atStart => exact ⟨(y308), (0), (by rfl), H', ⟨Nat.le_refl _⟩, ⟨by (with_reducible repeat (first | apply k1_ | apply k2_ | apply k3_)); exact HO310.out⟩, ⟨by (with_reducible repeat (first | refine b2_ ?_ _ | refine b1_ ?_ | refine b3_ ?_ _)); exact BK307.out⟩, ⟨by repeat with_reducible first | exact HB.out | apply bA_ | apply bN_ | apply bD_ | refine bS_ ?_ GW307.out⟩⟩
 clear H'
 try clear p2
 try clear c4b0
 try clear c4b1
 try clear q9
 try clear hcz8_0
 try clear hfz8_0
 try clear q9
 obtain ⟨x4_1, x17_1, rfl, HA, HK1, HO_4, BK307, HB⟩ := hrel
 cases gk with
 | zero => exact absurd HA.out (by simp [iF11.l0])
 | succ k1 =>
  have H := HA.out
  clear HA
  simp only [iF11.l0] at H
  by_cases c10 : x17_1 < (y312.length : Int)
  rotate_left
  ·
   rw [if_neg c10] at H
   have c10b0 := dF_ c10
   clear c10
   simp only [Option.some.injEq, Prod.mk.injEq] at H
   obtain ⟨rfl, rfl⟩ := H
   go_wp2
   go_ret2
   exact ⟨_, by rfl, by exact HO_4.out, by exact HB.out⟩
  rw [if_pos c10] at H
  have c10b0 := dT_ c10
  clear c10
  by_cases c11 : 0 ≤ x17_1
  rotate_left
  ·
   rw [if_neg c11] at H
   exact absurd H (by simp)
  rw [if_pos c11] at H
  have c11b0 := dT_ c11
  clear c11
  by_cases c12 : x17_1 < (y312.length : Int)
  rotate_left
  ·
   rw [if_neg c12] at H
   exact absurd H (by simp)
  rw [if_pos c12] at H
  have c12b0 := dT_ c12
  clear c12
  replace H := oB_.mp H
  obtain ⟨t318, A130, H⟩ := H
  try dsimp only at H
  have A13 := aM_ A130
  clear A130
  by_cases c14 : t318 = true
  rotate_left
  ·
   replace c14 := Bool.eq_false_iff.mpr c14
   subst c14
   replace H : (some (([] : List ByteArray), false)) = some (r1, r2) := by rw [if_neg (show ¬ (false = true) by decide)] at H; exact H
   simp only [Option.some.injEq, Prod.mk.injEq] at H
   obtain ⟨rfl, rfl⟩ := H
   have p316 : 0 ≤ (x17_1 : Int) := oD_ ‹_›
   have q316 : x17_1 < (y312.length : Int) := oD_ ‹_›
   obtain ⟨ad316, e316, hx316_0, hx316_1, hx316_2⟩ := at_T60 HR315.out x17_1 p316 q316
   cases e316
   replace hx316_0 := cb_ HB hx316_0
   replace hx316_1 := cb_ HB hx316_1
   replace hx316_2 := cb_ HB hx316_2
   replace p316 := eq_true p316
   replace q316 := eq_true q316
   try go_wp2_with (first | ((with_reducible refine gD_ (N := 6) rfl ?_); (try (refine gate_guard (by rfl) ?_; dsimp only)); refine bE_ ?hg (N := 6) ?hd (cs := #[.string (⟨#[]⟩ : ByteArray), .int .i64 0, .bool false]) (t := 60) ?hr ?_; (case hd => rfl); (case hg => rfl); (case hr => (go_simp; done)); intro gb317 hg w43 hbox hb; replace HO_4 := k9_ HO_4 hb; have BK317 := aM_ (hbox); have GW317 := gw_ hg HB; replace HB := b4_ HB hb; have NB307_317 := nb_ hg BK307; have NB317_307 := ns_ NB307_317; replace BK307 := b5_ BK307 hb; clear hb hbox hg; have hnb44 := NB317_307.out; have hnc44 := NB307_317.out; have hcz45_0 := c0_ BK317; have hcz45_1 := c1_ BK317; have hcz45_2 := c2_ BK317; have hfz45_0 := bF_ BK317.out 0; have hfz45_1 := bF_ BK317.out 1; have hfz45_2 := bF_ BK317.out 2))
   generalize hW_ : (((w43.setCell ⟨gb317, 0, none⟩ (.string ((rd_T60 y312 x17_1).f0))).setCell ⟨gb317, 1, none⟩ (.int .i64 ((rd_T60 y312 x17_1).f1))).setCell ⟨gb317, 2, none⟩ (.bool ((rd_T60 y312 x17_1).f2))) = w46
   have n0_ : Aside0 (Kd.R Kd.string 9 w46 w.heap.size (fun _ => True) u4 x4_1) := ⟨by subst hW_; exact kM_ (kG_ (kG_ (kG_ (kT_ HO_4.out BK317.out (by decide))))) (fun _ hk => trivial)⟩
   have n1_ : Aside0 (w46.heap[gb307]? = some (.cells #[.slice A0_0 l0_0.length c0_0] 30 (0, 0))) := ⟨by subst hW_; exact br_ NB307_317.out (br_ NB307_317.out (br_ NB307_317.out (BK307.out)))⟩
   have n2_ : Aside0 (w46.heap[gb317]? = some (.cells #[.string ((rd_T60 y312 x17_1).f0), .int .i64 ((rd_T60 y312 x17_1).f1), .bool ((rd_T60 y312 x17_1).f2)] 60 (0, 0))) := ⟨by subst hW_; refine bP_ (cs := #[.string ((rd_T60 y312 x17_1).f0), .int .i64 ((rd_T60 y312 x17_1).f1), .bool false]) ?_ 2 _ rfl; refine bP_ (cs := #[.string ((rd_T60 y312 x17_1).f0), .int .i64 0, .bool false]) ?_ 1 _ rfl; refine bP_ (cs := #[.string (⟨#[]⟩ : ByteArray), .int .i64 0, .bool false]) ?_ 0 _ rfl; exact BK317.out⟩
   have n3_ : Aside0 (Below w.heap.size w w46) := ⟨by subst hW_; repeat with_reducible first | exact HB.out | apply bA_ | apply bN_ | apply bD_ | refine bS_ ?_ (Aside0.out ‹_›)⟩
   (try clear HO_4)
   (try clear BK307)
   (try clear BK317)
   (try clear HB)
   clear hW_
   have HO_4 := n0_
   have BK307 := n1_
   have BK317 := n2_
   have HB := n3_
   clear n0_ n1_ n2_ n3_
   have n0_ := aM_ (k3_ HO_4.out)
   have n1_ := aM_ (b1_ BK307.out)
   have n2_ := aM_ (b1_ BK317.out)
   have n3_ := aM_ (bD_ HB.out)
   clear HO_4
   clear BK307
   clear BK317
   clear HB
   have HO_4 := n0_
   have BK307 := n1_
   have BK317 := n2_
   have HB := n3_
   clear n0_ n1_ n2_ n3_
   refine start_ (n := 23) (S := fun w' => w'.cell? ⟨gb317, 0, none⟩ = some (.string ((rd_T60 y312 x17_1).f0)) ∧ w'.cell? ⟨gb317, 1, none⟩ = some (.int .i64 ((rd_T60 y312 x17_1).f1)) ∧ w'.cell? ⟨gb317, 2, none⟩ = some (.bool ((rd_T60 y312 x17_1).f2))) (ds := []) #[fy, fy, fy, fy, fy, fy, fy, fy, fy, fy, fy, fy, fy, fy, fy, fy, fy, fy, fy, fy, fy, fy, fy] (by kernel_rfl) rfl rfl ⟨(bC_ BK317.out 0).trans rfl, (bC_ BK317.out 1).trans rfl, (bC_ BK317.out 2).trans rfl⟩ (fun hHeld => ?_); refine with_tabW iF11.tab7 iF11.bits7 (fun HT_ HW_ => ?_)
   generalize w46.drew = w47 at HO_4 BK307 BK317 HB hHeld ⊢
   refine pu_ HT_ 0 22 #[ty, fy, fy, fy, fy, fy, fy, fy, fy, fy, fy, fy, fy, fy, fy, fy, fy, fy, fy, fy, fy, fy, fy] ?_
   refine pu_ HT_ 2 24 #[ty, fy, ty, fy, fy, fy, fy, fy, fy, fy, fy, fy, fy, fy, fy, fy, fy, fy, fy, fy, fy, fy, fy] ?_
   refine tk_ HT_ HW_ 1 23 #[ty, ty, ty, fy, fy, fy, fy, fy, fy, fy, fy, fy, fy, fy, fy, fy, fy, fy, fy, fy, fy, fy, fy] hHeld ?_ (hr := by rintro w' ⟨s0, s1, s2⟩; go_simp; with_reducible rfl)
   refine one_ (i := 3) (N := some 25) #[ty, ty, ty, ty, fy, fy, fy, fy, fy, fy, fy, fy, fy, fy, fy, fy, fy, fy, fy, fy, fy, fy, fy] rfl rfl (one_of HT_.out (by kernel_rfl)) (by decide) (fun K hK => ?_)
   refine goes_ Tryz.func67 (by kernel_rfl) rfl #[.int .i64 ((rd_T60 y312 x17_1).f1), .int .i64 0, .int .i64 x17_1] (by rfl) rfl rfl (by (try simp only [sD_, sE_, sF_]); rfl) ?_
   with_reducible refine (iF21.calls ((rd_T60 y312 x17_1).f1) 0 x17_1 false _ A13.out).mono ?_
   rintro e w' ⟨rfl, ⟨nd, rfl⟩⟩
   refine ⟨_, rfl, ?_⟩
   refine hK.out _ _ ⟨(bC_ BK317.out 0).trans rfl, (bC_ BK317.out 1).trans rfl, (bC_ BK317.out 2).trans rfl⟩ (fun hHeld => ?_)
   clear hK K
   refine norm_ (by show Act.put _ (some 25) _ = _; simp only [Act.put, sA_, sB_, sC_, i6_, i3_]; rfl) ?_
   refine pu_ HT_ 4 26 #[ty, ty, ty, ty, ty, fy, fy, fy, fy, fy, fy, fy, fy, fy, fy, fy, fy, fy, fy, fy, fy, fy, fy] ?_
   refine pu_ HT_ 5 27 #[ty, ty, ty, ty, ty, ty, fy, fy, fy, fy, fy, fy, fy, fy, fy, fy, fy, fy, fy, fy, fy, fy, fy] ?_
   refine pure_ (i := 6) (N := some 28) (v := undef) (a' := ?_) #[ty, ty, ty, ty, ty, ty, ty, fy, fy, fy, fy, fy, fy, fy, fy, fy, fy, fy, fy, fy, fy, fy, fy] rfl rfl (aO_ HT_.out (by kernel_rfl)) (fun _ _ _ h => h) (Or.inr ⟨by rfl, rfl⟩) ?_ ?_
   rotate_left
   ·
    simp only [Act.put, sA_, sB_, sC_, i6_, i3_]
    rfl
   refine pure_ (i := 7) (N := some 29) (v := undef) (a' := ?_) #[ty, ty, ty, ty, ty, ty, ty, ty, fy, fy, fy, fy, fy, fy, fy, fy, fy, fy, fy, fy, fy, fy, fy] rfl rfl (aO_ HT_.out (by kernel_rfl)) (fun _ _ _ h => h) (Or.inr ⟨by rfl, rfl⟩) ?_ ?_
   rotate_left
   ·
    simp only [Act.put, sA_, sB_, sC_, i6_, i3_]
    rfl
   refine pure_ (i := 8) (N := some 30) (v := undef) (a' := ?_) #[ty, ty, ty, ty, ty, ty, ty, ty, ty, fy, fy, fy, fy, fy, fy, fy, fy, fy, fy, fy, fy, fy, fy] rfl rfl (aO_ HT_.out (by kernel_rfl)) (fun _ _ _ h => h) (Or.inr ⟨by rfl, rfl⟩) ?_ ?_
   rotate_left
   ·
    simp only [Act.put, sA_, sB_, sC_, i6_, i3_]
    rfl
   refine pure_ (i := 9) (N := some 31) (v := undef) (a' := ?_) #[ty, ty, ty, ty, ty, ty, ty, ty, ty, ty, fy, fy, fy, fy, fy, fy, fy, fy, fy, fy, fy, fy, fy] rfl rfl (aO_ HT_.out (by kernel_rfl)) (fun _ _ _ h => h) (Or.inr ⟨by rfl, rfl⟩) ?_ ?_
   rotate_left
   ·
    simp only [Act.put, sA_, sB_, sC_, i6_, i3_]
    rfl
   refine pu_ HT_ 10 32 #[ty, ty, ty, ty, ty, ty, ty, ty, ty, ty, ty, fy, fy, fy, fy, fy, fy, fy, fy, fy, fy, fy, fy] ?_
   refine pu_ HT_ 11 33 #[ty, ty, ty, ty, ty, ty, ty, ty, ty, ty, ty, ty, fy, fy, fy, fy, fy, fy, fy, fy, fy, fy, fy] ?_
   refine pure_ (i := 12) (N := some 34) (v := undef) (a' := ?_) #[ty, ty, ty, ty, ty, ty, ty, ty, ty, ty, ty, ty, ty, fy, fy, fy, fy, fy, fy, fy, fy, fy, fy] rfl rfl (aO_ HT_.out (by kernel_rfl)) (fun _ _ _ h => h) (Or.inr ⟨by rfl, rfl⟩) ?_ ?_
   rotate_left
   ·
    simp only [Act.put, sA_, sB_, sC_, i6_, i3_]
    rfl
   refine pure_ (i := 13) (N := some 35) (v := undef) (a' := ?_) #[ty, ty, ty, ty, ty, ty, ty, ty, ty, ty, ty, ty, ty, ty, fy, fy, fy, fy, fy, fy, fy, fy, fy] rfl rfl (aO_ HT_.out (by kernel_rfl)) (fun _ _ _ h => h) (Or.inr ⟨by rfl, rfl⟩) ?_ ?_
   rotate_left
   ·
    simp only [Act.put, sA_, sB_, sC_, i6_, i3_]
    rfl
   refine pure_ (i := 14) (N := some 36) (v := undef) (a' := ?_) #[ty, ty, ty, ty, ty, ty, ty, ty, ty, ty, ty, ty, ty, ty, ty, fy, fy, fy, fy, fy, fy, fy, fy] rfl rfl (aO_ HT_.out (by kernel_rfl)) (fun _ _ _ h => h) (Or.inr ⟨by rfl, rfl⟩) ?_ ?_
   rotate_left
   ·
    simp only [Act.put, sA_, sB_, sC_, i6_, i3_]
    rfl
   refine pure_ (i := 15) (N := some 37) (v := undef) (a' := ?_) #[ty, ty, ty, ty, ty, ty, ty, ty, ty, ty, ty, ty, ty, ty, ty, ty, fy, fy, fy, fy, fy, fy, fy] rfl rfl (aO_ HT_.out (by kernel_rfl)) (fun _ _ _ h => h) (Or.inr ⟨by rfl, rfl⟩) ?_ ?_
   rotate_left
   ·
    simp only [Act.put, sA_, sB_, sC_, i6_, i3_]
    rfl
   refine pure_ (i := 16) (N := some 38) (v := undef) (a' := ?_) #[ty, ty, ty, ty, ty, ty, ty, ty, ty, ty, ty, ty, ty, ty, ty, ty, ty, fy, fy, fy, fy, fy, fy] rfl rfl (aO_ HT_.out (by kernel_rfl)) (fun _ _ _ h => h) (Or.inr ⟨by rfl, rfl⟩) ?_ ?_
   rotate_left
   ·
    simp only [Act.put, sA_, sB_, sC_, i6_, i3_]
    rfl
   refine pure_ (i := 17) (N := some 39) (v := undef) (a' := ?_) #[ty, ty, ty, ty, ty, ty, ty, ty, ty, ty, ty, ty, ty, ty, ty, ty, ty, ty, fy, fy, fy, fy, fy] rfl rfl (aO_ HT_.out (by kernel_rfl)) (fun _ _ _ h => h) (Or.inr ⟨by rfl, rfl⟩) ?_ ?_
   rotate_left
   ·
    simp only [Act.put, sA_, sB_, sC_, i6_, i3_]
    rfl
   refine pure_ (i := 18) (N := some 40) (v := undef) (a' := ?_) #[ty, ty, ty, ty, ty, ty, ty, ty, ty, ty, ty, ty, ty, ty, ty, ty, ty, ty, ty, fy, fy, fy, fy] rfl rfl (aO_ HT_.out (by kernel_rfl)) (fun _ _ _ h => h) (Or.inr ⟨by rfl, rfl⟩) ?_ ?_
   rotate_left
   ·
    simp only [Act.put, sA_, sB_, sC_, i6_, i3_]
    rfl
   refine pure_ (i := 19) (N := some 41) (v := undef) (a' := ?_) #[ty, ty, ty, ty, ty, ty, ty, ty, ty, ty, ty, ty, ty, ty, ty, ty, ty, ty, ty, ty, fy, fy, fy] rfl rfl (aO_ HT_.out (by kernel_rfl)) (fun _ _ _ h => h) (Or.inr ⟨by rfl, rfl⟩) ?_ ?_
   rotate_left
   ·
    simp only [Act.put, sA_, sB_, sC_, i6_, i3_]
    rfl
   refine pure_ (i := 20) (N := some 42) (v := undef) (a' := ?_) #[ty, ty, ty, ty, ty, ty, ty, ty, ty, ty, ty, ty, ty, ty, ty, ty, ty, ty, ty, ty, ty, fy, fy] rfl rfl (aO_ HT_.out (by kernel_rfl)) (fun _ _ _ h => h) (Or.inr ⟨by rfl, rfl⟩) ?_ ?_
   rotate_left
   ·
    simp only [Act.put, sA_, sB_, sC_, i6_, i3_]
    rfl
   refine pure_ (i := 21) (N := some 43) (v := undef) (a' := ?_) #[ty, ty, ty, ty, ty, ty, ty, ty, ty, ty, ty, ty, ty, ty, ty, ty, ty, ty, ty, ty, ty, ty, fy] rfl rfl (aO_ HT_.out (by kernel_rfl)) (fun _ _ _ h => h) (Or.inr ⟨by rfl, rfl⟩) ?_ ?_
   rotate_left
   ·
    simp only [Act.put, sA_, sB_, sC_, i6_, i3_]
    rfl
   refine pu_ HT_ 22 44 #[ty, ty, ty, ty, ty, ty, ty, ty, ty, ty, ty, ty, ty, ty, ty, ty, ty, ty, ty, ty, ty, ty, ty] ?_
   refine done_ (done_of HT_.out (by kernel_rfl)) ?_
   try go_wp2
   go_ret2
   exact ⟨_, by rfl, by exact Kd.R_nil _ _ _ _ _, by repeat with_reducible first | exact HB.out | apply bA_ | apply bN_ | apply bD_ | refine bS_ ?_ (Aside0.out ‹_›)⟩
  subst c14
  rw [if_pos rfl] at H
  by_cases c15 : (((rd_T60 y312 x17_1).f0).size : Int) > 12
  ·
   rw [if_pos c15] at H
   have c15b0 := dT_ c15
   have c15b1 : decide (12 < ((rd_T60 y312 x17_1).f0).size) = true := dT_ (by omega)
   clear c15
   simp only [Option.some.injEq, Prod.mk.injEq] at H
   obtain ⟨rfl, rfl⟩ := H
   have p316 : 0 ≤ (x17_1 : Int) := oD_ ‹_›
   have q316 : x17_1 < (y312.length : Int) := oD_ ‹_›
   obtain ⟨ad316, e316, hx316_0, hx316_1, hx316_2⟩ := at_T60 HR315.out x17_1 p316 q316
   cases e316
   replace hx316_0 := cb_ HB hx316_0
   replace hx316_1 := cb_ HB hx316_1
   replace hx316_2 := cb_ HB hx316_2
   replace p316 := eq_true p316
   replace q316 := eq_true q316
   try go_wp2_with (first | ((with_reducible refine gD_ (N := 6) rfl ?_); (try (refine gate_guard (by rfl) ?_; dsimp only)); refine bE_ ?hg (N := 6) ?hd (cs := #[.string (⟨#[]⟩ : ByteArray), .int .i64 0, .bool false]) (t := 60) ?hr ?_; (case hd => rfl); (case hg => rfl); (case hr => (go_simp; done)); intro gb317 hg w16 hbox hb; replace HO_4 := k9_ HO_4 hb; have BK317 := aM_ (hbox); have GW317 := gw_ hg HB; replace HB := b4_ HB hb; have NB307_317 := nb_ hg BK307; have NB317_307 := ns_ NB307_317; replace BK307 := b5_ BK307 hb; clear hb hbox hg; have hnb17 := NB317_307.out; have hnc17 := NB307_317.out; have hcz18_0 := c0_ BK317; have hcz18_1 := c1_ BK317; have hcz18_2 := c2_ BK317; have hfz18_0 := bF_ BK317.out 0; have hfz18_1 := bF_ BK317.out 1; have hfz18_2 := bF_ BK317.out 2))
   generalize hW_ : (((w16.setCell ⟨gb317, 0, none⟩ (.string ((rd_T60 y312 x17_1).f0))).setCell ⟨gb317, 1, none⟩ (.int .i64 ((rd_T60 y312 x17_1).f1))).setCell ⟨gb317, 2, none⟩ (.bool ((rd_T60 y312 x17_1).f2))) = w19
   have n0_ : Aside0 (Kd.R Kd.string 9 w19 w.heap.size (fun _ => True) u4 x4_1) := ⟨by subst hW_; exact kM_ (kG_ (kG_ (kG_ (kT_ HO_4.out BK317.out (by decide))))) (fun _ hk => trivial)⟩
   have n1_ : Aside0 (w19.heap[gb307]? = some (.cells #[.slice A0_0 l0_0.length c0_0] 30 (0, 0))) := ⟨by subst hW_; exact br_ NB307_317.out (br_ NB307_317.out (br_ NB307_317.out (BK307.out)))⟩
   have n2_ : Aside0 (w19.heap[gb317]? = some (.cells #[.string ((rd_T60 y312 x17_1).f0), .int .i64 ((rd_T60 y312 x17_1).f1), .bool ((rd_T60 y312 x17_1).f2)] 60 (0, 0))) := ⟨by subst hW_; refine bP_ (cs := #[.string ((rd_T60 y312 x17_1).f0), .int .i64 ((rd_T60 y312 x17_1).f1), .bool false]) ?_ 2 _ rfl; refine bP_ (cs := #[.string ((rd_T60 y312 x17_1).f0), .int .i64 0, .bool false]) ?_ 1 _ rfl; refine bP_ (cs := #[.string (⟨#[]⟩ : ByteArray), .int .i64 0, .bool false]) ?_ 0 _ rfl; exact BK317.out⟩
   have n3_ : Aside0 (Below w.heap.size w w19) := ⟨by subst hW_; repeat with_reducible first | exact HB.out | apply bA_ | apply bN_ | apply bD_ | refine bS_ ?_ (Aside0.out ‹_›)⟩
   (try clear HO_4)
   (try clear BK307)
   (try clear BK317)
   (try clear HB)
   clear hW_
   have HO_4 := n0_
   have BK307 := n1_
   have BK317 := n2_
   have HB := n3_
   clear n0_ n1_ n2_ n3_
   have n0_ := aM_ (k3_ HO_4.out)
   have n1_ := aM_ (b1_ BK307.out)
   have n2_ := aM_ (b1_ BK317.out)
   have n3_ := aM_ (bD_ HB.out)
   clear HO_4
   clear BK307
   clear BK317
   clear HB
   have HO_4 := n0_
   have BK307 := n1_
   have BK317 := n2_
   have HB := n3_
   clear n0_ n1_ n2_ n3_
   refine start_ (n := 23) (S := fun w' => w'.cell? ⟨gb317, 0, none⟩ = some (.string ((rd_T60 y312 x17_1).f0)) ∧ w'.cell? ⟨gb317, 1, none⟩ = some (.int .i64 ((rd_T60 y312 x17_1).f1)) ∧ w'.cell? ⟨gb317, 2, none⟩ = some (.bool ((rd_T60 y312 x17_1).f2))) (ds := []) #[fy, fy, fy, fy, fy, fy, fy, fy, fy, fy, fy, fy, fy, fy, fy, fy, fy, fy, fy, fy, fy, fy, fy] (by kernel_rfl) rfl rfl ⟨(bC_ BK317.out 0).trans rfl, (bC_ BK317.out 1).trans rfl, (bC_ BK317.out 2).trans rfl⟩ (fun hHeld => ?_); refine with_tabW iF11.tab7 iF11.bits7 (fun HT_ HW_ => ?_)
   generalize w19.drew = w20 at HO_4 BK307 BK317 HB hHeld ⊢
   refine pu_ HT_ 0 22 #[ty, fy, fy, fy, fy, fy, fy, fy, fy, fy, fy, fy, fy, fy, fy, fy, fy, fy, fy, fy, fy, fy, fy] ?_
   refine pu_ HT_ 2 24 #[ty, fy, ty, fy, fy, fy, fy, fy, fy, fy, fy, fy, fy, fy, fy, fy, fy, fy, fy, fy, fy, fy, fy] ?_
   refine tk_ HT_ HW_ 1 23 #[ty, ty, ty, fy, fy, fy, fy, fy, fy, fy, fy, fy, fy, fy, fy, fy, fy, fy, fy, fy, fy, fy, fy] hHeld ?_ (hr := by rintro w' ⟨s0, s1, s2⟩; go_simp; with_reducible rfl)
   refine one_ (i := 3) (N := some 25) #[ty, ty, ty, ty, fy, fy, fy, fy, fy, fy, fy, fy, fy, fy, fy, fy, fy, fy, fy, fy, fy, fy, fy] rfl rfl (one_of HT_.out (by kernel_rfl)) (by decide) (fun K hK => ?_)
   refine goes_ Tryz.func67 (by kernel_rfl) rfl #[.int .i64 ((rd_T60 y312 x17_1).f1), .int .i64 0, .int .i64 x17_1] (by rfl) rfl rfl (by (try simp only [sD_, sE_, sF_]); rfl) ?_
   with_reducible refine (iF21.calls ((rd_T60 y312 x17_1).f1) 0 x17_1 true _ A13.out).mono ?_
   rintro e w' ⟨rfl, ⟨nd, rfl⟩⟩
   refine ⟨_, rfl, ?_⟩
   refine hK.out _ _ ⟨(bC_ BK317.out 0).trans rfl, (bC_ BK317.out 1).trans rfl, (bC_ BK317.out 2).trans rfl⟩ (fun hHeld => ?_)
   clear hK K
   refine norm_ (by show Act.put _ (some 25) _ = _; simp only [Act.put, sA_, sB_, sC_, i6_, i3_]; rfl) ?_
   refine pu_ HT_ 4 26 #[ty, ty, ty, ty, ty, fy, fy, fy, fy, fy, fy, fy, fy, fy, fy, fy, fy, fy, fy, fy, fy, fy, fy] ?_
   refine pu_ HT_ 5 27 #[ty, ty, ty, ty, ty, ty, fy, fy, fy, fy, fy, fy, fy, fy, fy, fy, fy, fy, fy, fy, fy, fy, fy] ?_
   refine pu_ HT_ 6 28 #[ty, ty, ty, ty, ty, ty, ty, fy, fy, fy, fy, fy, fy, fy, fy, fy, fy, fy, fy, fy, fy, fy, fy] ?_
   refine tk_ HT_ HW_ 7 29 #[ty, ty, ty, ty, ty, ty, ty, ty, fy, fy, fy, fy, fy, fy, fy, fy, fy, fy, fy, fy, fy, fy, fy] hHeld ?_ (hr := by rintro w' ⟨s0, s1, s2⟩; go_simp; with_reducible rfl)
   refine pu_ HT_ 8 30 #[ty, ty, ty, ty, ty, ty, ty, ty, ty, fy, fy, fy, fy, fy, fy, fy, fy, fy, fy, fy, fy, fy, fy] ?_
   refine pu_ HT_ 9 31 #[ty, ty, ty, ty, ty, ty, ty, ty, ty, ty, fy, fy, fy, fy, fy, fy, fy, fy, fy, fy, fy, fy, fy] ?_
   refine pu_ HT_ 10 32 #[ty, ty, ty, ty, ty, ty, ty, ty, ty, ty, ty, fy, fy, fy, fy, fy, fy, fy, fy, fy, fy, fy, fy] ?_
   refine pu_ HT_ 11 33 #[ty, ty, ty, ty, ty, ty, ty, ty, ty, ty, ty, ty, fy, fy, fy, fy, fy, fy, fy, fy, fy, fy, fy] ?_
   refine pure_ (i := 12) (N := some 34) (v := undef) (a' := ?_) #[ty, ty, ty, ty, ty, ty, ty, ty, ty, ty, ty, ty, ty, fy, fy, fy, fy, fy, fy, fy, fy, fy, fy] rfl rfl (aO_ HT_.out (by kernel_rfl)) (fun _ _ _ h => h) (Or.inr ⟨by rfl, rfl⟩) ?_ ?_
   rotate_left
   ·
    simp only [Act.put, sA_, sB_, sC_, i6_, i3_]
    rfl
   refine pure_ (i := 13) (N := some 35) (v := undef) (a' := ?_) #[ty, ty, ty, ty, ty, ty, ty, ty, ty, ty, ty, ty, ty, ty, fy, fy, fy, fy, fy, fy, fy, fy, fy] rfl rfl (aO_ HT_.out (by kernel_rfl)) (fun _ _ _ h => h) (Or.inr ⟨by rfl, rfl⟩) ?_ ?_
   rotate_left
   ·
    simp only [Act.put, sA_, sB_, sC_, i6_, i3_]
    rfl
   refine pure_ (i := 14) (N := some 36) (v := undef) (a' := ?_) #[ty, ty, ty, ty, ty, ty, ty, ty, ty, ty, ty, ty, ty, ty, ty, fy, fy, fy, fy, fy, fy, fy, fy] rfl rfl (aO_ HT_.out (by kernel_rfl)) (fun _ _ _ h => h) (Or.inr ⟨by rfl, rfl⟩) ?_ ?_
   rotate_left
   ·
    simp only [Act.put, sA_, sB_, sC_, i6_, i3_]
    rfl
   refine pure_ (i := 15) (N := some 37) (v := undef) (a' := ?_) #[ty, ty, ty, ty, ty, ty, ty, ty, ty, ty, ty, ty, ty, ty, ty, ty, fy, fy, fy, fy, fy, fy, fy] rfl rfl (aO_ HT_.out (by kernel_rfl)) (fun _ _ _ h => h) (Or.inr ⟨by rfl, rfl⟩) ?_ ?_
   rotate_left
   ·
    simp only [Act.put, sA_, sB_, sC_, i6_, i3_]
    rfl
   refine pure_ (i := 16) (N := some 38) (v := undef) (a' := ?_) #[ty, ty, ty, ty, ty, ty, ty, ty, ty, ty, ty, ty, ty, ty, ty, ty, ty, fy, fy, fy, fy, fy, fy] rfl rfl (aO_ HT_.out (by kernel_rfl)) (fun _ _ _ h => h) (Or.inr ⟨by rfl, rfl⟩) ?_ ?_
   rotate_left
   ·
    simp only [Act.put, sA_, sB_, sC_, i6_, i3_]
    rfl
   refine pure_ (i := 17) (N := some 39) (v := undef) (a' := ?_) #[ty, ty, ty, ty, ty, ty, ty, ty, ty, ty, ty, ty, ty, ty, ty, ty, ty, ty, fy, fy, fy, fy, fy] rfl rfl (aO_ HT_.out (by kernel_rfl)) (fun _ _ _ h => h) (Or.inr ⟨by rfl, rfl⟩) ?_ ?_
   rotate_left
   ·
    simp only [Act.put, sA_, sB_, sC_, i6_, i3_]
    rfl
   refine pure_ (i := 18) (N := some 40) (v := undef) (a' := ?_) #[ty, ty, ty, ty, ty, ty, ty, ty, ty, ty, ty, ty, ty, ty, ty, ty, ty, ty, ty, fy, fy, fy, fy] rfl rfl (aO_ HT_.out (by kernel_rfl)) (fun _ _ _ h => h) (Or.inr ⟨by rfl, rfl⟩) ?_ ?_
   rotate_left
   ·
    simp only [Act.put, sA_, sB_, sC_, i6_, i3_]
    rfl
   refine pure_ (i := 19) (N := some 41) (v := undef) (a' := ?_) #[ty, ty, ty, ty, ty, ty, ty, ty, ty, ty, ty, ty, ty, ty, ty, ty, ty, ty, ty, ty, fy, fy, fy] rfl rfl (aO_ HT_.out (by kernel_rfl)) (fun _ _ _ h => h) (Or.inr ⟨by rfl, rfl⟩) ?_ ?_
   rotate_left
   ·
    simp only [Act.put, sA_, sB_, sC_, i6_, i3_]
    rfl
   refine pure_ (i := 20) (N := some 42) (v := undef) (a' := ?_) #[ty, ty, ty, ty, ty, ty, ty, ty, ty, ty, ty, ty, ty, ty, ty, ty, ty, ty, ty, ty, ty, fy, fy] rfl rfl (aO_ HT_.out (by kernel_rfl)) (fun _ _ _ h => h) (Or.inr ⟨by rfl, rfl⟩) ?_ ?_
   rotate_left
   ·
    simp only [Act.put, sA_, sB_, sC_, i6_, i3_]
    rfl
   refine pure_ (i := 21) (N := some 43) (v := undef) (a' := ?_) #[ty, ty, ty, ty, ty, ty, ty, ty, ty, ty, ty, ty, ty, ty, ty, ty, ty, ty, ty, ty, ty, ty, fy] rfl rfl (aO_ HT_.out (by kernel_rfl)) (fun _ _ _ h => h) (Or.inr ⟨by rfl, rfl⟩) ?_ ?_
   rotate_left
   ·
    simp only [Act.put, sA_, sB_, sC_, i6_, i3_]
    rfl
   refine pu_ HT_ 22 44 #[ty, ty, ty, ty, ty, ty, ty, ty, ty, ty, ty, ty, ty, ty, ty, ty, ty, ty, ty, ty, ty, ty, ty] ?_
   refine done_ (done_of HT_.out (by kernel_rfl)) ?_
   try go_wp2
   go_ret2
   exact ⟨_, by rfl, by exact Kd.R_nil _ _ _ _ _, by repeat with_reducible first | exact HB.out | apply bA_ | apply bN_ | apply bD_ | refine bS_ ?_ (Aside0.out ‹_›)⟩
  rw [if_neg c15] at H
  have c15b0 := dF_ c15
  have c15b1 : decide (12 < ((rd_T60 y312 x17_1).f0).size) = false := dF_ (by omega)
  clear c15
  by_cases c21 : 0 ≤ ((rd_T60 y312 x17_1).f1)
  rotate_left
  ·
   rw [if_neg c21] at H
   exact absurd H (by simp)
  rw [if_pos c21] at H
  have c21b0 := dT_ c21
  clear c21
  by_cases c22 : ((rd_T60 y312 x17_1).f1) < (x4_1.length : Int)
  rotate_left
  ·
   rw [if_neg c22] at H
   exact absurd H (by simp)
  rw [if_pos c22] at H
  have c22b0 := dT_ c22
  clear c22
  by_cases c23 : (rdOf eB_ x4_1 ((rd_T60 y312 x17_1).f1)).size + ((rd_T60 y312 x17_1).f0).size ≤ 9223372036854775807
  rotate_left
  ·
   rw [if_neg c23] at H
   exact absurd H (by simp)
  rw [if_pos c23] at H
  have c23b0 := eq_true c23
  have c23b1 := dT_ c23
  try have c23b2 : (9223372036854775807 < (rdOf eB_ x4_1 ((rd_T60 y312 x17_1).f1)).size + ((rd_T60 y312 x17_1).f0).size) = False := eq_false (Nat.not_lt.2 c23)
  replace H := oB_.mp H
  obtain ⟨t320, A240, H⟩ := H
  try dsimp only at H
  have A24 := aM_ A240
  clear A240
  by_cases c25 : t320 = true
  rotate_left
  ·
   replace c25 := Bool.eq_false_iff.mpr c25
   subst c25
   replace H : (some (([] : List ByteArray), false)) = some (r1, r2) := by rw [if_neg (show ¬ (false = true) by decide)] at H; exact H
   simp only [Option.some.injEq, Prod.mk.injEq] at H
   obtain ⟨rfl, rfl⟩ := H
   have p316 : 0 ≤ (x17_1 : Int) := oD_ ‹_›
   have q316 : x17_1 < (y312.length : Int) := oD_ ‹_›
   obtain ⟨ad316, e316, hx316_0, hx316_1, hx316_2⟩ := at_T60 HR315.out x17_1 p316 q316
   cases e316
   replace hx316_0 := cb_ HB hx316_0
   replace hx316_1 := cb_ HB hx316_1
   replace hx316_2 := cb_ HB hx316_2
   replace p316 := eq_true p316
   replace q316 := eq_true q316
   try go_wp2_with (first | ((with_reducible refine gD_ (N := 6) rfl ?_); (try (refine gate_guard (by rfl) ?_; dsimp only)); refine bE_ ?hg (N := 6) ?hd (cs := #[.string (⟨#[]⟩ : ByteArray), .int .i64 0, .bool false]) (t := 60) ?hr ?_; (case hd => rfl); (case hg => rfl); (case hr => (go_simp; done)); intro gb317 hg w36 hbox hb; replace HO_4 := k9_ HO_4 hb; have BK317 := aM_ (hbox); have GW317 := gw_ hg HB; replace HB := b4_ HB hb; have NB307_317 := nb_ hg BK307; have NB317_307 := ns_ NB307_317; replace BK307 := b5_ BK307 hb; clear hb hbox hg; have hnb37 := NB317_307.out; have hnc37 := NB307_317.out; have hcz38_0 := c0_ BK317; have hcz38_1 := c1_ BK317; have hcz38_2 := c2_ BK317; have hfz38_0 := bF_ BK317.out 0; have hfz38_1 := bF_ BK317.out 1; have hfz38_2 := bF_ BK317.out 2))
   generalize hW_ : (((w36.setCell ⟨gb317, 0, none⟩ (.string ((rd_T60 y312 x17_1).f0))).setCell ⟨gb317, 1, none⟩ (.int .i64 ((rd_T60 y312 x17_1).f1))).setCell ⟨gb317, 2, none⟩ (.bool ((rd_T60 y312 x17_1).f2))) = w39
   have n0_ : Aside0 (Kd.R Kd.string 9 w39 w.heap.size (fun _ => True) u4 x4_1) := ⟨by subst hW_; exact kM_ (kG_ (kG_ (kG_ (kT_ HO_4.out BK317.out (by decide))))) (fun _ hk => trivial)⟩
   have n1_ : Aside0 (w39.heap[gb307]? = some (.cells #[.slice A0_0 l0_0.length c0_0] 30 (0, 0))) := ⟨by subst hW_; exact br_ NB307_317.out (br_ NB307_317.out (br_ NB307_317.out (BK307.out)))⟩
   have n2_ : Aside0 (w39.heap[gb317]? = some (.cells #[.string ((rd_T60 y312 x17_1).f0), .int .i64 ((rd_T60 y312 x17_1).f1), .bool ((rd_T60 y312 x17_1).f2)] 60 (0, 0))) := ⟨by subst hW_; refine bP_ (cs := #[.string ((rd_T60 y312 x17_1).f0), .int .i64 ((rd_T60 y312 x17_1).f1), .bool false]) ?_ 2 _ rfl; refine bP_ (cs := #[.string ((rd_T60 y312 x17_1).f0), .int .i64 0, .bool false]) ?_ 1 _ rfl; refine bP_ (cs := #[.string (⟨#[]⟩ : ByteArray), .int .i64 0, .bool false]) ?_ 0 _ rfl; exact BK317.out⟩
   have n3_ : Aside0 (Below w.heap.size w w39) := ⟨by subst hW_; repeat with_reducible first | exact HB.out | apply bA_ | apply bN_ | apply bD_ | refine bS_ ?_ (Aside0.out ‹_›)⟩
   (try clear HO_4)
   (try clear BK307)
   (try clear BK317)
   (try clear HB)
   clear hW_
   have HO_4 := n0_
   have BK307 := n1_
   have BK317 := n2_
   have HB := n3_
   clear n0_ n1_ n2_ n3_
   have n0_ := aM_ (k3_ HO_4.out)
   have n1_ := aM_ (b1_ BK307.out)
   have n2_ := aM_ (b1_ BK317.out)
   have n3_ := aM_ (bD_ HB.out)
   clear HO_4
   clear BK307
   clear BK317
   clear HB
   have HO_4 := n0_
   have BK307 := n1_
   have BK317 := n2_
   have HB := n3_
   clear n0_ n1_ n2_ n3_
   have p319 : 0 ≤ (((rd_T60 y312 x17_1).f1) : Int) := oD_ ‹_›
   have q319 : ((rd_T60 y312 x17_1).f1) < (x4_1.length : Int) := oD_ ‹_›
   obtain ⟨Ao41, co41, eo41⟩ := kS_ HO_4.out
   (subst eo41)
   obtain ⟨ad319, e319, hx319_0⟩ := Kd.at_string (kR_ HO_4.out).2.2 ((rd_T60 y312 x17_1).f1) p319 q319
   cases e319
   replace p319 := eq_true p319
   replace q319 := eq_true q319
   refine start_ (n := 23) (S := fun w' => w'.cell? ⟨gb317, 0, none⟩ = some (.string ((rd_T60 y312 x17_1).f0)) ∧ w'.cell? ⟨gb317, 1, none⟩ = some (.int .i64 ((rd_T60 y312 x17_1).f1)) ∧ w'.cell? ⟨gb317, 2, none⟩ = some (.bool ((rd_T60 y312 x17_1).f2)) ∧ w'.cell? (ad319.add (((rd_T60 y312 x17_1).f1)).toNat) = some (.string (rdOf eB_ x4_1 ((rd_T60 y312 x17_1).f1)))) (ds := []) #[fy, fy, fy, fy, fy, fy, fy, fy, fy, fy, fy, fy, fy, fy, fy, fy, fy, fy, fy, fy, fy, fy, fy] (by kernel_rfl) rfl rfl ⟨(bC_ BK317.out 0).trans rfl, (bC_ BK317.out 1).trans rfl, (bC_ BK317.out 2).trans rfl, hx319_0⟩ (fun hHeld => ?_); refine with_tabW iF11.tab7 iF11.bits7 (fun HT_ HW_ => ?_)
   generalize w39.drew = w40 at HO_4 BK307 BK317 HB hx319_0 hHeld ⊢
   refine pu_ HT_ 0 22 #[ty, fy, fy, fy, fy, fy, fy, fy, fy, fy, fy, fy, fy, fy, fy, fy, fy, fy, fy, fy, fy, fy, fy] ?_
   refine pu_ HT_ 2 24 #[ty, fy, ty, fy, fy, fy, fy, fy, fy, fy, fy, fy, fy, fy, fy, fy, fy, fy, fy, fy, fy, fy, fy] ?_
   refine tk_ HT_ HW_ 1 23 #[ty, ty, ty, fy, fy, fy, fy, fy, fy, fy, fy, fy, fy, fy, fy, fy, fy, fy, fy, fy, fy, fy, fy] hHeld ?_ (hr := by rintro w' ⟨s0, s1, s2, s3⟩; go_simp; with_reducible rfl)
   refine one_ (i := 3) (N := some 25) #[ty, ty, ty, ty, fy, fy, fy, fy, fy, fy, fy, fy, fy, fy, fy, fy, fy, fy, fy, fy, fy, fy, fy] rfl rfl (one_of HT_.out (by kernel_rfl)) (by decide) (fun K hK => ?_)
   refine goes_ Tryz.func67 (by kernel_rfl) rfl #[.int .i64 ((rd_T60 y312 x17_1).f1), .int .i64 0, .int .i64 x17_1] (by rfl) rfl rfl (by (try simp only [sD_, sE_, sF_]); rfl) ?_
   with_reducible refine (iF21.calls ((rd_T60 y312 x17_1).f1) 0 x17_1 true _ A13.out).mono ?_
   rintro e w' ⟨rfl, ⟨nd, rfl⟩⟩
   refine ⟨_, rfl, ?_⟩
   refine hK.out _ _ ⟨(bC_ BK317.out 0).trans rfl, (bC_ BK317.out 1).trans rfl, (bC_ BK317.out 2).trans rfl, hHeld.2.2.2⟩ (fun hHeld => ?_)
   clear hK K
   refine norm_ (by show Act.put _ (some 25) _ = _; simp only [Act.put, sA_, sB_, sC_, i6_, i3_]; rfl) ?_
   refine pu_ HT_ 4 26 #[ty, ty, ty, ty, ty, fy, fy, fy, fy, fy, fy, fy, fy, fy, fy, fy, fy, fy, fy, fy, fy, fy, fy] ?_
   refine pu_ HT_ 5 27 #[ty, ty, ty, ty, ty, ty, fy, fy, fy, fy, fy, fy, fy, fy, fy, fy, fy, fy, fy, fy, fy, fy, fy] ?_
   refine pu_ HT_ 6 28 #[ty, ty, ty, ty, ty, ty, ty, fy, fy, fy, fy, fy, fy, fy, fy, fy, fy, fy, fy, fy, fy, fy, fy] ?_
   refine tk_ HT_ HW_ 7 29 #[ty, ty, ty, ty, ty, ty, ty, ty, fy, fy, fy, fy, fy, fy, fy, fy, fy, fy, fy, fy, fy, fy, fy] hHeld ?_ (hr := by rintro w' ⟨s0, s1, s2, s3⟩; go_simp; with_reducible rfl)
   refine pu_ HT_ 8 30 #[ty, ty, ty, ty, ty, ty, ty, ty, ty, fy, fy, fy, fy, fy, fy, fy, fy, fy, fy, fy, fy, fy, fy] ?_
   refine pu_ HT_ 9 31 #[ty, ty, ty, ty, ty, ty, ty, ty, ty, ty, fy, fy, fy, fy, fy, fy, fy, fy, fy, fy, fy, fy, fy] ?_
   refine pu_ HT_ 10 32 #[ty, ty, ty, ty, ty, ty, ty, ty, ty, ty, ty, fy, fy, fy, fy, fy, fy, fy, fy, fy, fy, fy, fy] ?_
   refine pu_ HT_ 11 33 #[ty, ty, ty, ty, ty, ty, ty, ty, ty, ty, ty, ty, fy, fy, fy, fy, fy, fy, fy, fy, fy, fy, fy] ?_
   refine pu_ HT_ 12 34 #[ty, ty, ty, ty, ty, ty, ty, ty, ty, ty, ty, ty, ty, fy, fy, fy, fy, fy, fy, fy, fy, fy, fy] ?_
   refine pu_ HT_ 13 35 #[ty, ty, ty, ty, ty, ty, ty, ty, ty, ty, ty, ty, ty, ty, fy, fy, fy, fy, fy, fy, fy, fy, fy] ?_
   refine pu_ HT_ 17 39 #[ty, ty, ty, ty, ty, ty, ty, ty, ty, ty, ty, ty, ty, ty, fy, fy, fy, ty, fy, fy, fy, fy, fy] ?_
   refine tk_ HT_ HW_ 14 36 #[ty, ty, ty, ty, ty, ty, ty, ty, ty, ty, ty, ty, ty, ty, ty, fy, fy, ty, fy, fy, fy, fy, fy] hHeld ?_ (hr := by rintro w' ⟨s0, s1, s2, s3⟩; go_simp; with_reducible rfl)
   refine pu_ HT_ 15 37 #[ty, ty, ty, ty, ty, ty, ty, ty, ty, ty, ty, ty, ty, ty, ty, ty, fy, ty, fy, fy, fy, fy, fy] ?_
   refine tk_ HT_ HW_ 16 38 #[ty, ty, ty, ty, ty, ty, ty, ty, ty, ty, ty, ty, ty, ty, ty, ty, ty, ty, fy, fy, fy, fy, fy] hHeld ?_ (hr := by rintro w' ⟨s0, s1, s2, s3⟩; go_simp; with_reducible rfl)
   refine tk_ HT_ HW_ 18 40 #[ty, ty, ty, ty, ty, ty, ty, ty, ty, ty, ty, ty, ty, ty, ty, ty, ty, ty, ty, fy, fy, fy, fy] hHeld ?_ (hr := by rintro w' ⟨s0, s1, s2, s3⟩; go_simp; with_reducible rfl)
   refine pu_ HT_ 19 41 #[ty, ty, ty, ty, ty, ty, ty, ty, ty, ty, ty, ty, ty, ty, ty, ty, ty, ty, ty, ty, fy, fy, fy] ?_
   refine one_ (i := 20) (N := some 42) #[ty, ty, ty, ty, ty, ty, ty, ty, ty, ty, ty, ty, ty, ty, ty, ty, ty, ty, ty, ty, ty, fy, fy] rfl rfl (one_of HT_.out (by kernel_rfl)) (by decide) (fun K hK => ?_)
   refine goes_ Tryz.func34 (by kernel_rfl) rfl #[.string ((rdOf eB_ x4_1 ((rd_T60 y312 x17_1).f1)) ++ ((rd_T60 y312 x17_1).f0))] (by rfl) rfl rfl (by (try simp only [sD_, sE_, sF_]); rfl) ?_
   with_reducible refine (iF24.calls ((rdOf eB_ x4_1 ((rd_T60 y312 x17_1).f1)) ++ ((rd_T60 y312 x17_1).f0)) false _ A24.out).mono ?_
   rintro e w42 ⟨rfl, hb⟩
   have HS3_ := (hb.cell (wB_ _ _ (hHeld.2.2.2))).trans (hHeld.2.2.2)
   refine ⟨_, rfl, ?_⟩
   have n0_ := aM_ (kB_ (by (with_reducible repeat (first | apply k1_ | apply k2_ | apply k3_)); exact HO_4.out) hb)
   have n1_ := aM_ (bB_ (g := gb307) (o := .cells #[.slice A0_0 l0_0.length c0_0] 30 (0, 0)) (by (with_reducible repeat (first | refine b2_ ?_ _ | refine b1_ ?_ | refine b3_ ?_ _)); exact BK307.out) hb)
   have n2_ := aM_ (bB_ (g := gb317) (o := .cells #[.string ((rd_T60 y312 x17_1).f0), .int .i64 ((rd_T60 y312 x17_1).f1), .bool ((rd_T60 y312 x17_1).f2)] 60 (0, 0)) (by (with_reducible repeat (first | refine b2_ ?_ _ | refine b1_ ?_ | refine b3_ ?_ _)); exact BK317.out) hb)
   have n3_ := aM_ (bT_ (by repeat with_reducible first | exact HB.out | apply bA_ | apply bN_ | apply bD_ | refine bS_ ?_ (Aside0.out ‹_›)) hb)
   clear HO_4
   clear BK307
   clear BK317
   clear HB
   have HO_4 := n0_
   have BK307 := n1_
   have BK317 := n2_
   have HB := n3_
   clear n0_ n1_ n2_ n3_
   (try clear hb)
   refine hK.out _ _ ⟨(bC_ BK317.out 0).trans rfl, (bC_ BK317.out 1).trans rfl, (bC_ BK317.out 2).trans rfl, HS3_⟩ (fun hHeld => ?_)
   clear hK K
   refine norm_ (by show Act.put _ (some 42) _ = _; simp only [Act.put, sA_, sB_, sC_, i6_, i3_]; rfl) ?_
   refine pu_ HT_ 21 43 #[ty, ty, ty, ty, ty, ty, ty, ty, ty, ty, ty, ty, ty, ty, ty, ty, ty, ty, ty, ty, ty, ty, fy] ?_
   refine pu_ HT_ 22 44 #[ty, ty, ty, ty, ty, ty, ty, ty, ty, ty, ty, ty, ty, ty, ty, ty, ty, ty, ty, ty, ty, ty, ty] ?_
   refine done_ (done_of HT_.out (by kernel_rfl)) ?_
   try go_wp2
   go_ret2
   exact ⟨_, by rfl, by exact Kd.R_nil _ _ _ _ _, by exact HB.out⟩
  subst c25
  rw [if_pos rfl] at H
  by_cases c26 : x4_1.length < 8796093022208
  rotate_left
  ·
   rw [if_neg c26] at H
   exact absurd H (by simp)
  rw [if_pos c26] at H
  have LMc26 := aM_ c26
  clear c26
  obtain ⟨y322, hy322⟩ : ∃ y_ : List ByteArray, y_ = (x4_1 ++ [(rdOf eB_ x4_1 ((rd_T60 y312 x17_1).f1)) ++ ((rd_T60 y312 x17_1).f0)]) := ⟨_, rfl⟩
  replace H : (iF11.l0 k1 y322 y312 (y312.length : Int) (wrap64 (x17_1 + 1))) = some (r1, r2) := by (try rw [hy322]); first | with_reducible exact H | with_reducible exact oS_ H | exact H
  have Ny322 := aM_ hy322
  clear hy322
  have H' := aM_ H
  clear H
  have p316 : 0 ≤ (x17_1 : Int) := oD_ ‹_›
  have q316 : x17_1 < (y312.length : Int) := oD_ ‹_›
  obtain ⟨ad316, e316, hx316_0, hx316_1, hx316_2⟩ := at_T60 HR315.out x17_1 p316 q316
  cases e316
  replace hx316_0 := cb_ HB hx316_0
  replace hx316_1 := cb_ HB hx316_1
  replace hx316_2 := cb_ HB hx316_2
  replace p316 := eq_true p316
  replace q316 := eq_true q316
  try go_wp2_with (first | ((with_reducible refine gD_ (N := 6) rfl ?_); (try (refine gate_guard (by rfl) ?_; dsimp only)); refine bE_ ?hg (N := 6) ?hd (cs := #[.string (⟨#[]⟩ : ByteArray), .int .i64 0, .bool false]) (t := 60) ?hr ?_; (case hd => rfl); (case hg => rfl); (case hr => (go_simp; done)); intro gb317 hg w27 hbox hb; replace HO_4 := k9_ HO_4 hb; have BK317 := aM_ (hbox); have GW317 := gw_ hg HB; replace HB := b4_ HB hb; have NB307_317 := nb_ hg BK307; have NB317_307 := ns_ NB307_317; replace BK307 := b5_ BK307 hb; clear hb hbox hg; have hnb28 := NB317_307.out; have hnc28 := NB307_317.out; have hcz29_0 := c0_ BK317; have hcz29_1 := c1_ BK317; have hcz29_2 := c2_ BK317; have hfz29_0 := bF_ BK317.out 0; have hfz29_1 := bF_ BK317.out 1; have hfz29_2 := bF_ BK317.out 2))
  generalize hW_ : (((w27.setCell ⟨gb317, 0, none⟩ (.string ((rd_T60 y312 x17_1).f0))).setCell ⟨gb317, 1, none⟩ (.int .i64 ((rd_T60 y312 x17_1).f1))).setCell ⟨gb317, 2, none⟩ (.bool ((rd_T60 y312 x17_1).f2))) = w30
  have n0_ : Aside0 (Kd.R Kd.string 9 w30 w.heap.size (fun _ => True) u4 x4_1) := ⟨by subst hW_; exact kM_ (kG_ (kG_ (kG_ (kT_ HO_4.out BK317.out (by decide))))) (fun _ hk => trivial)⟩
  have n1_ : Aside0 (w30.heap[gb307]? = some (.cells #[.slice A0_0 l0_0.length c0_0] 30 (0, 0))) := ⟨by subst hW_; exact br_ NB307_317.out (br_ NB307_317.out (br_ NB307_317.out (BK307.out)))⟩
  have n2_ : Aside0 (w30.heap[gb317]? = some (.cells #[.string ((rd_T60 y312 x17_1).f0), .int .i64 ((rd_T60 y312 x17_1).f1), .bool ((rd_T60 y312 x17_1).f2)] 60 (0, 0))) := ⟨by subst hW_; refine bP_ (cs := #[.string ((rd_T60 y312 x17_1).f0), .int .i64 ((rd_T60 y312 x17_1).f1), .bool false]) ?_ 2 _ rfl; refine bP_ (cs := #[.string ((rd_T60 y312 x17_1).f0), .int .i64 0, .bool false]) ?_ 1 _ rfl; refine bP_ (cs := #[.string (⟨#[]⟩ : ByteArray), .int .i64 0, .bool false]) ?_ 0 _ rfl; exact BK317.out⟩
  have n3_ : Aside0 (Below w.heap.size w w30) := ⟨by subst hW_; repeat with_reducible first | exact HB.out | apply bA_ | apply bN_ | apply bD_ | refine bS_ ?_ (Aside0.out ‹_›)⟩
  (try clear HO_4)
  (try clear BK307)
  (try clear BK317)
  (try clear HB)
  clear hW_
  have HO_4 := n0_
  have BK307 := n1_
  have BK317 := n2_
  have HB := n3_
  clear n0_ n1_ n2_ n3_
  have n0_ := aM_ (k3_ HO_4.out)
  have n1_ := aM_ (b1_ BK307.out)
  have n2_ := aM_ (b1_ BK317.out)
  have n3_ := aM_ (bD_ HB.out)
  clear HO_4
  clear BK307
  clear BK317
  clear HB
  have HO_4 := n0_
  have BK307 := n1_
  have BK317 := n2_
  have HB := n3_
  clear n0_ n1_ n2_ n3_
  have p319 : 0 ≤ (((rd_T60 y312 x17_1).f1) : Int) := oD_ ‹_›
  have q319 : ((rd_T60 y312 x17_1).f1) < (x4_1.length : Int) := oD_ ‹_›
  obtain ⟨Ao32, co32, eo32⟩ := kS_ HO_4.out
  (subst eo32)
  obtain ⟨ad319, e319, hx319_0⟩ := Kd.at_string (kR_ HO_4.out).2.2 ((rd_T60 y312 x17_1).f1) p319 q319
  cases e319
  replace p319 := eq_true p319
  replace q319 := eq_true q319
  refine start_ (n := 23) (S := fun w' => w'.cell? ⟨gb317, 0, none⟩ = some (.string ((rd_T60 y312 x17_1).f0)) ∧ w'.cell? ⟨gb317, 1, none⟩ = some (.int .i64 ((rd_T60 y312 x17_1).f1)) ∧ w'.cell? ⟨gb317, 2, none⟩ = some (.bool ((rd_T60 y312 x17_1).f2)) ∧ w'.cell? (ad319.add (((rd_T60 y312 x17_1).f1)).toNat) = some (.string (rdOf eB_ x4_1 ((rd_T60 y312 x17_1).f1)))) (ds := []) #[fy, fy, fy, fy, fy, fy, fy, fy, fy, fy, fy, fy, fy, fy, fy, fy, fy, fy, fy, fy, fy, fy, fy] (by kernel_rfl) rfl rfl ⟨(bC_ BK317.out 0).trans rfl, (bC_ BK317.out 1).trans rfl, (bC_ BK317.out 2).trans rfl, hx319_0⟩ (fun hHeld => ?_); refine with_tabW iF11.tab7 iF11.bits7 (fun HT_ HW_ => ?_)
  generalize w30.drew = w31 at HO_4 BK307 BK317 HB hx319_0 hHeld ⊢
  refine pu_ HT_ 0 22 #[ty, fy, fy, fy, fy, fy, fy, fy, fy, fy, fy, fy, fy, fy, fy, fy, fy, fy, fy, fy, fy, fy, fy] ?_
  refine pu_ HT_ 2 24 #[ty, fy, ty, fy, fy, fy, fy, fy, fy, fy, fy, fy, fy, fy, fy, fy, fy, fy, fy, fy, fy, fy, fy] ?_
  refine tk_ HT_ HW_ 1 23 #[ty, ty, ty, fy, fy, fy, fy, fy, fy, fy, fy, fy, fy, fy, fy, fy, fy, fy, fy, fy, fy, fy, fy] hHeld ?_ (hr := by rintro w' ⟨s0, s1, s2, s3⟩; go_simp; with_reducible rfl)
  refine one_ (i := 3) (N := some 25) #[ty, ty, ty, ty, fy, fy, fy, fy, fy, fy, fy, fy, fy, fy, fy, fy, fy, fy, fy, fy, fy, fy, fy] rfl rfl (one_of HT_.out (by kernel_rfl)) (by decide) (fun K hK => ?_)
  refine goes_ Tryz.func67 (by kernel_rfl) rfl #[.int .i64 ((rd_T60 y312 x17_1).f1), .int .i64 0, .int .i64 x17_1] (by rfl) rfl rfl (by (try simp only [sD_, sE_, sF_]); rfl) ?_
  with_reducible refine (iF21.calls ((rd_T60 y312 x17_1).f1) 0 x17_1 true _ A13.out).mono ?_
  rintro e w' ⟨rfl, ⟨nd, rfl⟩⟩
  refine ⟨_, rfl, ?_⟩
  refine hK.out _ _ ⟨(bC_ BK317.out 0).trans rfl, (bC_ BK317.out 1).trans rfl, (bC_ BK317.out 2).trans rfl, hHeld.2.2.2⟩ (fun hHeld => ?_)
  clear hK K
  refine norm_ (by show Act.put _ (some 25) _ = _; simp only [Act.put, sA_, sB_, sC_, i6_, i3_]; rfl) ?_
  refine pu_ HT_ 4 26 #[ty, ty, ty, ty, ty, fy, fy, fy, fy, fy, fy, fy, fy, fy, fy, fy, fy, fy, fy, fy, fy, fy, fy] ?_
  refine pu_ HT_ 5 27 #[ty, ty, ty, ty, ty, ty, fy, fy, fy, fy, fy, fy, fy, fy, fy, fy, fy, fy, fy, fy, fy, fy, fy] ?_
  refine pu_ HT_ 6 28 #[ty, ty, ty, ty, ty, ty, ty, fy, fy, fy, fy, fy, fy, fy, fy, fy, fy, fy, fy, fy, fy, fy, fy] ?_
  refine tk_ HT_ HW_ 7 29 #[ty, ty, ty, ty, ty, ty, ty, ty, fy, fy, fy, fy, fy, fy, fy, fy, fy, fy, fy, fy, fy, fy, fy] hHeld ?_ (hr := by rintro w' ⟨s0, s1, s2, s3⟩; go_simp; with_reducible rfl)
  refine pu_ HT_ 8 30 #[ty, ty, ty, ty, ty, ty, ty, ty, ty, fy, fy, fy, fy, fy, fy, fy, fy, fy, fy, fy, fy, fy, fy] ?_
  refine pu_ HT_ 9 31 #[ty, ty, ty, ty, ty, ty, ty, ty, ty, ty, fy, fy, fy, fy, fy, fy, fy, fy, fy, fy, fy, fy, fy] ?_
  refine pu_ HT_ 10 32 #[ty, ty, ty, ty, ty, ty, ty, ty, ty, ty, ty, fy, fy, fy, fy, fy, fy, fy, fy, fy, fy, fy, fy] ?_
  refine pu_ HT_ 11 33 #[ty, ty, ty, ty, ty, ty, ty, ty, ty, ty, ty, ty, fy, fy, fy, fy, fy, fy, fy, fy, fy, fy, fy] ?_
  refine pu_ HT_ 12 34 #[ty, ty, ty, ty, ty, ty, ty, ty, ty, ty, ty, ty, ty, fy, fy, fy, fy, fy, fy, fy, fy, fy, fy] ?_
  refine pu_ HT_ 13 35 #[ty, ty, ty, ty, ty, ty, ty, ty, ty, ty, ty, ty, ty, ty, fy, fy, fy, fy, fy, fy, fy, fy, fy] ?_
  refine pu_ HT_ 17 39 #[ty, ty, ty, ty, ty, ty, ty, ty, ty, ty, ty, ty, ty, ty, fy, fy, fy, ty, fy, fy, fy, fy, fy] ?_
  refine tk_ HT_ HW_ 14 36 #[ty, ty, ty, ty, ty, ty, ty, ty, ty, ty, ty, ty, ty, ty, ty, fy, fy, ty, fy, fy, fy, fy, fy] hHeld ?_ (hr := by rintro w' ⟨s0, s1, s2, s3⟩; go_simp; with_reducible rfl)
  refine pu_ HT_ 15 37 #[ty, ty, ty, ty, ty, ty, ty, ty, ty, ty, ty, ty, ty, ty, ty, ty, fy, ty, fy, fy, fy, fy, fy] ?_
  refine tk_ HT_ HW_ 16 38 #[ty, ty, ty, ty, ty, ty, ty, ty, ty, ty, ty, ty, ty, ty, ty, ty, ty, ty, fy, fy, fy, fy, fy] hHeld ?_ (hr := by rintro w' ⟨s0, s1, s2, s3⟩; go_simp; with_reducible rfl)
  refine tk_ HT_ HW_ 18 40 #[ty, ty, ty, ty, ty, ty, ty, ty, ty, ty, ty, ty, ty, ty, ty, ty, ty, ty, ty, fy, fy, fy, fy] hHeld ?_ (hr := by rintro w' ⟨s0, s1, s2, s3⟩; go_simp; with_reducible rfl)
  refine pu_ HT_ 19 41 #[ty, ty, ty, ty, ty, ty, ty, ty, ty, ty, ty, ty, ty, ty, ty, ty, ty, ty, ty, ty, fy, fy, fy] ?_
  refine one_ (i := 20) (N := some 42) #[ty, ty, ty, ty, ty, ty, ty, ty, ty, ty, ty, ty, ty, ty, ty, ty, ty, ty, ty, ty, ty, fy, fy] rfl rfl (one_of HT_.out (by kernel_rfl)) (by decide) (fun K hK => ?_)
  refine goes_ Tryz.func34 (by kernel_rfl) rfl #[.string ((rdOf eB_ x4_1 ((rd_T60 y312 x17_1).f1)) ++ ((rd_T60 y312 x17_1).f0))] (by rfl) rfl rfl (by (try simp only [sD_, sE_, sF_]); rfl) ?_
  with_reducible refine (iF24.calls ((rdOf eB_ x4_1 ((rd_T60 y312 x17_1).f1)) ++ ((rd_T60 y312 x17_1).f0)) true _ A24.out).mono ?_
  rintro e w33 ⟨rfl, hb⟩
  have HS3_ := (hb.cell (wB_ _ _ (hHeld.2.2.2))).trans (hHeld.2.2.2)
  refine ⟨_, rfl, ?_⟩
  have n0_ := aM_ (kB_ (by (with_reducible repeat (first | apply k1_ | apply k2_ | apply k3_)); exact HO_4.out) hb)
  have n1_ := aM_ (bB_ (g := gb307) (o := .cells #[.slice A0_0 l0_0.length c0_0] 30 (0, 0)) (by (with_reducible repeat (first | refine b2_ ?_ _ | refine b1_ ?_ | refine b3_ ?_ _)); exact BK307.out) hb)
  have n2_ := aM_ (bB_ (g := gb317) (o := .cells #[.string ((rd_T60 y312 x17_1).f0), .int .i64 ((rd_T60 y312 x17_1).f1), .bool ((rd_T60 y312 x17_1).f2)] 60 (0, 0)) (by (with_reducible repeat (first | refine b2_ ?_ _ | refine b1_ ?_ | refine b3_ ?_ _)); exact BK317.out) hb)
  have n3_ := aM_ (bT_ (by repeat with_reducible first | exact HB.out | apply bA_ | apply bN_ | apply bD_ | refine bS_ ?_ (Aside0.out ‹_›)) hb)
  clear HO_4
  clear BK307
  clear BK317
  clear HB
  have HO_4 := n0_
  have BK307 := n1_
  have BK317 := n2_
  have HB := n3_
  clear n0_ n1_ n2_ n3_
  (try clear hb)
  refine hK.out _ _ ⟨(bC_ BK317.out 0).trans rfl, (bC_ BK317.out 1).trans rfl, (bC_ BK317.out 2).trans rfl, HS3_⟩ (fun hHeld => ?_)
  clear hK K
  refine norm_ (by show Act.put _ (some 42) _ = _; simp only [Act.put, sA_, sB_, sC_, i6_, i3_]; rfl) ?_
  refine pu_ HT_ 21 43 #[ty, ty, ty, ty, ty, ty, ty, ty, ty, ty, ty, ty, ty, ty, ty, ty, ty, ty, ty, ty, ty, ty, fy] ?_
  refine pu_ HT_ 22 44 #[ty, ty, ty, ty, ty, ty, ty, ty, ty, ty, ty, ty, ty, ty, ty, ty, ty, ty, ty, ty, ty, ty, ty] ?_
  refine done_ (done_of HT_.out (by kernel_rfl)) ?_
  try go_wp2
  have n0_ := aM_ (k3_ HO_4.out)
  have n1_ := aM_ (b1_ BK307.out)
  have n2_ := aM_ (b1_ BK317.out)
  have n3_ := aM_ (bD_ HB.out)
  clear HO_4
  clear BK307
  clear BK317
  clear HB
  have HO_4 := n0_
  have BK307 := n1_
  have BK317 := n2_
  have HB := n3_
  clear n0_ n1_ n2_ n3_
  have p321 : 0 ≤ (((rd_T60 y312 x17_1).f1) : Int) := oD_ ‹_›
  have q321 : ((rd_T60 y312 x17_1).f1) < (x4_1.length : Int) := oD_ ‹_›
  obtain ⟨ad321, e321, hx321_0⟩ := Kd.at_string (kR_ HO_4.out).2.2 ((rd_T60 y312 x17_1).f1) p321 q321
  obtain rfl : ad319 = ad321 := (by injection e321)
  replace p321 := eq_true p321
  replace q321 := eq_true q321
  refine start_ (n := 12) (S := fun w' => w'.cell? ⟨gb317, 0, none⟩ = some (.string ((rd_T60 y312 x17_1).f0)) ∧ w'.cell? ⟨gb317, 1, none⟩ = some (.int .i64 ((rd_T60 y312 x17_1).f1)) ∧ w'.cell? ⟨gb317, 2, none⟩ = some (.bool ((rd_T60 y312 x17_1).f2)) ∧ w'.cell? (ad319.add (((rd_T60 y312 x17_1).f1)).toNat) = some (.string (rdOf eB_ x4_1 ((rd_T60 y312 x17_1).f1)))) (ds := [9, 10]) #[fy, fy, fy, fy, fy, fy, fy, fy, fy, fy, fy, fy] (by kernel_rfl) rfl rfl ⟨(bC_ BK317.out 0).trans rfl, (bC_ BK317.out 1).trans rfl, (bC_ BK317.out 2).trans rfl, hx321_0⟩ (fun hHeld => ?_); refine with_tabW iF11.tab9 iF11.bits9 (fun HT_ HW_ => ?_)
  generalize w33.drew = w34 at HO_4 BK307 BK317 HB hx321_0 hHeld ⊢
  refine pu_ HT_ 0 45 #[ty, fy, fy, fy, fy, fy, fy, fy, fy, fy, fy, fy] ?_
  refine pu_ HT_ 1 46 #[ty, ty, fy, fy, fy, fy, fy, fy, fy, fy, fy, fy] ?_
  refine pu_ HT_ 2 47 #[ty, ty, ty, fy, fy, fy, fy, fy, fy, fy, fy, fy] ?_
  refine pu_ HT_ 6 51 #[ty, ty, ty, fy, fy, fy, ty, fy, fy, fy, fy, fy] ?_
  refine tk_ HT_ HW_ 3 48 #[ty, ty, ty, ty, fy, fy, ty, fy, fy, fy, fy, fy] hHeld ?_ (hr := by rintro w' ⟨s0, s1, s2, s3⟩; go_simp; with_reducible rfl)
  refine pu_ HT_ 4 49 #[ty, ty, ty, ty, ty, fy, ty, fy, fy, fy, fy, fy] ?_
  refine tk_ HT_ HW_ 5 50 #[ty, ty, ty, ty, ty, ty, ty, fy, fy, fy, fy, fy] hHeld ?_ (hr := by rintro w' ⟨s0, s1, s2, s3⟩; go_simp; with_reducible rfl)
  refine tk_ HT_ HW_ 7 52 #[ty, ty, ty, ty, ty, ty, ty, ty, fy, fy, fy, fy] hHeld ?_ (hr := by rintro w' ⟨s0, s1, s2, s3⟩; go_simp; with_reducible rfl)
  refine pu_ HT_ 8 53 #[ty, ty, ty, ty, ty, ty, ty, ty, ty, fy, fy, fy] ?_
  refine last_ (i := 9) (N := some 54) #[ty, ty, ty, ty, ty, ty, ty, ty, ty, ty, fy, fy] rfl rfl (one_of HT_.out (by kernel_rfl)) (by decide) (fun K hK => ?_)
  refine value_ (w1 := ?_) (v := ?_) (by rfl) rfl ?_ ?_
  rotate_left 2
  ·
   go_simp
   constructor
   ·
    rfl
   rfl
  refine hK.out _ _ ?_
  clear hK K
  refine norm_ (by show Act.put _ (some 54) _ = _; simp only [Act.put, sA_, sB_, sC_, i6_, i3_]; rfl) ?_
  refine last_ (i := 10) (N := some 55) #[ty, ty, ty, ty, ty, ty, ty, ty, ty, ty, ty, fy] rfl rfl (one_of HT_.out (by kernel_rfl)) (by decide) (fun K hK => ?_)
  refine Kd.R_append_step Kd.string (w0 := w) w.heap.size (by rfl) (.tmp 45) (.tmp 54) 49 9 (.string ⟨#[]⟩) 16 rfl Tryz.underlying49 info9 rfl (by decide) (by omega) (.slice (some ad319) x4_1.length co32) x4_1 ((rdOf eB_ x4_1 ((rd_T60 y312 x17_1).f1)) ++ ((rd_T60 y312 x17_1).f0)) [.string ((rdOf eB_ x4_1 ((rd_T60 y312 x17_1).f1)) ++ ((rd_T60 y312 x17_1).f0))] (fun _ => True) (fun _ => False) rfl rfl ?aP (fun _ hk => hk.elim) ?aF ?aO ?aB ?aS ?aL ?_
  (case aP => exact rfl)
  (case aB => exact HB.out)
  (case aF => exact (fun _ _ => trivial))
  (case aO => exact HO_4.out)
  (case aS => exact (bZ_ HB.out))
  (case aL => have := LMc26.out; omega)
  intro v323 w35 ho hb hg hat
  rw [← Ny322.out] at ho
  have n0_ := aM_ (blk_grown (g := gb307) (o := .cells #[.slice A0_0 l0_0.length c0_0] 30 (0, 0)) BK307.out hg (k6_ HO_4.out BK307.out (by decide)))
  have n1_ := aM_ (blk_grown (g := gb317) (o := .cells #[.string ((rd_T60 y312 x17_1).f0), .int .i64 ((rd_T60 y312 x17_1).f1), .bool ((rd_T60 y312 x17_1).f2)] 60 (0, 0)) BK317.out hg (k6_ HO_4.out BK317.out (by decide)))
  have n2_ := aM_ (hb)
  have n3_ := aM_ (ho)
  clear BK307
  clear BK317
  clear HB
  clear HO_4
  have BK307 := n0_
  have BK317 := n1_
  have HB := n2_
  have HO324 := n3_
  clear n0_ n1_ n2_ n3_
  clear ho hb hg hat
  refine hK.out _ _ ?_
  clear hK K
  refine norm_ (by show Act.put _ (some 55) _ = _; simp only [Act.put, sA_, sB_, sC_, i6_, i3_]; rfl) ?_
  refine pu_ HT_ 11 4 #[ty, ty, ty, ty, ty, ty, ty, ty, ty, ty, ty, ty] ?_
  refine done_ (done_of HT_.out (by kernel_rfl)) ?_
  try go_wp2
  go_roundg k1
  case measure => have := HK1.out; omega
  case rel => exact ⟨(y322), (wrap64 (x17_1 + 1)), (by rfl), H', ⟨by have := HK1.out; omega⟩, ⟨HO324.out⟩, ⟨BK307.out⟩, ⟨HB.out⟩⟩
end Go.Proofs.YtfhffcefpnkllaaGreatDoor.P
namespace Go.Proofs.YtfhffcefpnkllaaGreatDoor.P
open Go.RowKit Go.Proofs.YtfhffcefpnkllaaGreatDoorW.PrintWords Go.Proofs.YtfhffcefpnkllaaGreatDoorW.PrintLast Go.Proofs.YtfhffcefpnkllaaGreatDoorW.PrintMore
attribute [local go_sem] max2_int min2_int max_two min_two max_three min_three max_four min_four
open Go.Maps
namespace SM
theorem law : Keyed Tryz.prog 9 := string_keyed Tryz.underlying9
theorem zeroE (w : World) : (zeroValue 3).run Tryz.prog w = .ok (.int .i64 0) w := by kernel_rfl
noncomputable abbrev elem : Value → Option (DataW Unit × List MemPlace) := plainElem Tryz.prog 3
def dat : List ByteArray → DataW Unit
 | [] => .map []
 | x :: r => (dat r).put (.string x.data.toList) (.lit (.int .i64 (r.length : Int)))
def atR : List ByteArray → ByteArray → Int
 | [], _ => 0
 | x :: r, p => if x.data.toList = p.data.toList then (r.length : Int) else atR r p
def at_ (l : List ByteArray) (p : ByteArray) : Int := atR l.reverse p
theorem isMap : ∀ l, IsMap (dat l)
 | [] => ⟨[], rfl⟩
 | x :: r => by
  obtain ⟨es, h⟩ := isMap r
  rw [dat, h]
  exact ⟨_, rfl⟩
theorem dat_at : ∀ (l : List ByteArray) (p : ByteArray), (dat l).atKey (.string p.data.toList) (.lit (.int .i64 0)) = .lit (.int .i64 (atR l p))
 | [], _ => rfl
 | x :: r, p => by
  by_cases h : x.data.toList = p.data.toList
  ·
   rw [atR, if_pos h, dat, h]
   exact atKey_put_same (isMap r) (show Go.WideAt.IsKeyLit (.string _) from trivial) _ _
  rw [atR, if_neg h, dat]
  refine (atKey_put_other (fun e => h ?_) _ _).trans (dat_at r p)
  injection e with e
  exact e.symm
def Is (w : World) (b : Nat) (l : List ByteArray) : Prop := w.ownsMap Tryz.prog 9 elem b l.length (dat l.reverse)
theorem Is.made (w : World) : Is (w.alloc (.map #[] 0)) w.heap.size [] := World.ownsMap_made w _ _ _
theorem Is.obj {w : World} {b : Nat} {l : List ByteArray} (h : Is w b l) : ∃ es ck, w.heap[b]? = some (.map es ck) := by
 obtain ⟨es, ck, hb, _⟩ := h
 exact ⟨es, ck, hb⟩
theorem Is.moved {w w1 : World} {b : Nat} {l : List ByteArray} (h : Is w b l) (e : w1.heap[b]? = w.heap[b]?) : Is w1 b l := by
 obtain ⟨es, ck, hb, F, hs, hD⟩ := h
 exact ⟨es, ck, e.trans hb, F, hs, hD⟩
theorem Is.lt {w : World} {b : Nat} {l : List ByteArray} (h : Is w b l) : b < w.heap.size := World.ownsMap.lt h
theorem Is.below {w w1 : World} {b : Nat} {l : List ByteArray} (h : Is w b l) (hb : Below w.heap.size w w1) : Is w1 b l := h.moved (hb.block b h.lt)
theorem Is.alloc {w : World} {b : Nat} {l : List ByteArray} (h : Is w b l) (o : Obj) : Is (w.alloc o) b l := World.ownsMap.alloc h o
theorem Is.drewN {w : World} {b : Nat} {l : List ByteArray} (h : Is w b l) (n : Nat) : Is (w.drewN n) b l := h.moved rfl
theorem Is.drew {w : World} {b : Nat} {l : List ByteArray} (h : Is w b l) : Is w.drew b l := h.moved rfl
theorem Is.far {w : World} {b : Nat} {l : List ByteArray} (h : Is w b l) {p : Addr} (hp : b ≠ p.block) (u : Value) : Is (w.setCell p u) b l := h.moved (Below.heap_setCell w p u b hp)
theorem Is.grown {w w1 : World} {b : Nat} {l : List ByteArray} {row : Option Nat} (h : Is w b l) (hg : w.grownBy w1 row) (hne : some b ≠ row) : Is w1 b l := h.moved (hg.block b h.lt hne)
theorem Is.ne {α : Type} {d : Kd α} {e base : Nat} {ok : Nat → Prop} {w : World} {v : Value} {xs : List α} {b : Nat} {l : List ByteArray} (h : Is w b l) (hr : d.R e w base ok v xs) : some b ≠ v.ownBlock := fun e_ => by
 obtain ⟨es, ck, hb⟩ := h.obj
 obtain ⟨cells, hc⟩ := Kd.R_typed hr b e_.symm
 rw [hb] at hc
 cases hc
theorem Is.ne_block {w : World} {b g t : Nat} {cs : Array Value} {l : List ByteArray} (h : Is w b l) (hc : w.heap[g]? = some (.cells cs t (0, 0))) : b ≠ g := fun e_ => by
 obtain ⟨es, ck, hb⟩ := h.obj
 subst e_
 rw [hb] at hc
 cases hc
theorem R_over {α : Type} {d : Kd α} {e base : Nat} {ok : Nat → Prop} {w w1 : World} {v : Value} {xs : List α} {b : Nat} {l : List ByteArray} (hr : d.R e w base ok v xs) (h : Is w b l) (hg : w.grownBy w1 (some b)) : d.R e w1 base ok v xs := by
 refine Kd.R_mono (Kd.R_move (Kd.R_bound hr) (fun k hk => hg.block k hk.2.2.1 (fun he => ?_))) (fun _ hk => hk.1)
 obtain ⟨_, _, _, q, hq, cells, hc⟩ := hk
 obtain ⟨es, ck, hb⟩ := h.obj
 cases he
 rw [hb] at hc
 cases hc
theorem put {w : World} {ops : Array Oper} {rest : List Oper} {o : Oper} {a : Act} {Q : Exit → Act → World → Prop} (hg : o.guard = none) (m x v : Operand) (t : TypeId) (ht : Tryz.prog.underlying t = some (.map 9 3)) (hop : o.op = Op.mapUpdate t m x v)
  (b : Nat) (l : List ByteArray) (hm : a.eval m = .map (some b)) (h : Is w b l) (hn : l.length < 4294967296) (p : ByteArray) (hp : p.size ≤ maxLen) (hx : a.eval x = .string p) (hv : a.eval v = .int .i64 (l.length : Int))
  (hK : ∀ w', Is w' b (l ++ [p]) → w.grownBy w' (some b) → wpList Tryz.prog ops Q rest (a.put o.dst undef) w') : wpList Tryz.prog ops Q (o :: rest) a w := by
 refine wpList_mapUpdate_own w hg m x v t hop 9 3 law ht elem b l.length (dat l.reverse) hm h (by unfold maxLen; omega) (.string p) (.int .i64 (l.length : Int)) (.string p.data.toList) hx hv (Go.WideMaps.keyOf_string_mk Tryz.underlying9 hp) (.lit (.int .i64 (l.length : Int))) [] (plainElem_int Tryz.underlying3 (WalkArith.wf_i64 ⟨by omega, by omega⟩)) ?_
 intro w1 h1 h2
 refine hK w1 ?_ h2
 unfold Is
 rw [List.length_append, List.reverse_append]
 show w1.ownsMap _ _ _ b (l.length + 1) ((dat l.reverse).put _ (.lit (.int .i64 (l.reverse.length : Int))))
 rw [List.length_reverse]
 exact h1
theorem get {w : World} {b : Nat} {l : List ByteArray} (h : Is w b l) (t : TypeId) (ht : Tryz.prog.underlying t = some (.map 9 3)) (p : ByteArray) (hp : p.size ≤ maxLen) :
  (Instr.lookup t (.map (some b)) (.string p) false).run Tryz.prog w = .ok (.int .i64 (at_ l p)) w := by
 obtain ⟨c, hrun, hat, _⟩ := World.ownsMap.lookup_int h law ht Tryz.underlying3 (zeroE w) (Go.WideMaps.keyOf_string_mk Tryz.underlying9 hp)
 rw [dat_at] at hat
 simp only [DataW.lit.injEq, Lit.int.injEq, true_and] at hat
 have e1 : at_ l p = c := hat
 rw [e1]
 exact hrun
theorem made {W : World} {ops : Array Oper} {rest : List Oper} {o : Oper} {a : Act} {Q : Exit → Act → World → Prop} (hgd : o.guard = none) {N : Tmp} (_hd : o.dst = some N)
  (hrun : (execOp a.eval o).run Tryz.prog W = .ok (.value (.map (some W.heap.size))) (W.alloc (.map #[] 0)))
  (h : ∀ g, g = W.heap.size → ∀ w1, Is w1 g [] → Below W.heap.size W w1 → wpList Tryz.prog ops Q rest (a.put o.dst (.map (some g))) w1) : wpList Tryz.prog ops Q (o :: rest) a W :=
 Kd.event_run hgd hrun (h _ rfl _ (Is.made W) (below_alloc (Below.refl _ _) _))
def okL (l : List ByteArray) : Bool := (l.all fun s_ => decide (s_.size ≤ 4294967296)) && decide (l.length ≤ 4294967296)
theorem okL.size {l : List ByteArray} (h : okL l = true) (i : Int) (h0 : 0 ≤ i) (h1 : i < (l.length : Int)) : (rdOf ByteArray.empty l i).size ≤ 4294967296 := by
 unfold okL at h
 rw [Bool.and_eq_true] at h
 have hi : i.toNat < l.length := by omega
 have hm : rdOf ByteArray.empty l i ∈ l := by
  unfold rdOf
  rw [List.getD_eq_getElem?_getD, List.getElem?_eq_getElem hi]
  exact List.getElem_mem _
 simpa using List.all_eq_true.1 h.1 _ hm
theorem okL.len {l : List ByteArray} (h : okL l = true) : l.length ≤ 4294967296 := by
 unfold okL at h
 rw [Bool.and_eq_true] at h
 simpa using h.2
theorem size_ext (s : ByteArray) (i : Nat) (h : s.size ≤ 4294967296) : (s.extract 0 i).size ≤ maxLen := by
 rw [ByteArray.size_extract]
 unfold maxLen
 omega
theorem take_rd (l : List ByteArray) (i : Int) (h0 : 0 ≤ i) (h1 : i < (l.length : Int)) : List.take i.toNat l ++ [rdOf ByteArray.empty l i] = List.take (i.toNat + 1) l := by
 have hi : i.toNat < l.length := by omega
 rw [List.take_succ_eq_append_getElem hi]
 unfold rdOf
 rw [List.getD_eq_getElem?_getD, List.getElem?_eq_getElem hi]
 rfl
theorem next_rd (l : List ByteArray) (i : Int) {lm : List ByteArray} (lm2 : List ByteArray) (h1 : lm2 = lm ++ [rdOf ByteArray.empty l i]) (h2 : lm ++ [rdOf ByteArray.empty l i] = List.take (i.toNat + 1) l) (h3 : (lm.length : Int) = i) (h4 : lm.length < l.length) (h5 : okL l = true) : List.take ((wrap64 (i + 1) : Int).toNat) l = lm2 := by
 have h6 := okL.len h5
 have hw : wrap64 (i + 1) = i + 1 := by unfold wrap64; omega
 rw [hw, h1, h2]
 congr 1
 omega
end SM
end Go.Proofs.YtfhffcefpnkllaaGreatDoor.P
namespace Go.Proofs
open Go.Shelf
def Tryz.lays190_ren : Go.Shelf.Ren := ⟨fun | 190 => 116 | 125 => 127 | 258 => 126 | 128 => 139 | 129 => 140 | 302 => 131 | 303 => 132 | 304 => 133 | 305 => 134 | 306 => 135 | 307 => 136 | 308 => 113 | 309 => 137 | 310 => 138 | 333 => 145 | 329 => 146 | 330 => 147 | 334 => 148 | 335 => 149 | 336 => 124 | 344 => 151 | n => n, fun | 31 => 49 | 9 => 9 | 3 => 3 | 46 => 124 | 0 => 0 | 51 => 145 | 53 => 147 | 4 => 4 | 183 => 139 | 182 => 138 | 131 => 26 | 5 => 5 | 218 => 156 | 222 => 160 | 228 => 162 | 229 => 163 | n => n, fun | n => n⟩
theorem Tryz.lays190 : Go.Proofs.Lays.n190 Tryz.prog Tryz.lays190_ren := {
  mixed := by kernel_rfl
  f125 := Tryz.func127.trans (congrArg some (by kernel_rfl))
  f128 := Tryz.func139.trans (congrArg some (by kernel_rfl))
  f129 := Tryz.func140.trans (congrArg some (by kernel_rfl))
  f190 := Tryz.func116.trans (congrArg some (by kernel_rfl))
  f258 := Tryz.func126.trans (congrArg some (by kernel_rfl))
  f302 := Tryz.func131.trans (congrArg some (by kernel_rfl))
  f303 := Tryz.func132.trans (congrArg some (by kernel_rfl))
  f304 := Tryz.func133.trans (congrArg some (by kernel_rfl))
  f305 := Tryz.func134.trans (congrArg some (by kernel_rfl))
  f306 := Tryz.func135.trans (congrArg some (by kernel_rfl))
  f307 := Tryz.func136.trans (congrArg some (by kernel_rfl))
  f308 := Tryz.func113.trans (congrArg some (by kernel_rfl))
  f309 := Tryz.func137.trans (congrArg some (by kernel_rfl))
  f310 := Tryz.func138.trans (congrArg some (by kernel_rfl))
  f329 := Tryz.func146.trans (congrArg some (by kernel_rfl))
  f330 := Tryz.func147.trans (congrArg some (by kernel_rfl))
  f333 := Tryz.func145.trans (congrArg some (by kernel_rfl))
  f334 := Tryz.func148.trans (congrArg some (by kernel_rfl))
  f335 := Tryz.func149.trans (congrArg some (by kernel_rfl))
  f336 := Tryz.func124.trans (congrArg some (by kernel_rfl))
  f344 := Tryz.func151.trans (congrArg some (by kernel_rfl))
  t0 := Tryz.underlying0
  a0 := Tryz.isAgg0
  z0 := Tryz.sizeOf0
  v0 := Tryz.zeroValue0
  t3 := Tryz.underlying3
  a3 := Tryz.isAgg3
  z3 := Tryz.sizeOf3
  v3 := Tryz.zeroValue3
  t4 := Tryz.underlying4
  a4 := Tryz.isAgg4
  z4 := Tryz.sizeOf4
  v4 := Tryz.zeroValue4
  t5 := Tryz.underlying5
  a5 := Tryz.isAgg5
  z5 := Tryz.sizeOf5
  v5 := Tryz.zeroValue5
  t9 := Tryz.underlying9
  a9 := Tryz.isAgg9
  z9 := Tryz.sizeOf9
  v9 := Tryz.zeroValue9
  t31 := Tryz.underlying49
  a31 := Tryz.isAgg49
  z31 := Tryz.sizeOf49
  v31 := Tryz.zeroValue49
  t46 := Tryz.underlying124
  a46 := Tryz.isAgg124
  z46 := Tryz.sizeOf124
  v46 := Tryz.zeroValue124
  t51 := Tryz.underlying145
  a51 := Tryz.isAgg145
  z51 := Tryz.sizeOf145
  v51 := Tryz.zeroValue145
  t53 := Tryz.underlying147
  a53 := Tryz.isAgg147
  z53 := Tryz.sizeOf147
  v53 := Tryz.zeroValue147
  t131 := Tryz.underlying26
  a131 := Tryz.isAgg26
  z131 := Tryz.sizeOf26
  v131 := Tryz.zeroValue26
  t182 := Tryz.underlying138
  a182 := Tryz.isAgg138
  z182 := Tryz.sizeOf138
  v182 := Tryz.zeroValue138
  t183 := Tryz.underlying139
  a183 := Tryz.isAgg139
  z183 := Tryz.sizeOf139
  v183 := Tryz.zeroValue139
  t218 := Tryz.underlying156
  a218 := Tryz.isAgg156
  z218 := Tryz.sizeOf156
  v218 := Tryz.zeroValue156
  t222 := Tryz.underlying160
  a222 := Tryz.isAgg160
  z222 := Tryz.sizeOf160
  v222 := Tryz.zeroValue160
  t228 := Tryz.underlying162
  a228 := Tryz.isAgg162
  z228 := Tryz.sizeOf162
  v228 := Tryz.zeroValue162
  t229 := Tryz.underlying163
  a229 := Tryz.isAgg163
  z229 := Tryz.sizeOf163
  v229 := Tryz.zeroValue163 }
def Tryz.lays194_ren : Go.Shelf.Ren := ⟨fun | 194 => 95 | n => n, fun | 31 => 49 | 9 => 9 | 3 => 3 | 4 => 4 | 0 => 0 | n => n, fun | n => n⟩
theorem Tryz.lays194 : Go.Proofs.Lays.n194 Tryz.prog Tryz.lays194_ren := {
  mixed := by kernel_rfl
  f194 := Tryz.func95.trans (congrArg some (by kernel_rfl))
  t0 := Tryz.underlying0
  a0 := Tryz.isAgg0
  z0 := Tryz.sizeOf0
  v0 := Tryz.zeroValue0
  t3 := Tryz.underlying3
  a3 := Tryz.isAgg3
  z3 := Tryz.sizeOf3
  v3 := Tryz.zeroValue3
  t4 := Tryz.underlying4
  a4 := Tryz.isAgg4
  z4 := Tryz.sizeOf4
  v4 := Tryz.zeroValue4
  t9 := Tryz.underlying9
  a9 := Tryz.isAgg9
  z9 := Tryz.sizeOf9
  v9 := Tryz.zeroValue9
  t31 := Tryz.underlying49
  a31 := Tryz.isAgg49
  z31 := Tryz.sizeOf49
  v31 := Tryz.zeroValue49 }
end Go.Proofs
namespace Go.Proofs.YtfhffcefpnkllaaGreatDoor.P
open Go.RowKit Go.Proofs.YtfhffcefpnkllaaGreatDoorW.PrintWords Go.Proofs.YtfhffcefpnkllaaGreatDoorW.PrintLast Go.Proofs.YtfhffcefpnkllaaGreatDoorW.PrintMore
attribute [local go_sem] max2_int min2_int max_two min_two max_three min_three max_four min_four
open Go.Shelf Go.Sort
attribute [local go_sem] Oper.semAt_some
namespace SV
def upto {α : Type} (f : Nat → α) (k : Nat) : List α := (List.range k).map f
theorem upto_succ {α : Type} (f : Nat → α) (k : Nat) : upto f (k + 1) = upto f k ++ [f k] := by simp [upto, List.range_succ]
theorem upto_length {α : Type} (f : Nat → α) (k : Nat) : (upto f k).length = k := by simp [upto]
theorem upto_all (zs : List (List UInt8)) : upto (fun j => zs[j]?.getD []) zs.length = zs := by
 apply List.ext_getElem
 ·
  simp [upto]
 intro i h1 h2
 simp [upto, h2]
theorem upto_take (zs : List (List UInt8)) {k : Nat} (hk : k ≤ zs.length) : upto (fun j => zs[j]?.getD []) k = zs.take k := by
 apply List.ext_getElem
 ·
  simp [upto, hk]
 intro i h1 h2
 have : i < zs.length := by simp [upto] at h1; omega
 simp [upto, this]
set_option maxHeartbeats 2000000 in
theorem values1_in (F : Fence) (n : Nat) (h7 : F.fn 117) (hro : F.round = none) (hn : 1 ≤ n) (l Bs n₀ : Nat) (ad : Addr) (len cap : Nat) (zs : List (List UInt8)) (hreach : len * 8 ≤ 140737488351232) (hb : ad.block < n₀) (J Jx : List (List UInt8) → World → Prop)
  (hY : ∀ pre x W, J pre W → pre.length < len → YieldAt F (n - 1) Tryz.prog l #[encStr x] W fun e W' =>
   (e = .returned (.bool true) ∧ J (pre ++ [x]) W' ∧ Below n₀ W W') ∨ (e = .returned (.bool false) ∧ Jx (pre ++ [x]) W'))
  (W : World) (hBs : W.cell? ⟨Bs, 0, none⟩ = some (.slice (some ad) len cap)) (hc : ∀ j, j < len → W.cell? (ad.add j) = some (encStr (zs[j]?.getD []))) (h0 : J [] W) :
  CallsIn F n Tryz.prog 117 #[.func (.yield l) #[] #[], .pointer (some ⟨Bs, 0, none⟩)] W fun e W' => (∃ v, e = .returned v) ∧
   ((∃ ys, ys = upto (fun j => zs[j]?.getD []) len ∧ J ys W') ∨ (∃ pre, (∃ k, k ≤ len ∧ pre = upto (fun j => zs[j]?.getD []) k) ∧ Jx pre W')) := by
 refine callsIn_of_wp Tryz.func117 rfl h7 ?_ hro
 simp only [Tryz.ntmps117, List.size_toArray, List.length_cons, List.length_nil, Nat.reduceAdd, Nat.reduceSub, Array.replicate_succ, Array.replicate_zero, List.push_toArray, List.append_toArray, List.nil_append, List.cons_append]
 gi_wp2
 gi_loopw [7] (fun i wr => ∃ k : Nat, k ≤ len ∧ i = .int .i64 k ∧ J (upto (fun j => zs[j]?.getD []) k) wr ∧ Below n₀ W wr)
  (fun i _ => len - (intOf i).toNat)
 case atStart => exact ⟨0, Nat.zero_le _, rfl, h0, Below.refl _ _⟩
 obtain ⟨k, hk, rfl, hJs, hnx⟩ := hrel
 have hcx : k < len → wr.cell? (ad.add k) = some (encStr (zs[k]?.getD [])) := fun h => (hnx.cell (p := ad.add k) (by rw [add_block]; exact hb)).trans (hc k h)
 by_cases hlt : k < len
 ·
  obtain ⟨fn, tmps, assign, body, hy, hR⟩ := hY _ (zs[k]?.getD []) wr hJs (by rw [upto_length]; exact hlt)
  have hcx' := hcx hlt
  gi_wp2
  refine hR.mono ?_
  rintro e W3 (⟨rfl, hJ3, hk3⟩ | ⟨rfl, hJx3⟩)
  ·
   gi_wp2
   go_roundw
   case rel => exact ⟨k + 1, by omega, by simp, by rw [upto_succ]; exact hJ3, hnx.trans hk3⟩
   case measure => simp [intOf]; omega
  gi_wp2
  refine bodyPost_ret (results_none rfl _ _ _) rfl ?_
  exact ⟨⟨_, rfl⟩, .inr ⟨_, ⟨k + 1, by omega, (upto_succ _ _).symm⟩, hJx3⟩⟩
 obtain rfl : k = len := by omega
 gi_wp2
 go_end0
 exact ⟨⟨_, rfl⟩, .inl ⟨_, rfl, hJs⟩⟩
end SV
namespace SV
def xF3 (n₀ : Nat) (W : World) (a : Option Addr) (zs : List (List UInt8)) : Prop :=
 zs = [] ∨ ∃ ad : Addr, a = some ad ∧ ad.block < n₀ ∧ ∀ j, j < zs.length → W.cell? (ad.add j) = some (encStr (zs[j]?.getD []))
theorem xF3.below {n₀ : Nat} {A B : World} (h : Below n₀ A B) {a : Option Addr} {zs : List (List UInt8)} : xF3 n₀ A a zs → xF3 n₀ B a zs
 | .inl e => .inl e
 | .inr ⟨ad, e, hb, hc⟩ => .inr ⟨ad, e, hb, fun j hj => (h.cell (p := ad.add j) (by rw [add_block]; exact hb)).trans (hc j hj)⟩
set_option maxHeartbeats 1000000 in
theorem values1_nil_in (F : Fence) (n : Nat) (h7 : F.fn 117) (hro : F.round = none) (l Bs : Nat) (a : Option Addr) (c : Nat) (J : List (List UInt8) → World → Prop) (W : World) (hBs : W.cell? ⟨Bs, 0, none⟩ = some (.slice a 0 c)) (h0 : J [] W) :
  CallsIn F n Tryz.prog 117 #[.func (.yield l) #[] #[], .pointer (some ⟨Bs, 0, none⟩)] W fun e W' => (∃ v, e = .returned v) ∧ J [] W' := by
 refine callsIn_of_wp Tryz.func117 rfl h7 ?_ hro
 simp only [Tryz.ntmps117, List.size_toArray, List.length_cons, List.length_nil, Nat.reduceAdd, Nat.reduceSub, Array.replicate_succ, Array.replicate_zero, List.push_toArray, List.append_toArray, List.nil_append, List.cons_append]
 gi_wp2
 gi_loopw [7] (fun i wr => i = .int .i64 0 ∧ J [] wr) (fun _ _ => 0)
 case atStart => exact ⟨rfl, h0⟩
 obtain ⟨rfl, hJs⟩ := hrel
 gi_wp2
 go_end0
 exact ⟨⟨_, rfl⟩, hJs⟩
theorem values_stops (F : Fence) (n : Nat) (h7 : F.fn 117) (hro : F.round = none) (hn : 1 ≤ n) (Bs n₀ : Nat) (a : Option Addr) (c : Nat) (zs : List (List UInt8)) (hreach : zs.length * 8 ≤ 140737488351232) (w : World) (hBs : Bs < w.heap.size) (hn₀ : n₀ ≤ w.heap.size)
  (hc : w.cell? ⟨Bs, 0, none⟩ = some (.slice a zs.length c)) (hI : xF3 n₀ w a zs) :
  SeqStopsK F n Tryz.prog 117 #[.pointer (some ⟨Bs, 0, none⟩)] (fun x : List UInt8 => #[encStr x]) (Below n₀) (fun ys => ys = zs) (fun pre => pre <+: zs) zs.length w := fun l J Jx W hW _ _ hY h0 => by
 have hc' := (hW.cell (p := ⟨Bs, 0, none⟩) hBs).trans hc
 rcases hI.below (hW.mono hn₀) with rfl | ⟨ad, rfl, hb, hcs⟩
 ·
  exact (values1_nil_in F n h7 hro l Bs a c J W hc' h0).mono fun e W' ⟨he, hj⟩ => ⟨he, .inl ⟨_, rfl, hj⟩⟩
 refine (values1_in F n h7 hro hn l Bs n₀ ad zs.length c zs hreach hb J Jx hY W hc' hcs h0).mono ?_
 rintro e W' ⟨he, ⟨ys, rfl, hj⟩ | ⟨pre, ⟨k, hk, rfl⟩, hj⟩⟩
 ·
  exact ⟨he, .inl ⟨_, upto_all zs, hj⟩⟩
 exact ⟨he, .inr ⟨_, by rw [upto_take zs hk]; exact List.take_prefix _ _, hj⟩⟩
theorem infoS : (Tryz.prog.info? 9).map (fun i => (i.zero, i.size, i.bytes)) = some (some (.string ⟨#[]⟩), 1, 16) := by kernel_rfl
set_option maxHeartbeats 2000000 in
theorem AppendSeq_in (F : Fence) (n : Nat) (h3 : F.fn 125) (h5 : F.fn 117) (hro : F.round = none) (hn : 3 ≤ n) (Bs : Nat) (a : Option Addr) (c : Nat) (zs : List (List UInt8)) (hlen : zs.length ≤ 4294967296) (w : World) (hBs : Bs < w.heap.size) (hc : w.cell? ⟨Bs, 0, none⟩ = some (.slice a zs.length c)) (hL : xF3 w.heap.size w a zs) :
  CallsIn F n Tryz.prog 125 #[.slice none 0 0, .func (.func 117) #[] #[.pointer (some ⟨Bs, 0, none⟩)]] w fun e W' => ∃ v, e = .returned v ∧ W'.ownsRow w.heap.size 9 1 v zs.length (zs.map encStr) ∧ (v = .slice none 0 0 ↔ zs = []) ∧ Below w.heap.size w W' := by
 have h1 : 1 ≤ n := by omega
 obtain ⟨i0, hi, hz0, hz1, hz2⟩ := info_parts infoS
 refine callsIn_of_wp_marks Tryz.func125 rfl h3 ?_ hro
 simp only [Tryz.ntmps125, List.size_toArray, List.length_cons, List.length_nil, Nat.reduceAdd, Nat.reduceSub, Array.replicate_succ, Array.replicate_zero, List.push_toArray, List.append_toArray, List.nil_append, List.cons_append]
 gi_wp2
 have bO := Boxed.new w 49 (.slice none 0 0)
 have hB0 : Below w.heap.size w (w.alloc (.cells #[.slice none 0 0] 49)) := (Below.refl _ w).alloc (Nat.le_refl _) _
 have hcb : (w.alloc (.cells #[.slice none 0 0] 49)).cell? ⟨Bs, 0, none⟩ = some (.slice a zs.length c) := (hB0.cell (p := ⟨Bs, 0, none⟩) hBs).trans hc
 refine wpIn_rangeFunc_ownG hro h1 (gf := 117) (lb := #[.pointer (some ⟨Bs, 0, none⟩)]) rfl h5 (enters_of Tryz.func117 (by kernel_rfl) rfl)
  (values_stops F (n - 1) h5 hro (by omega) Bs w.heap.size a c zs (by omega) _ (by simp; omega) (by simp) hcb (hL.below hB0)) belowK_t (belowK_b (by simp)) (Below.refl _ _) (fun _ => rfl)
  (fun pre W => (∃ v, Boxed W w.heap.size 49 v ∧ W.ownsRow w.heap.size 9 1 v pre.length (pre.map encStr) ∧ (v = .slice none 0 0 ↔ pre = [])) ∧ Below w.heap.size w W)
  (fun _ _ _ => False)
  (OwnFrom.and (Own.from (holdsRow_own w.heap.size w.heap.size 49 9 1 (fun pre => pre.length) (fun pre => pre.map encStr) (fun pre v => v = .slice none 0 0 ↔ pre = [])) _) (ownFrom_below (Nat.le_refl _) (by simp)))
  (fun _ _ _ _ _ hs _ _ => hs)
  ⟨⟨_, bO, World.ownsRow_nil _ _ _ _, by simp⟩, hB0⟩
  (fun x => { tmps := #[.slice none 0 0, .func (.func 117) #[] #[.pointer (some ⟨Bs, 0, none⟩)], .pointer (some ⟨w.heap.size, 0, none⟩), undef, .slice none 0 0, encStr x, .func (.func 117) #[] #[.pointer (some ⟨Bs, 0, none⟩)], encStr x, undef, undef, undef, undef, undef], defers := [] }) ?assign ?body ?done ?stop
 case assign =>
  intro l x W K hK
  gi_wp2
  exact hK
 case body =>
  rintro l pre x W ⟨⟨v, hv, hrow, hnil⟩, hB⟩ hlt
  have hc := hv.cell
  gi_wp2_with (gi_at_builtin; refine wpListIn_append_own _ rfl _ _ 49 rfl w.heap.size 9 i0 (.string ⟨#[]⟩) 1 16 Tryz.underlying49 hi hz0 hz1 hz2 rfl (by decide) _ _ _ rfl (hrow.alloc _) ⟨W.heap.size, 0, none⟩ 1 1 [encStr x] rfl rfl (cell_one_new _ _ _) (by simp [Value.oneCell', encStr]) (by unfold maxLen; omega) (by omega) (by have := hB.size; simp; omega) ?_; intro v' w1 hown' hgrow _; obtain ⟨g', cap', rfl⟩ := ownsRow_succ hown'; obtain ⟨hv1, hv2, hr2, hk2, hb2⟩ := hv.appended (by decide) hrow hB.size (Nat.le_refl _) hown' hgrow; have hc1 := hv1.cell; have hf1 := hv1.frozen)
  exact ⟨hk2.from _, hb2, ⟨_, hv2, by simpa using hr2, by simp⟩, hB.trans hb2⟩
 case stop =>
  rintro D c pre W _ _ h _
  exact h.elim
 rintro D ys W hD rfl ⟨⟨v, hv, hrow, hnil⟩, hB⟩ hK
 have hc := hv.cell
 gi_wp2
 refine ⟨by simp, .inl ⟨_, _, rfl, run_takeDeferred hK, ?_⟩⟩
 exact ⟨_, results_tmp rfl _ _ _, v, rfl, ownsRow_putObj hrow _ hK rfl, hnil, hB.trans (belowK_b (w := w) (Nat.le_refl _) W D _ _ (by simp at hD; omega) hK rfl rfl)⟩
end SV
namespace SV
set_option maxHeartbeats 1000000 in
theorem Collect_calls (Bs : Nat) (a : Option Addr) (c : Nat) (zs : List (List UInt8)) (hlen : zs.length ≤ 4294967296) (w : World) (hBs : Bs < w.heap.size) (hc : w.cell? ⟨Bs, 0, none⟩ = some (.slice a zs.length c)) (hL : xF3 w.heap.size w a zs) :
  Calls Tryz.prog 115 #[.func (.func 117) #[] #[.pointer (some ⟨Bs, 0, none⟩)]] w fun e W' => ∃ v, e = .returned v ∧ W'.ownsRow w.heap.size 9 1 v zs.length (zs.map encStr) ∧ (v = .slice none 0 0 ↔ zs = []) ∧ Below w.heap.size w W' := by
 have HA := Aside0.mk ((callsIn_wide (n := 5)).1 (AppendSeq_in Fence.wide 5 trivial trivial rfl (by omega) Bs a c zs hlen w hBs hc hL))
 clear hc hL
 go_enter Tryz.func115, Tryz.ntmps115
 go_wp2_with fail
 refine HA.out.mono ?_
 clear HA
 rintro e w' ⟨v, rfl, hrow, hnil, hb⟩
 have H := Aside0.mk (And.intro hrow (And.intro hnil hb))
 clear hrow hnil hb
 go_wp2_with fail
 go_ret
 exact ⟨v, rfl, H.out.1, H.out.2.1, H.out.2.2⟩
def srt (zs : List (List UInt8)) : List (List UInt8) := zs.mergeSort fun x y => decide (x ≤ y)
theorem srt_length (zs : List (List UInt8)) : (srt zs).length = zs.length := List.length_mergeSort zs
set_option maxHeartbeats 2000000 in
theorem Sorted_calls (Bs : Nat) (a : Option Addr) (c : Nat) (zs : List (List UInt8)) (hlen : zs.length ≤ 4294967296) (w : World) (hBs : Bs < w.heap.size) (hc : w.cell? ⟨Bs, 0, none⟩ = some (.slice a zs.length c)) (hL : xF3 w.heap.size w a zs) :
  Calls Tryz.prog 96 #[.func (.func 117) #[] #[.pointer (some ⟨Bs, 0, none⟩)]] w fun e W' => ∃ v, e = .returned v ∧ W'.ownsRow w.heap.size 9 1 v (srt zs).length ((srt zs).map encStr) ∧ (v = .slice none 0 0 ↔ zs = []) ∧ Below w.heap.size w W' := by
 have HA := Aside0.mk (Collect_calls Bs a c zs hlen w hBs hc hL)
 clear hc hL
 go_enter Tryz.func96, Tryz.ntmps96
 go_wp2_with fail
 refine HA.out.mono ?_
 clear HA
 rintro e W ⟨v, rfl, hrow, hnil, hb⟩
 rcases hrow.2 with ⟨rfl, hz⟩ | ⟨gb, cap, cur, rfl, hbase, hgb, r1, r2, r3, r4⟩
 ·
  have hss : zs = [] := List.eq_nil_of_length_eq_zero hz
  have H := Aside0.mk (And.intro hrow hb)
  clear hrow hb hnil hz
  go_wp2_with fail
  refine (Go.Proofs.Any.slices_Sort_string_none Go.Proofs.Tryz.lays190 none 0 _).mono ?_
  rintro e w' ⟨rfl, rfl⟩
  go_wp2_with fail
  go_ret
  subst hss
  exact ⟨.slice none 0 0, rfl, by simpa [srt] using H.out.1, by simp, H.out.2⟩
 have hH : Holds encStr W gb 0 zs.toArray := holds_of_block hgb (by simpa using r4)
 have hgl : gb < W.heap.size := (Array.getElem?_eq_some_iff.1 hgb).1
 have HS := Aside0.mk (Go.Proofs.Any.slices_Sort_string Go.Proofs.Tryz.lays190 gb 0 cap zs W hH hgl (by omega))
 have H := Aside0.mk (And.intro hb (And.intro hbase (And.intro hgb (And.intro r1 (And.intro r2 r3)))))
 have HN := Aside0.mk (show zs ≠ [] from fun e => by have := hnil.2 e; cases this)
 clear hrow hb hnil hH hgl hgb r1 r2 r3 r4 hbase
 go_wp2_with fail
 refine HS.out.mono ?_
 clear HS
 rintro e w' ⟨rfl, nn, os, rfl⟩
 go_wp2_with fail
 go_ret
 obtain ⟨hb, hbase, hgb, r1, r2, r3⟩ := H.out
 exact ⟨_, rfl, by rw [srt_length]; exact ownsRow_sorted (by simp) hbase hgb r1 r2 r3, ⟨(fun e => by cases e), fun e => absurd e HN.out⟩, hb.grown (grownBy_sorted _) hb.size (fun j hj => by cases hj; exact hbase)⟩
end SV
namespace SV
theorem xF3.mono {n₀ n₁ : Nat} (h : n₀ ≤ n₁) {W : World} {a : Option Addr} {zs : List (List UInt8)} : xF3 n₀ W a zs → xF3 n₁ W a zs
 | .inl e => .inl e
 | .inr ⟨ad, e, hb, hc⟩ => .inr ⟨ad, e, Nat.lt_of_lt_of_le hb h, hc⟩
set_option maxHeartbeats 1000000 in
theorem Values_calls (a : Option Addr) (n c : Nat) (w : World) :
  Calls Tryz.prog 97 #[.slice a n c] w fun e w' => e = .returned (.func (.func 117) #[] #[.pointer (some ⟨w.heap.size, 0, none⟩)]) ∧ w' = w.alloc (.cells #[.slice a n c] 49) := by
 go_enter Tryz.func97, Tryz.ntmps97
 go_wp2
 go_ret
 exact ⟨rfl, rfl⟩
theorem Compact_calls {w : World} {base : Nat} {v : Value} {ss : List (List UInt8)} (hrow : w.ownsRow base 9 1 v ss.length (ss.map encStr)) (A : Option Addr) (c : Nat) (hv : v = .slice A ss.length c) (hlen : ss.length ≤ 4294967296) :
  Calls Tryz.prog 95 #[.slice A ss.length c] w fun e w' => ∃ v', e = .returned v' ∧ w'.ownsRow base 9 1 v' (Go.Lib.compact ss).length ((Go.Lib.compact ss).map encStr) ∧ (∀ b, b ≤ base → b ≤ w.heap.size → Below b w w') := by
 rcases hrow.2 with ⟨h1, hz⟩ | ⟨g, cap, cur, h1, hbase, hgb, r1, r2, r3, r4⟩
 ·
  have hss : ss = [] := List.eq_nil_of_length_eq_zero hz
  subst hss
  rw [h1] at hv; cases hv
  refine (Go.Proofs.Any.slices_Compact_string_empty Go.Proofs.Tryz.lays194 none 0 w).mono ?_
  rintro e w' ⟨rfl, rfl⟩
  exact ⟨_, rfl, World.ownsRow_nil _ _ _ _, fun b _ _ => Below.refl _ _⟩
 rw [h1] at hv; cases hv
 have hH : Holds encStr w g 0 ss.toArray := holds_of_block hgb (by simpa using r4)
 have hcap : ss.length ≤ c := by omega
 refine (Go.Proofs.Any.slices_Compact_string Go.Proofs.Tryz.lays194 g 0 c ss w hH (by omega) hcap).mono ?_
 rintro e w' ⟨rfl, q, rfl⟩
 rw [h1] at hrow
 have hle := Go.Lib.compact_length_le ss
 have hc := Go.Lib.ownsRow_putRow (q := q) (k := (Go.Lib.compact ss).length) (ys := Go.Lib.compact ss ++ List.replicate (ss.length - (Go.Lib.compact ss).length) []) hrow (by simp; omega) (by omega)
 rw [List.take_left] at hc
 exact ⟨_, rfl, hc, fun b hb hb2 => Go.Lib.below_putRow (Below.refl _ _) (Nat.le_trans hb hbase)⟩
end SV
end Go.Proofs.YtfhffcefpnkllaaGreatDoor.P
namespace Go.Proofs.YtfhffcefpnkllaaGreatDoor.P
open Go.RowKit Go.Proofs.YtfhffcefpnkllaaGreatDoorW.PrintWords Go.Proofs.YtfhffcefpnkllaaGreatDoorW.PrintLast Go.Proofs.YtfhffcefpnkllaaGreatDoorW.PrintMore
open Go.Proofs.YtfhffcefpnkllaaGreatDoorW.PrintWords renaming blk_frozen → bF_, blk_cell → bC_, below_set → bS_, blk_below → bB_, below_step → bT_, pw_below_drewN → bN_, below_size → bZ_, below_drew1 → bD_, below_alloc → bA_, blk_far → bR_, gate_callee → gC_, gate_dst → gD_, box_event → bE_, blk_drew → b1_, blk_put → bP_, blk_drewN → b2_, blk_alloc → b3_, blk_lt → bL_, cell_far → cF_
open Go.Proofs.YtfhffcefpnkllaaGreatDoorW.PrintLast renaming any_of → aO_, i64_w → i6_, i32_w → i3_, take_ofW → tW_
open Go.Proofs.YtfhffcefpnkllaaGreatDoorW.PrintWords.Kd renaming R_below → kB_, R_mono → kM_, R_far → kF_, R_reads' → kR_, R_types → kT_, R_slice → kS_, R_celln → kC_, R_alloc → k1_, R_drewN → k2_, R_drew → k3_, C_below → k4_, R_lower → k5_, R_ne → k6_, own_blk → k7_
open Go.Proofs.YtfhffcefpnkllaaGreatDoorW.PrintWords.LeO renaming none → l0_, bind → l1_, ite → l2_, refl → l3_
open World renaming block_lt_of_cell? → wB_
open _root_.Option renaming bind_eq_some_iff → oB_
open _root_.ByteArray renaming empty → eB_
open List renaming setIfInBounds_toArray → sA_, set_cons_zero → sB_, set_cons_succ → sC_, map_toArray → sD_, map_cons → sE_, map_nil → sF_, length_drop → sG_, length_take → sH_
open Bool renaming true → ty, false → fy
open Aside0 renaming mk → aM_
attribute [local go_sem] max2_int min2_int max_two min_two max_three min_three max_four min_four
def iF27.f (l0 : List ByteArray) : Option (List ByteArray) := if l0.length ≤ 4294967296 then some ((Go.Lib.compact ((l0.map fun s => s.data.toList).mergeSort fun x y => decide (x ≤ y))).map fun l => (⟨l.toArray⟩ : ByteArray)) else none
theorem iF27.strs {w : World} {A0 : Option Addr} {l0 : List ByteArray} (hr : Kd.C Kd.string w A0 l0.length l0) : SV.xF3 w.heap.size w A0 (l0.map fun s => s.data.toList) := by
 cases l0 with
 | nil => exact .inl rfl
 | cons x l =>
  obtain ⟨ad, e, h0⟩ := Kd.at_string hr 0 (by omega) (by simp)
  have hall : ∀ j, j < (x :: l).length → w.cell? (ad.add j) = some (.string ((x :: l).getD j eB_)) := by
   intro j hj
   obtain ⟨ad', e', h'⟩ := Kd.at_string hr j (by omega) (by omega)
   rw [e] at e'; cases e'
   simpa [rdOf] using h'
  refine .inr ⟨ad, e, by have := wB_ w _ h0; rwa [add_block] at this, fun j hj => ?_⟩
  rw [hall j (by simpa using hj)]
  have hj' : j < (x :: l).length := by simpa using hj
  simp only [Go.Proofs.encStr, List.getElem?_map, List.getD_eq_getElem?_getD, List.getElem?_eq_getElem hj', Option.map_some, Option.getD_some]
theorem iF27.encs_eq (zs : List (List UInt8)) : encs Value.string (zs.map fun l => (⟨l.toArray⟩ : ByteArray)) = zs.map Go.Proofs.encStr := by
 simp [encs, Go.Proofs.encStr, Function.comp_def]
set_option maxHeartbeats 2000000 in
theorem iF27.calls (A0 : Option Addr) (c0 : Nat) (l0 : List ByteArray) (r : List ByteArray) (w : World) (hr0 : Kd.C Kd.string w A0 l0.length l0) (hc0 : l0.length ≤ c0) (h : iF27.f l0 = some r) :
  Calls Tryz.prog 82 #[.slice A0 l0.length c0] w fun e w' => ∃ v0_ : Value, e = .returned (v0_) ∧ Kd.R Kd.string 9 w' w.heap.size (fun _ => True) v0_ r ∧ Below w.heap.size w w' := by
 unfold iF27.f at h
 by_cases hlen : l0.length ≤ 4294967296
 rotate_left
 ·
  rw [if_neg hlen] at h; cases h
 rw [if_pos hlen] at h
 obtain ⟨zs, hzs⟩ : ∃ zs, zs = l0.map fun s => s.data.toList := ⟨_, rfl⟩
 have hzl : zs.length = l0.length := by rw [hzs]; simp
 have HS := aM_ (show SV.xF3 w.heap.size w A0 zs from hzs ▸ iF27.strs hr0)
 have HR := aM_ (show (Go.Lib.compact (SV.srt zs)).map (fun l => (⟨l.toArray⟩ : ByteArray)) = r from by rw [hzs]; exact Option.some.inj h)
 have HL := aM_ hzl
 have HN := aM_ hlen
 clear hr0 hc0 h hzs hzl hlen
 go_enter Tryz.func82, Tryz.ntmps82
 go_wp2_with fail
 refine (SV.Values_calls A0 l0.length c0 w).mono ?_
 rintro e w1 ⟨rfl, rfl⟩
 have hb1 : Below w.heap.size w (w.alloc (.cells #[.slice A0 l0.length c0] 49)) := (Below.refl _ w).alloc (Nat.le_refl _) _
 have HX := aM_ (SV.Sorted_calls w.heap.size A0 c0 zs (by rw [HL.out]; exact HN.out) (w.alloc (.cells #[.slice A0 l0.length c0] 49)) (by simp) (by rw [HL.out]; simp) ((HS.out.below hb1).mono (by simp)))
 have HB1 := aM_ hb1
 clear hb1
 go_wp2_with fail
 refine HX.out.mono ?_
 clear HX
 rintro e W ⟨v, rfl, hrow, hnil, hb⟩
 obtain ⟨A, c, hv⟩ := own_slice hrow
 have HB2 := aM_ (HB1.out.trans (hb.mono (by simp)))
 have HC := aM_ (SV.Compact_calls hrow A c hv (by rw [SV.srt_length, HL.out]; exact HN.out))
 have HZ := aM_ hb.size
 subst hv
 clear hrow hnil hb
 go_wp2_with fail
 refine HC.out.mono ?_
 clear HC
 rintro e W2 ⟨v2, rfl, hrow2, hb2⟩
 have H2 := aM_ (And.intro hrow2 hb2)
 clear hrow2 hb2
 go_wp2_with fail
 go_ret
 refine ⟨v2, rfl, ?_, HB2.out.trans (H2.out.2 _ (by simp) HB2.out.size)⟩
 rw [← HR.out]
 refine k5_ (Kd.R_of_own (h1 := fun _ => rfl) ?_ (fun _ _ => trivial)) (show w.heap.size ≤ (w.alloc (.cells #[.slice A0 l0.length c0] 49)).heap.size from by simp)
 rw [iF27.encs_eq, List.length_map]
 exact H2.out.1
def xF5.f (a0 : ByteArray) : Option (Bool) := some (a0.toList != a0.toList)
theorem xF5.calls (a0 : ByteArray) (r : Bool) (w : World) (h : xF5.f a0 = some r) :
  Calls Tryz.prog 124 #[.string a0] w fun e w' => e = .returned (.bool r) ∧ Drawn0 w w' := by
 have H : (some (a0.toList != a0.toList)) = some r := h
 clear h
 obtain rfl := Option.some.inj H
 go_enter Tryz.func124, Tryz.ntmps124
 go_wp2
 go_ret
 exact ⟨by rfl, by repeat (first | exact Drawn0.refl _ | apply Drawn0.step)⟩
def xF4.f (a0 : ByteArray) (a1 : ByteArray) : Option (Bool) := (xF5.f a0).bind fun t325 => (if t325 = true then ((xF5.f a1).bind fun t326 => (if t326 = true then (some (Op.bytesLess a0.toList a1.toList)) else (some true))) else (some (Op.bytesLess a0.toList a1.toList)))
theorem xF4.calls (a0 : ByteArray) (a1 : ByteArray) (r : Bool) (w : World) (h : xF4.f a0 a1 = some r) :
  Calls Tryz.prog 113 #[.string a0, .string a1] w fun e w' => e = .returned (.bool r) ∧ Drawn0 w w' := by
 have H : ((xF5.f a0).bind fun t325 => (if t325 = true then ((xF5.f a1).bind fun t326 => (if t326 = true then (some (Op.bytesLess a0.toList a1.toList)) else (some true))) else (some (Op.bytesLess a0.toList a1.toList)))) = some r := h
 clear h
 replace H := oB_.mp H
 obtain ⟨t325, A30, H⟩ := H
 try dsimp only at H
 have A3 := aM_ A30
 clear A30
 by_cases c4 : t325 = true
 rotate_left
 ·
  replace c4 := Bool.eq_false_iff.mpr c4
  subst c4
  replace H : (some (Op.bytesLess a0.toList a1.toList)) = some r := by rw [if_neg (show ¬ (false = true) by decide)] at H; exact H
  obtain rfl := Option.some.inj H
  go_enter Tryz.func113, Tryz.ntmps113
  go_wp2_with (first | (refine gs_ 6 Tryz.func124 #[.string a0] ?_; (with_reducible refine (xF5.calls a0 false _ A3.out).mono ?_); rintro e w' ⟨rfl, ⟨nd, rfl⟩⟩; refine ⟨_, rfl, ?_⟩))
  go_ret
  exact ⟨by rfl, by repeat (first | exact Drawn0.refl _ | apply Drawn0.step)⟩
 subst c4
 rw [if_pos rfl] at H
 replace H := oB_.mp H
 obtain ⟨t326, A50, H⟩ := H
 try dsimp only at H
 have A5 := aM_ A50
 clear A50
 by_cases c6 : t326 = true
 ·
  subst c6
  rw [if_pos rfl] at H
  obtain rfl := Option.some.inj H
  go_enter Tryz.func113, Tryz.ntmps113
  go_wp2_with (first | (refine gs_ 6 Tryz.func124 #[.string a0] ?_; (with_reducible refine (xF5.calls a0 true _ A3.out).mono ?_); rintro e w' ⟨rfl, ⟨nd, rfl⟩⟩; refine ⟨_, rfl, ?_⟩) | (go_at_call 124; (with_reducible refine (xF5.calls a1 true _ A5.out).mono ?_); rintro e w' ⟨rfl, ⟨nd, rfl⟩⟩))
  go_ret
  exact ⟨by rfl, by repeat (first | exact Drawn0.refl _ | apply Drawn0.step)⟩
 replace c6 := Bool.eq_false_iff.mpr c6
 subst c6
 replace H : (some true) = some r := by rw [if_neg (show ¬ (false = true) by decide)] at H; exact H
 obtain rfl := Option.some.inj H
 go_enter Tryz.func113, Tryz.ntmps113
 go_wp2_with (first | (refine gs_ 6 Tryz.func124 #[.string a0] ?_; (with_reducible refine (xF5.calls a0 true _ A3.out).mono ?_); rintro e w' ⟨rfl, ⟨nd, rfl⟩⟩; refine ⟨_, rfl, ?_⟩) | (go_at_call 124; (with_reducible refine (xF5.calls a1 false _ A5.out).mono ?_); rintro e w' ⟨rfl, ⟨nd, rfl⟩⟩))
 go_ret
 exact ⟨by rfl, by repeat (first | exact Drawn0.refl _ | apply Drawn0.step)⟩
def xF48.f (a0 : ByteArray) : Option (Bool) := some (a0.toList != a0.toList)
theorem xF48.calls (a0 : ByteArray) (r : Bool) (w : World) (h : xF48.f a0 = some r) :
  Calls Tryz.prog 114 #[.string a0] w fun e w' => e = .returned (.bool r) ∧ Drawn0 w w' := by
 have H : (some (a0.toList != a0.toList)) = some r := h
 clear h
 obtain rfl := Option.some.inj H
 go_enter Tryz.func114, Tryz.ntmps114
 go_wp2
 go_ret
 exact ⟨by rfl, by repeat (first | exact Drawn0.refl _ | apply Drawn0.step)⟩
def xF44.l0 : Nat → List ByteArray → ByteArray → Int → Int → Int → Option (Int × Bool)
 | 0, _, _, _, _, _ => none
 | k + 1, x0, x1, x6, x7, x8 => if x7 < x8 then (if 0 ≤ (wrap64 ((IntKind.u64.wrap (wrap64 (x7 + x8))) / 2)) then (if (wrap64 ((IntKind.u64.wrap (wrap64 (x7 + x8))) / 2)) < (x0.length : Int) then ((xF4.f (rdOf eB_ x0 (wrap64 ((IntKind.u64.wrap (wrap64 (x7 + x8))) / 2))) x1).bind fun t328 => (if t328 = true then (xF44.l0 k x0 x1 x6 (wrap64 ((wrap64 ((IntKind.u64.wrap (wrap64 (x7 + x8))) / 2)) + 1)) x8) else (xF44.l0 k x0 x1 x6 x7 (wrap64 ((IntKind.u64.wrap (wrap64 (x7 + x8))) / 2))))) else (none)) else (none)) else (if x7 < x6 then (if 0 ≤ x7 then (if x7 < (x0.length : Int) then (if (rdOf eB_ x0 x7).toList = x1.toList then (some (x7, true)) else ((xF48.f (rdOf eB_ x0 x7)).bind fun t331 => (if t331 = true then ((xF48.f x1).bind fun t332 => (some (x7, t332))) else (some (x7, false))))) else (none)) else (none)) else (some (x7, false)))
def xF44.f (k : Nat) (l0 : List ByteArray) (a1 : ByteArray) : Option (Int × Bool) := xF44.l0 k l0 a1 (l0.length : Int) 0 (l0.length : Int)
theorem xF44.mono_l : ∀ k, (∀ y0 y1 y2 y3 y4, LeO (xF44.l0 k y0 y1 y2 y3 y4) (xF44.l0 (k + 1) y0 y1 y2 y3 y4))
 | 0 => fun _ _ _ _ _ r h => by simp [xF44.l0] at h
 | k + 1 => by
  have ih0 := xF44.mono_l k
  intro y0 y1 y2 y3 y4
  unfold xF44.l0
  repeat' with_reducible first | exact ih0 _ _ _ _ _ | exact l3_ _ | exact l0_ _ | refine l2_ ?_ ?_ | refine l1_ ?_ (fun _ => ?_)
theorem xF44.mono : ∀ a0 a1 k, LeO (xF44.f k a0 a1) (xF44.f (k + 1) a0 a1) := by
 intro a0 a1 k
 have ih0 := xF44.mono_l k
 unfold xF44.f
 repeat' with_reducible first | exact ih0 _ _ _ _ _ | exact l3_ _ | exact l0_ _ | refine l2_ ?_ ?_ | refine l1_ ?_ (fun _ => ?_)
theorem xF44.calls (k : Nat) (A0 : Option Addr) (c0 : Nat) (l0 : List ByteArray) (a1 : ByteArray) (r1 : Int) (r2 : Bool) (w : World) (hr0 : Kd.C Kd.string w A0 l0.length l0) (hc0 : l0.length ≤ c0) (h : xF44.f k l0 a1 = some (r1, r2)) :
  Calls Tryz.prog 93 #[.slice A0 l0.length c0, .string a1] w fun e w' => e = .returned (.tuple #[.int .i64 r1, .bool r2]) ∧ Drawn0 w w' := by
 have HR0 := aM_ hr0
 have HC0 := aM_ hc0
 clear hr0 hc0
 have H : (xF44.l0 k l0 a1 (l0.length : Int) 0 (l0.length : Int)) = some (r1, r2) := h
 clear h
 have H' := aM_ H
 clear H
 go_enter Tryz.func93, Tryz.ntmps93
 go_wp2
 go_loopg [7, 8] k (fun kq v7 v8 w' => ∃ (x7_1 : Int) (x8_1 : Int), v7 = .int .i64 x7_1 ∧ v8 = .int .i64 x8_1 ∧ Aside0 (xF44.l0 kq l0 a1 (l0.length : Int) x7_1 x8_1 = some (r1, r2)) ∧ Aside0 (kq ≤ k) ∧ Drawn0 w w')
 case atStart => exact ⟨(0), ((l0.length : Int)), (by rfl), (by rfl), H', ⟨Nat.le_refl _⟩, by repeat (first | exact Drawn0.refl _ | apply Drawn0.step)⟩
 clear H'
 try clear p2
 obtain ⟨x7_1, x8_1, rfl, rfl, HA, HK1, ⟨m1, rfl⟩⟩ := hrel
 cases gk with
 | zero => exact absurd HA.out (by simp [xF44.l0])
 | succ k1 =>
  have H := HA.out
  clear HA
  simp only [xF44.l0] at H
  by_cases c3 : x7_1 < x8_1
  ·
   rw [if_pos c3] at H
   have c3b0 := dT_ c3
   clear c3
   obtain ⟨ji4, hji4⟩ : ∃ j_ : Int, (wrap64 ((IntKind.u64.wrap (wrap64 (x7_1 + x8_1))) / 2)) = j_ := ⟨_, rfl⟩
   replace H : (if 0 ≤ (ji4) then (if (ji4) < (l0.length : Int) then ((xF4.f (rdOf eB_ l0 (ji4)) a1).bind fun t328 => (if t328 = true then (xF44.l0 k1 l0 a1 (l0.length : Int) (wrap64 ((ji4) + 1)) x8_1) else (xF44.l0 k1 l0 a1 (l0.length : Int) x7_1 ji4))) else (none)) else (none)) = some (r1, r2) := by first | (rw [hji4] at H; exact H) | (simp only [hji4] at H ⊢; exact H)
   have hji4w : (IntKind.i64.wrap ((IntKind.u64.wrap (wrap64 (x7_1 + x8_1))) / 2)) = ji4 := (i6_ _).trans hji4
   by_cases c5 : 0 ≤ (ji4)
   rotate_left
   ·
    rw [if_neg c5] at H
    exact absurd H (by simp)
   rw [if_pos c5] at H
   have c5b0 := dT_ c5
   clear c5
   by_cases c6 : (ji4) < (l0.length : Int)
   rotate_left
   ·
    rw [if_neg c6] at H
    exact absurd H (by simp)
   rw [if_pos c6] at H
   have c6b0 := dT_ c6
   clear c6
   replace H := oB_.mp H
   obtain ⟨t328, A70, H⟩ := H
   try dsimp only at H
   have A7 := aM_ A70
   clear A70
   by_cases c8 : t328 = true
   ·
    subst c8
    rw [if_pos rfl] at H
    have H' := aM_ H
    clear H
    have p327 : 0 ≤ ((ji4) : Int) := oD_ ‹_›
    have q327 : (ji4) < (l0.length : Int) := oD_ ‹_›
    obtain ⟨ad327, e327, hx327_0⟩ := Kd.at_string HR0.out (ji4) p327 q327
    cases e327
    replace p327 := eq_true p327
    replace q327 := eq_true q327
    go_wp2_with (first | (refine gs_ 27 Tryz.func113 #[.string (rdOf eB_ l0 (ji4)), .string a1] ?_; (with_reducible refine (xF4.calls (rdOf eB_ l0 (ji4)) a1 true _ A7.out).mono ?_); rintro e w' ⟨rfl, ⟨nd, rfl⟩⟩; refine ⟨_, rfl, ?_⟩))
    go_roundg k1
    case measure => have := HK1.out; omega
    case rel => exact ⟨(wrap64 ((ji4) + 1)), (x8_1), (by rfl), (by rfl), H', ⟨by have := HK1.out; omega⟩, by repeat (first | exact Drawn0.refl _ | apply Drawn0.step)⟩
   replace c8 := Bool.eq_false_iff.mpr c8
   subst c8
   replace H : (xF44.l0 k1 l0 a1 (l0.length : Int) x7_1 ji4) = some (r1, r2) := by rw [if_neg (show ¬ (false = true) by decide)] at H; exact H
   have H' := aM_ H
   clear H
   have p327 : 0 ≤ ((ji4) : Int) := oD_ ‹_›
   have q327 : (ji4) < (l0.length : Int) := oD_ ‹_›
   obtain ⟨ad327, e327, hx327_0⟩ := Kd.at_string HR0.out (ji4) p327 q327
   cases e327
   replace p327 := eq_true p327
   replace q327 := eq_true q327
   go_wp2_with (first | (refine gs_ 27 Tryz.func113 #[.string (rdOf eB_ l0 (ji4)), .string a1] ?_; (with_reducible refine (xF4.calls (rdOf eB_ l0 (ji4)) a1 false _ A7.out).mono ?_); rintro e w' ⟨rfl, ⟨nd, rfl⟩⟩; refine ⟨_, rfl, ?_⟩))
   go_roundg k1
   case measure => have := HK1.out; omega
   case rel => exact ⟨(x7_1), (ji4), (by rfl), (by rfl), H', ⟨by have := HK1.out; omega⟩, by repeat (first | exact Drawn0.refl _ | apply Drawn0.step)⟩
  rw [if_neg c3] at H
  have c3b0 := dF_ c3
  clear c3
  by_cases c9 : x7_1 < (l0.length : Int)
  rotate_left
  ·
   rw [if_neg c9] at H
   have c9b0 := dF_ c9
   clear c9
   simp only [Option.some.injEq, Prod.mk.injEq] at H
   obtain ⟨rfl, rfl⟩ := H
   go_wp2
   go_ret2
   exact ⟨by rfl, by repeat (first | exact Drawn0.refl _ | apply Drawn0.step)⟩
  rw [if_pos c9] at H
  have c9b0 := dT_ c9
  clear c9
  by_cases c10 : 0 ≤ x7_1
  rotate_left
  ·
   rw [if_neg c10] at H
   exact absurd H (by simp)
  rw [if_pos c10] at H
  have c10b0 := dT_ c10
  clear c10
  by_cases c11 : x7_1 < (l0.length : Int)
  rotate_left
  ·
   rw [if_neg c11] at H
   exact absurd H (by simp)
  rw [if_pos c11] at H
  have c11b0 := dT_ c11
  clear c11
  by_cases c12 : (rdOf eB_ l0 x7_1).toList = a1.toList
  ·
   rw [if_pos c12] at H
   have c12b0 : ((rdOf eB_ l0 x7_1).toList == a1.toList) = true := beq_iff_eq.mpr c12
   have c12b1 : ((rdOf eB_ l0 x7_1).toList != a1.toList) = false := bne_eq_false_iff_eq.mpr c12
   clear c12
   simp only [Option.some.injEq, Prod.mk.injEq] at H
   obtain ⟨rfl, rfl⟩ := H
   have p329 : 0 ≤ (x7_1 : Int) := oD_ ‹_›
   have q329 : x7_1 < (l0.length : Int) := oD_ ‹_›
   obtain ⟨ad329, e329, hx329_0⟩ := Kd.at_string HR0.out x7_1 p329 q329
   cases e329
   replace p329 := eq_true p329
   replace q329 := eq_true q329
   go_wp2
   go_ret2
   exact ⟨by rfl, by repeat (first | exact Drawn0.refl _ | apply Drawn0.step)⟩
  rw [if_neg c12] at H
  have c12b0 : ((rdOf eB_ l0 x7_1).toList == a1.toList) = false := beq_eq_false_iff_ne.mpr c12
  have c12b1 : ((rdOf eB_ l0 x7_1).toList != a1.toList) = true := bne_iff_ne.mpr c12
  replace H := oB_.mp H
  obtain ⟨t331, A130, H⟩ := H
  try dsimp only at H
  have A13 := aM_ A130
  clear A130
  by_cases c14 : t331 = true
  ·
   subst c14
   rw [if_pos rfl] at H
   replace H := oB_.mp H
   obtain ⟨t332, A150, H⟩ := H
   try dsimp only at H
   have A15 := aM_ A150
   clear A150
   simp only [Option.some.injEq, Prod.mk.injEq] at H
   obtain ⟨rfl, rfl⟩ := H
   have p329 : 0 ≤ (x7_1 : Int) := oD_ ‹_›
   have q329 : x7_1 < (l0.length : Int) := oD_ ‹_›
   obtain ⟨ad329, e329, hx329_0⟩ := Kd.at_string HR0.out x7_1 p329 q329
   cases e329
   replace p329 := eq_true p329
   replace q329 := eq_true q329
   have p330 : 0 ≤ (x7_1 : Int) := oD_ ‹_›
   have q330 : x7_1 < (l0.length : Int) := oD_ ‹_›
   obtain ⟨ad330, e330, hx330_0⟩ := Kd.at_string HR0.out x7_1 p330 q330
   obtain rfl : ad329 = ad330 := (by injection e330)
   replace p330 := eq_true p330
   replace q330 := eq_true q330
   go_wp2_with (first | (go_at_call 114; (with_reducible refine (xF48.calls (rdOf eB_ l0 x7_1) true _ A13.out).mono ?_); rintro e w' ⟨rfl, ⟨nd, rfl⟩⟩) | (go_at_call 114; (with_reducible refine (xF48.calls a1 t332 _ A15.out).mono ?_); rintro e w' ⟨rfl, ⟨nd, rfl⟩⟩))
   go_ret2
   exact ⟨by rfl, by repeat (first | exact Drawn0.refl _ | apply Drawn0.step)⟩
  replace c14 := Bool.eq_false_iff.mpr c14
  subst c14
  replace H : (some (x7_1, false)) = some (r1, r2) := by rw [if_neg (show ¬ (false = true) by decide)] at H; exact H
  simp only [Option.some.injEq, Prod.mk.injEq] at H
  obtain ⟨rfl, rfl⟩ := H
  have p329 : 0 ≤ (x7_1 : Int) := oD_ ‹_›
  have q329 : x7_1 < (l0.length : Int) := oD_ ‹_›
  obtain ⟨ad329, e329, hx329_0⟩ := Kd.at_string HR0.out x7_1 p329 q329
  cases e329
  replace p329 := eq_true p329
  replace q329 := eq_true q329
  have p330 : 0 ≤ (x7_1 : Int) := oD_ ‹_›
  have q330 : x7_1 < (l0.length : Int) := oD_ ‹_›
  obtain ⟨ad330, e330, hx330_0⟩ := Kd.at_string HR0.out x7_1 p330 q330
  obtain rfl : ad329 = ad330 := (by injection e330)
  replace p330 := eq_true p330
  replace q330 := eq_true q330
  go_wp2_with (first | (go_at_call 114; (with_reducible refine (xF48.calls (rdOf eB_ l0 x7_1) false _ A13.out).mono ?_); rintro e w' ⟨rfl, ⟨nd, rfl⟩⟩))
  go_ret2
  exact ⟨by rfl, by repeat (first | exact Drawn0.refl _ | apply Drawn0.step)⟩
mutual
def iF28.l0 : Nat → List ByteArray → List ByteArray → List ByteArray → Int → Int → Option ((List (S76)))
 | 0, _, _, _, _, _ => none
 | k + 1, x0, x3, x15, x16, x17 => if x17 < x16 then (if 0 ≤ x17 then (if x17 < (x15.length : Int) then (iF28.l1 k x0 x3 (rdOf eB_ x15 x17) x15 x16 x17 ((rdOf eB_ x15 x17).size : Int) 0) else (none)) else (none)) else ((iF27.f x3).bind fun t341 => (if SM.okL t341 = true then (iF28.l2 k x0 t341 (t341.length : Int) 0 ([] : List (S76))) else none))
def iF28.l1 : Nat → List ByteArray → List ByteArray → ByteArray → List ByteArray → Int → Int → Int → Int → Option ((List (S76)))
 | 0, _, _, _, _, _, _, _, _ => none
 | k + 1, x0, x3, x5, x15, x16, x17, x22, x23 => if x23 < x22 then (if 0 ≤ (wrap64 (x23 + 1)) then (if (wrap64 (x23 + 1)) ≤ (x5.size : Int) then (if x3.length < 8796093022208 then (iF28.l1 k x0 (x3 ++ [x5.extract 0 ((wrap64 (x23 + 1)) : Int).toNat]) x5 x15 x16 x17 x22 (wrap64 (x23 + 1))) else (none)) else (none)) else (none)) else (iF28.l0 k x0 x3 x15 x16 (wrap64 (x17 + 1)))
def iF28.l2 : Nat → List ByteArray → List ByteArray → Int → Int → List (S76) → Option ((List (S76)))
 | 0, _, _, _, _, _ => none
 | k + 1, x0, x39, x40, x41, x345000 => if x41 < x40 then (if 0 ≤ x41 then (if x41 < (x39.length : Int) then ((xF44.f k x0 (rdOf eB_ x39 x41)).bind fun bt346 => (if (rdOf eB_ x39 x41).toList = ([] : List UInt8) then (if x345000.length < 5864062014805 then (iF28.l2 k x0 x39 x40 (wrap64 (x41 + 1)) (x345000 ++ [(⟨(-1), (-1), bt346.2⟩ : S76)])) else (none)) else (if 0 ≤ (wrap64 (((rdOf eB_ x39 x41).size : Int) - 1)) then (if (wrap64 (((rdOf eB_ x39 x41).size : Int) - 1)) < ((rdOf eB_ x39 x41).size : Int) then (if (wrap64 (((rdOf eB_ x39 x41).size : Int) - 1)) ≤ ((rdOf eB_ x39 x41).size : Int) then (if x345000.length < 5864062014805 then (iF28.l2 k x0 x39 x40 (wrap64 (x41 + 1)) (x345000 ++ [(⟨((bt (rdOf eB_ x39 x41) (wrap64 (((rdOf eB_ x39 x41).size : Int) - 1))) - 97) % 256, SM.at_ (List.take ((x41 : Int).toNat + 1) x39) ((rdOf eB_ x39 x41).extract 0 ((wrap64 (((rdOf eB_ x39 x41).size : Int) - 1)) : Int).toNat), bt346.2⟩ : S76)])) else (none)) else (none)) else (none)) else (none)))) else (none)) else (none)) else (some x345000)
end
def iF28.f (k : Nat) (l0 : List ByteArray) : Option ((List (S76))) := iF28.l0 k l0 (([(⟨#[]⟩ : ByteArray)] : List ByteArray)) l0 (l0.length : Int) 0
theorem iF28.mono_l : ∀ k, (∀ y0 y1 y2 y3 y4, LeO (iF28.l0 k y0 y1 y2 y3 y4) (iF28.l0 (k + 1) y0 y1 y2 y3 y4)) ∧ (∀ y0 y1 y2 y3 y4 y5 y6 y7, LeO (iF28.l1 k y0 y1 y2 y3 y4 y5 y6 y7) (iF28.l1 (k + 1) y0 y1 y2 y3 y4 y5 y6 y7)) ∧ (∀ y0 y1 y2 y3 y4, LeO (iF28.l2 k y0 y1 y2 y3 y4) (iF28.l2 (k + 1) y0 y1 y2 y3 y4))
 | 0 => ⟨fun _ _ _ _ _ r h => by simp [iF28.l0] at h, fun _ _ _ _ _ _ _ _ r h => by simp [iF28.l1] at h, fun _ _ _ _ _ r h => by simp [iF28.l2] at h⟩
 | k + 1 => by
  obtain ⟨ih0, ih1, ih2⟩ := iF28.mono_l k
  refine ⟨?_, ?_, ?_⟩
  ·
   intro y0 y1 y2 y3 y4
   unfold iF28.l0
   repeat' with_reducible first | exact ih0 _ _ _ _ _ | exact ih1 _ _ _ _ _ _ _ _ | exact ih2 _ _ _ _ _ | exact xF44.mono _ _ _ | exact l3_ _ | exact l0_ _ | refine l2_ ?_ ?_ | refine l1_ ?_ (fun _ => ?_)
  ·
   intro y0 y1 y2 y3 y4 y5 y6 y7
   unfold iF28.l1
   repeat' with_reducible first | exact ih0 _ _ _ _ _ | exact ih1 _ _ _ _ _ _ _ _ | exact ih2 _ _ _ _ _ | exact xF44.mono _ _ _ | exact l3_ _ | exact l0_ _ | refine l2_ ?_ ?_ | refine l1_ ?_ (fun _ => ?_)
  intro y0 y1 y2 y3 y4
  unfold iF28.l2
  repeat' with_reducible first | exact ih0 _ _ _ _ _ | exact ih1 _ _ _ _ _ _ _ _ | exact ih2 _ _ _ _ _ | exact xF44.mono _ _ _ | exact l3_ _ | exact l0_ _ | refine l2_ ?_ ?_ | refine l1_ ?_ (fun _ => ?_)
theorem iF28.mono : ∀ a0 k, LeO (iF28.f k a0) (iF28.f (k + 1) a0) := by
 intro a0 k
 obtain ⟨ih0, ih1, ih2⟩ := iF28.mono_l k
 unfold iF28.f
 repeat' with_reducible first | exact ih0 _ _ _ _ _ | exact ih1 _ _ _ _ _ _ _ _ | exact ih2 _ _ _ _ _ | exact xF44.mono _ _ _ | exact l3_ _ | exact l0_ _ | refine l2_ ?_ ?_ | refine l1_ ?_ (fun _ => ?_)
def iF28.T20 : Bool × List (List Nat × List Nat) := (true, [([], []), ([], []), ([1], [1]), ([2], [2]), ([0, 3], [0, 3]), ([4], [4]), ([5], [5]), ([], []), ([], []), ([], []), ([9], [9]), ([10], [10]), ([8, 11], [8, 11]), ([7, 12], [7, 12]), ([0, 1, 2, 3, 4, 5, 6], []), ([14, 6, 0, 1, 2, 3, 4, 5, 6], [6, 14]), ([0, 1, 2, 3, 4, 5, 6, 7, 8, 9, 10, 11, 12, 13, 14, 15], []), ([16, 13, 15, 0, 1, 2, 3, 4, 5, 6, 7, 8, 9, 10, 11, 12, 13, 14, 15], [13, 16])])
def iF28.B20 : List Nat := [0, 0, 2, 6, 15, 31, 63, 0, 0, 0, 512, 1536, 3840, 8064, 127, 16511, 65535, 131071]
theorem iF28.tab20 : rtab .any (opsOf Tryz.f79 20) = iF28.T20 := by kernel_rfl
theorem iF28.bits20 : waitsOk iF28.T20.2 iF28.B20 = true := by kernel_rfl
set_option maxHeartbeats 60000000 in
theorem iF28.calls (k : Nat) (A0 : Option Addr) (c0 : Nat) (l0 : List ByteArray) (r : List (S76)) (w : World) (hr0 : Kd.C Kd.string w A0 l0.length l0) (hc0 : l0.length ≤ c0) (h : iF28.f k l0 = some r) :
  Calls Tryz.prog 79 #[.slice A0 l0.length c0] w fun e w' => ∃ v0_ : Value, e = .returned (.agg #[v0_]) ∧ Kd.R k76 76 w' w.heap.size (fun _ => True) v0_ r ∧ Below w.heap.size w w' := by
 have hu36 := Tryz.underlying36
 have hu76 := Tryz.underlying76
 have HR0 := aM_ hr0
 have HC0 := aM_ hc0
 clear hr0 hc0
 have HB := aM_ (Below.refl w.heap.size w)
 have H : (iF28.l0 k l0 (([(⟨#[]⟩ : ByteArray)] : List ByteArray)) l0 (l0.length : Int) 0) = some r := h
 clear h
 obtain ⟨y334, hy334⟩ : ∃ y_ : List ByteArray, y_ = (([(⟨#[]⟩ : ByteArray)] : List ByteArray)) := ⟨_, rfl⟩
 replace H : (iF28.l0 k l0 y334 l0 (l0.length : Int) 0) = some r := by (try rw [hy334]); first | with_reducible exact H | with_reducible exact oS_ H | exact H
 have Ny334 := aM_ hy334
 clear hy334
 have H' := aM_ H
 clear H
 go_enter Tryz.func79, Tryz.ntmps79
 go_wp2_with (first | (refine bx_ 2 #[.slice none 0 0] 36 ?_; intro gb333 hg w2 hbox hb; have BK333 := aM_ (hbox); have GW333 := gw_ hg HB; replace HB := b4_ HB hb; clear hb hbox hg) | ((with_reducible refine gD_ (N := 14) rfl ?_); refine Kd.R_lit Kd.string _ 9 ?hg (N := 14) ?hd (xs := ([(⟨#[]⟩ : ByteArray)] : List ByteArray)) (inner := [.string (⟨#[]⟩ : ByteArray)]) (ok := fun _ => True) (okp := fun _ => True) ?hr ?hp (fun _ hk => hk) trivial (Below.refl _ _) (Nat.le_refl _) (by simp) ?_; (case hd => rfl); (case hg => rfl); (case hr => (go_simp; done)); (case hp => exact (Reps.one (show Kd.M Kd.string _ _ _ (⟨#[]⟩ : ByteArray) [.string (⟨#[]⟩ : ByteArray)] from rfl) (Reps.none _ _))); intro v335 w3 ho4 hb hg_ hnew_; clear hg_ hnew_; (rw [← Ny334.out] at ho4); have HO336 := aM_ (k5_ ho4 (bZ_ HB.out)); replace BK333 := b5_ BK333 hb; replace HB := b4_ HB hb; clear hb ho4))
 go_loopg [3, 17] k (fun kq v3 v17 w' => ∃ (x3_1 : List ByteArray) (x17_1 : Int), v17 = .int .i64 x17_1 ∧ Aside0 (iF28.l0 kq l0 x3_1 l0 (l0.length : Int) x17_1 = some r) ∧ Aside0 (kq ≤ k) ∧ Aside0 (Kd.R Kd.string 9 w' w.heap.size (fun _ => True) v3 x3_1) ∧ Aside0 (w'.heap[gb333]? = some (.cells #[(.slice none 0 0)] 36 (0, 0))) ∧ Aside0 (Below w.heap.size w w'))
 case atStart => exact ⟨(y334), (0), (by rfl), H', ⟨Nat.le_refl _⟩, ⟨HO336.out⟩, ⟨BK333.out⟩, ⟨HB.out⟩⟩
 clear H'
 try clear p2
 obtain ⟨x3_1, x17_1, rfl, HA, HK1, HO_3, BK333, HB⟩ := hrel
 cases gk with
 | zero => exact absurd HA.out (by simp [iF28.l0])
 | succ k1 =>
  have H := HA.out
  clear HA
  simp only [iF28.l0] at H
  by_cases c5 : x17_1 < (l0.length : Int)
  ·
   rw [if_pos c5] at H
   have c5b0 := dT_ c5
   clear c5
   by_cases c6 : 0 ≤ x17_1
   rotate_left
   ·
    rw [if_neg c6] at H
    exact absurd H (by simp)
   rw [if_pos c6] at H
   have c6b0 := dT_ c6
   clear c6
   by_cases c7 : x17_1 < (l0.length : Int)
   rotate_left
   ·
    rw [if_neg c7] at H
    exact absurd H (by simp)
   rw [if_pos c7] at H
   have c7b0 := dT_ c7
   clear c7
   have H' := aM_ H
   clear H
   have p337 : 0 ≤ (x17_1 : Int) := oD_ ‹_›
   have q337 : x17_1 < (l0.length : Int) := oD_ ‹_›
   obtain ⟨ad337, e337, hx337_0⟩ := Kd.at_string HR0.out x17_1 p337 q337
   cases e337
   replace hx337_0 := cb_ HB hx337_0
   replace p337 := eq_true p337
   replace q337 := eq_true q337
   go_wp2
   go_loopg [3, 23] k1 (fun kq v3 v23 w' => ∃ (x3_2 : List ByteArray) (x23_2 : Int), v23 = .int .i64 x23_2 ∧ Aside0 (iF28.l1 kq l0 x3_2 (rdOf eB_ l0 x17_1) l0 (l0.length : Int) x17_1 ((rdOf eB_ l0 x17_1).size : Int) x23_2 = some r) ∧ Aside0 (kq ≤ k1) ∧ Aside0 (Kd.R Kd.string 9 w' w.heap.size (fun _ => True) v3 x3_2) ∧ Aside0 (w'.heap[gb333]? = some (.cells #[(.slice none 0 0)] 36 (0, 0))) ∧ Aside0 (Below w.heap.size w w'))
   case atStart => exact ⟨(x3_1), (0), (by rfl), H', ⟨Nat.le_refl _⟩, ⟨HO_3.out⟩, ⟨BK333.out⟩, ⟨HB.out⟩⟩
   clear H'
   try clear p2
   try clear p3
   try clear q3
   try clear hx3
   try clear c5b0
   try clear c6b0
   try clear c7b0
   try clear hx337_0
   try clear p2
   try clear p337
   try clear q337
   obtain ⟨x3_2, x23_2, rfl, HA, HK2, HO_3, BK333, HB⟩ := hrel
   cases gk with
   | zero => exact absurd HA.out (by simp [iF28.l1])
   | succ k2 =>
    have H := HA.out
    clear HA
    simp only [iF28.l1] at H
    by_cases c8 : x23_2 < ((rdOf eB_ l0 x17_1).size : Int)
    rotate_left
    ·
     rw [if_neg c8] at H
     have c8b0 := dF_ c8
     clear c8
     have H' := aM_ H
     clear H
     go_wp2
     go_roundg k2
     case measure => have := HK1.out; have := HK2.out; omega
     case rel => exact ⟨(x3_2), (wrap64 (x17_1 + 1)), (by rfl), H', ⟨by have := HK1.out; have := HK2.out; omega⟩, ⟨HO_3.out⟩, ⟨BK333.out⟩, ⟨HB.out⟩⟩
    rw [if_pos c8] at H
    have c8b0 := dT_ c8
    clear c8
    obtain ⟨ji9, hji9⟩ : ∃ j_ : Int, (wrap64 (x23_2 + 1)) = j_ := ⟨_, rfl⟩
    replace H : (if 0 ≤ (ji9) then (if (ji9) ≤ ((rdOf eB_ l0 x17_1).size : Int) then (if x3_2.length < 8796093022208 then (iF28.l1 k2 l0 (x3_2 ++ [(rdOf eB_ l0 x17_1).extract 0 ((ji9) : Int).toNat]) (rdOf eB_ l0 x17_1) l0 (l0.length : Int) x17_1 ((rdOf eB_ l0 x17_1).size : Int) ji9) else (none)) else (none)) else (none)) = some r := by first | (rw [hji9] at H; exact H) | (simp only [hji9] at H ⊢; exact H)
    have hji9w : (IntKind.i64.wrap (x23_2 + 1)) = ji9 := (i6_ _).trans hji9
    by_cases c10 : 0 ≤ (ji9)
    rotate_left
    ·
     rw [if_neg c10] at H
     exact absurd H (by simp)
    rw [if_pos c10] at H
    have c10b0 := eq_true c10
    have c10b1 := dT_ c10
    clear c10
    by_cases c11 : (ji9) ≤ ((rdOf eB_ l0 x17_1).size : Int)
    rotate_left
    ·
     rw [if_neg c11] at H
     exact absurd H (by simp)
    rw [if_pos c11] at H
    have c11b0 := eq_true c11
    have c11b1 := dT_ c11
    clear c11
    by_cases c12 : x3_2.length < 8796093022208
    ·
     rw [if_pos c12] at H
     have LMc12 := aM_ c12
     clear c12
     obtain ⟨y338, hy338⟩ : ∃ y_ : List ByteArray, y_ = (x3_2 ++ [(rdOf eB_ l0 x17_1).extract 0 ((ji9) : Int).toNat]) := ⟨_, rfl⟩
     replace H : (iF28.l1 k2 l0 y338 (rdOf eB_ l0 x17_1) l0 (l0.length : Int) x17_1 ((rdOf eB_ l0 x17_1).size : Int) ji9) = some r := by (try rw [hy338]); first | with_reducible exact H | with_reducible exact oS_ H | exact H
     have Ny338 := aM_ hy338
     clear hy338
     have H' := aM_ H
     clear H
     go_wp2_with (first | ((with_reducible refine gate_builtin (b := .append) (xs := #[.tmp 26, .tmp 31]) rfl ?_); at_builtin; refine Kd.R_append Kd.string (w0 := w) w.heap.size rfl (.tmp 26) (.tmp 31) 49 9 (.string ⟨#[]⟩) 16 rfl Tryz.underlying49 info9 rfl (by decide) (by omega) u3 x3_2 ((rdOf eB_ l0 x17_1).extract 0 ((ji9) : Int).toNat) [.string ((rdOf eB_ l0 x17_1).extract 0 ((ji9) : Int).toNat)] (fun _ => True) (fun _ => False) rfl rfl ?aP (fun _ hk => hk.elim) ?aF ?aO ?aB ?aS ?aL ?_; (case aP => exact rfl); (case aB => exact HB.out); (case aF => exact (fun _ _ => trivial)); (case aO => exact HO_3.out); (case aS => exact (bZ_ HB.out)); (case aL => have := LMc12.out; omega); intro v339 w13 ho hb hg hat; rw [← Ny338.out] at ho; have n0_ := aM_ (blk_grown (g := gb333) (o := .cells #[.slice none 0 0] 36 (0, 0)) BK333.out hg (k6_ HO_3.out BK333.out (by decide))); have n1_ := aM_ (hb); have n2_ := aM_ (ho); clear BK333; clear HB; clear HO_3; have BK333 := n0_; have HB := n1_; have HO340 := n2_; clear n0_ n1_ n2_; clear ho hb hg hat))
     go_roundg k2
     case measure => have := HK1.out; have := HK2.out; omega
     case rel => exact ⟨(y338), (ji9), (by rfl), H', ⟨by have := HK1.out; have := HK2.out; omega⟩, ⟨HO340.out⟩, ⟨BK333.out⟩, ⟨HB.out⟩⟩
    rw [if_neg c12] at H
    exact absurd H (by simp)
  rw [if_neg c5] at H
  have c5b0 := dF_ c5
  clear c5
  replace H := oB_.mp H
  obtain ⟨t341, A140, H⟩ := H
  try dsimp only at H
  have hsz_ : SM.okL t341 = true := by
   by_cases h_ : SM.okL t341 = true
   ·
    exact h_
   rw [if_neg h_] at H; cases H
  rw [if_pos hsz_] at H
  have HSZ := aM_ hsz_
  clear hsz_
  have A14 := aM_ A140
  clear A140
  have H' := aM_ H
  clear H
  obtain ⟨Ao15, co15, eo15⟩ := kS_ HO_3.out
  subst eo15
  go_wp2_with (first | (refine gs_ 36 Tryz.func82 #[.slice Ao15 x3_1.length co15] ?_; (with_reducible refine (iF27.calls _ _ x3_1 t341 _ ?side1 ?side2 A14.out).mono ?_); (case side1 => repeat (first | exact (kR_ HO_3.out).2.2 | with_reducible first | apply cA_ | apply cN_ | apply cD_)); (case side2 => exact (kR_ HO_3.out).2.1); rintro e w16 ⟨v342, rfl, ho0, hb⟩; refine ⟨_, rfl, ?_⟩; have HO343 := aM_ (k5_ (Kd.R_new' ho0 (Kd.R_lt HO_3.out)) (bZ_ HB.out)); replace HO_3 := aM_ (Kd.R_elder' HO_3.out (Kd.R_base ho0) hb); replace BK333 := b5_ BK333 hb; replace HB := b4_ HB hb; (try clear hb); (try clear ho0)) | ((with_reducible refine gD_ (N := 38) rfl ?_); refine SM.made ?hg (N := 38) ?hd ?hr ?_; (case hd => rfl); (case hg => rfl); (case hr => (go_simp; rfl)); intro gbM hg wMade hbox hb; replace HO_3 := k9_ HO_3 hb; replace HO343 := k9_ HO343 hb; have BKM := aM_ (hbox); have GWM := gw_ hg HB; have GEM := gw_ hg HB; replace HB := b4_ HB hb; have NB333_M := nb_ hg BK333; have NBM_333 := ns_ NB333_M; replace BK333 := b5_ BK333 hb; clear hb hbox hg) | (refine bx_ 7 #[.slice none 0 0] 36 ?_; intro gb344 hg w17 hbox hb; have n0_ := k9_ HO_3 hb; have n1_ := k9_ HO343 hb; have n2_ := b5_ BK333 hb; have n29_ := aM_ (SM.Is.below (l := []) (by (with_reducible repeat (first | refine SM.Is.drewN ?_ _ | refine SM.Is.drew ?_ | refine SM.Is.alloc ?_ _)); exact BKM.out) hb); have n3_ := b4_ HB hb; have n4_ := aM_ (hbox); have n5_ := gw_ hg HB; have n6_ := gw_ hg HB; have n7_ := nb_ hg BK333; have n79_ := aM_ ((by rw [hg]; exact Nat.ne_of_lt (SM.Is.lt (l := []) (by (with_reducible repeat (first | refine SM.Is.drewN ?_ _ | refine SM.Is.drew ?_ | refine SM.Is.alloc ?_ _)); exact BKM.out)) : gbM ≠ gb344)); have n8_ := aM_ ((by rw [hg]; exact Nat.ne_of_gt (bL_ BK333.out) : gb344 ≠ gb333)); have n89_ := aM_ ((by rw [hg]; exact Nat.ne_of_gt (SM.Is.lt (l := []) (by (with_reducible repeat (first | refine SM.Is.drewN ?_ _ | refine SM.Is.drew ?_ | refine SM.Is.alloc ?_ _)); exact BKM.out)) : gb344 ≠ gbM)); clear HO_3; clear HO343; clear BKM; clear BK333; clear HB; have HO_3 := n0_; have HO343 := n1_; have BK333 := n2_; have BKM := n29_; have HB := n3_; have BK344 := n4_; have GW344 := n5_; have GW344 := n6_; have NB333_344 := n7_; have NBM_344 := n79_; have NB344_333 := n8_; have NB344_M := n89_; clear n0_ n1_ n2_ n3_ n4_ n5_ n6_ n7_ n8_ n29_ n79_ n89_; clear hb hbox hg; have hnb18 := NB344_333.out; have hnc18 := NB333_344.out; have hcz19_0 := c0_ BK344; have hfz19_0 := bF_ BK344.out 0; obtain ⟨Ao20, co20, eo20⟩ := kS_ HO343.out; subst eo20))
  go_loopg [41] k1 (fun kq v41 w' => ∃ (x41_2 : Int) (x345000_2 : List (S76)) (u345000 : Value), v41 = .int .i64 x41_2 ∧ Aside0 (iF28.l2 kq l0 t341 (t341.length : Int) x41_2 x345000_2 = some r) ∧ Aside0 (kq ≤ k1) ∧ Aside0 (Kd.R Kd.string 9 w' w.heap.size (fun _ => True) (.slice Ao20 t341.length co20) t341) ∧ Aside0 (Kd.R k76 76 w' w.heap.size (fun _ => True) u345000 x345000_2) ∧ Aside0 (w'.heap[gb333]? = some (.cells #[(.slice none 0 0)] 36 (0, 0))) ∧ Aside0 (w'.heap[gb344]? = some (.cells #[u345000] 36 (0, 0))) ∧ Aside0 (Below w.heap.size w w') ∧ Aside0 (SM.Is w' gbM (List.take ((x41_2 : Int).toNat) t341)))
  case atStart => exact ⟨(0), (([] : List (S76))), (.slice none 0 0), (by rfl), H', ⟨Nat.le_refl _⟩, ⟨by exact kM_ (kG_ (kT_ HO343.out BK344.out (by decide))) (fun _ hk => trivial)⟩, ⟨by exact Kd.R_nil _ _ _ _ _⟩, ⟨by exact br_ NB333_344.out (BK333.out)⟩, ⟨by refine bP_ (cs := #[.slice none 0 0]) ?_ 0 _ rfl; exact BK344.out⟩, ⟨by repeat with_reducible first | exact HB.out | apply bA_ | apply bN_ | apply bD_ | refine bS_ ?_ (Aside0.out ‹_›)⟩, ⟨(by (with_reducible repeat (first | refine SM.Is.drewN ?_ _ | refine SM.Is.drew ?_ | refine SM.Is.alloc ?_ _)); refine SM.Is.far ?_ NBM_344.out _; (with_reducible repeat (first | refine SM.Is.drewN ?_ _ | refine SM.Is.drew ?_ | refine SM.Is.alloc ?_ _)); exact BKM.out : SM.Is _ gbM [])⟩⟩
  clear H'
  try clear p2
  try clear p3
  try clear q3
  try clear hx3
  try clear c5b0
  try clear c6b0
  try clear p6
  try clear c7b0
  try clear c8b0
  try clear c10b0
  try clear c10b1
  try clear c11b0
  try clear c11b1
  try clear hcz19_0
  try clear hfz19_0
  try clear hx337_0
  try clear p2
  try clear p3
  try clear p337
  try clear q3
  try clear q337
  obtain ⟨x41_2, x345000_2, u345000, rfl, HA, HK2, HO_39, HO_345000, BK333, BK344, HB, BKM0⟩ := hrel
  obtain ⟨lm, hlm⟩ : ∃ l_ : List ByteArray, l_ = List.take ((x41_2 : Int).toNat) t341 := ⟨_, rfl⟩
  have BKM : Aside0 (SM.Is wr gbM lm) := ⟨by rw [hlm]; exact BKM0.out⟩
  clear BKM0
  have HLM := aM_ hlm
  clear hlm
  cases gk with
  | zero => exact absurd HA.out (by simp [iF28.l2])
  | succ k2 =>
   have H := HA.out
   clear HA
   simp only [iF28.l2] at H
   by_cases c21 : x41_2 < (t341.length : Int)
   rotate_left
   ·
    rw [if_neg c21] at H
    have c21b0 := dF_ c21
    clear c21
    obtain rfl := Option.some.inj H
    have hnb57 := NB344_333.out
    have hnc57 := NB333_344.out
    have hcz58_0 := c0_ BK344
    have hfz58_0 := bF_ BK344.out 0
    obtain ⟨Ao59, co59, eo59⟩ := kS_ HO_345000.out
    subst eo59
    have hcz60_0 := c0_ BK333
    have hfz60_0 := bF_ BK333.out 0
    go_wp2
    refine bodyPost_ret (results_cell_row rfl _ _ gb333 36 #[.slice Ao59 x345000_2.length co59] (0, 0) _ rfl (by refine bP_ (cs := #[.slice none 0 0]) ?_ 0 _ rfl; exact BK333.out) Tryz.underlying36 rfl (by kernel_rfl)) rfl ?_
    exact ⟨_, by rfl, by exact kM_ (kG_ (kT_ HO_345000.out BK333.out (by decide))) (fun _ hk => trivial), by repeat with_reducible first | exact HB.out | apply bA_ | apply bN_ | apply bD_ | refine bS_ ?_ (Aside0.out ‹_›)⟩
   rw [if_pos c21] at H
   have c21b0 := dT_ c21
   clear c21
   by_cases c22 : 0 ≤ x41_2
   rotate_left
   ·
    rw [if_neg c22] at H
    exact absurd H (by simp)
   rw [if_pos c22] at H
   have c22b0 := dT_ c22
   clear c22
   by_cases c23 : x41_2 < (t341.length : Int)
   rotate_left
   ·
    rw [if_neg c23] at H
    exact absurd H (by simp)
   rw [if_pos c23] at H
   have c23b0 := dT_ c23
   clear c23
   replace H := oB_.mp H
   obtain ⟨⟨t346, t347⟩, A240, H⟩ := H
   try dsimp only at H
   have A24 := aM_ A240
   clear A240
   by_cases c25 : (rdOf eB_ t341 x41_2).toList = ([] : List UInt8)
   ·
    rw [if_pos c25] at H
    have c25b0 : ((rdOf eB_ t341 x41_2).toList == ([] : List UInt8)) = true := beq_iff_eq.mpr c25
    have c25b1 : ((rdOf eB_ t341 x41_2).toList != ([] : List UInt8)) = false := bne_eq_false_iff_eq.mpr c25
    clear c25
    by_cases c26 : x345000_2.length < 5864062014805
    rotate_left
    ·
     rw [if_neg c26] at H
     exact absurd H (by simp)
    rw [if_pos c26] at H
    have LMc26 := aM_ c26
    clear c26
    obtain ⟨y349, hy349⟩ : ∃ y_ : List (S76), y_ = (x345000_2 ++ [(⟨(-1), (-1), t347⟩ : S76)]) := ⟨_, rfl⟩
    replace H : (iF28.l2 k2 l0 t341 (t341.length : Int) (wrap64 (x41_2 + 1)) y349) = some r := by (try rw [hy349]); first | with_reducible exact H | with_reducible exact oS_ H | exact H
    have Ny349 := aM_ hy349
    clear hy349
    have H' := aM_ H
    clear H
    have p345 : 0 ≤ (x41_2 : Int) := oD_ ‹_›
    have q345 : x41_2 < (t341.length : Int) := oD_ ‹_›
    have HLL := aM_ (show (lm.length : Int) = x41_2 from by rw [HLM.out, List.length_take]; omega)
    have HLL2 := aM_ (show lm.length < t341.length from by rw [HLM.out, List.length_take]; omega)
    have HLP := aM_ (SM.okL.size HSZ.out x41_2 p345 q345)
    have HLN := aM_ (show lm ++ [rdOf eB_ t341 x41_2] = List.take ((x41_2 : Int).toNat + 1) t341 from by rw [HLM.out]; exact SM.take_rd t341 x41_2 p345 q345)
    obtain ⟨ad345, e345, hx345_0⟩ := Kd.at_string (kR_ HO_39.out).2.2 x41_2 p345 q345
    cases e345
    replace p345 := eq_true p345
    replace q345 := eq_true q345
    go_wp2_with (first | (at_mapUpdate; refine SM.put rfl (.tmp 46) (.tmp 47) (.tmp 48) 106 Tryz.underlying106 rfl gbM lm rfl (by (with_reducible repeat (first | refine SM.Is.drewN ?_ _ | refine SM.Is.drew ?_ | refine SM.Is.alloc ?_ _)); exact BKM.out) ?hn (rdOf eB_ t341 x41_2) ?hp rfl ?hv ?_; (case hn => have h1_ := SM.okL.len HSZ.out; have h2_ := HLL2.out; omega); (case hp => have h1_ := HLP.out; unfold maxLen; omega); (case hv => exact (congrArg (Value.int IntKind.i64) HLL.out).symm); intro w9m h1m hgm; obtain ⟨lm2, hlm2⟩ : ∃ l_ : List ByteArray, l_ = lm ++ [rdOf eB_ t341 x41_2] := ⟨_, rfl⟩; rw [← hlm2] at h1m; have HLM2 := aM_ hlm2; clear hlm2; have nr0_ := aM_ (SM.R_over HO_39.out (by (with_reducible repeat (first | refine SM.Is.drewN ?_ _ | refine SM.Is.drew ?_ | refine SM.Is.alloc ?_ _)); exact BKM.out) hgm); have nr1_ := aM_ (SM.R_over HO_345000.out (by (with_reducible repeat (first | refine SM.Is.drewN ?_ _ | refine SM.Is.drew ?_ | refine SM.Is.alloc ?_ _)); exact BKM.out) hgm); have nb_ := aM_ (blk_grown (g := gb333) (o := .cells #[.slice none 0 0] 36 (0, 0)) BK333.out hgm (fun e_ => NBM_333.out (Option.some.inj e_).symm)); have nt_ := aM_ (blk_grown (g := gb344) BK344.out hgm (fun e_ => NBM_344.out (Option.some.inj e_).symm)); have nh_ := aM_ (RowKit.Below.grown HB.out hgm (bZ_ HB.out) (fun j hj => by cases hj; exact GEM.out)); clear HO_39 HO_345000 BK333 BK344 HB BKM; have HO_39 := nr0_; clear nr0_; have HO_345000 := nr1_; clear nr1_; have BK333 := nb_; have BK344 := nt_; have HB := nh_; have BKM := aM_ h1m; clear nb_ nt_ nh_ h1m hgm) | (refine gs_ 52 Tryz.func93 #[.slice A0 l0.length c0, .string (rdOf eB_ t341 x41_2)] ?_; (with_reducible refine (xF44.calls k2 _ _ l0 (rdOf eB_ t341 x41_2) t346 t347 _ ?side1 HC0.out A24.out).mono ?_); (case side1 => repeat (first | exact (k4_ HR0.out HB.out) | with_reducible first | apply cA_ | apply cN_ | apply cD_)); rintro e w' ⟨rfl, ⟨nd, rfl⟩⟩; refine ⟨_, rfl, ?_⟩; (try (rw [drewN_self wr]; generalize hq_ : World.drewN wr _ = wr; have n0_ : Aside0 (Kd.R k76 76 wr w.heap.size (fun _ => True) u345000 x345000_2) := ⟨by rw [← hq_]; exact (by (with_reducible repeat (first | apply k1_ | apply k2_ | apply k3_)); exact HO_345000.out)⟩; have n1_ : Aside0 (Kd.R Kd.string 9 wr w.heap.size (fun _ => True) (.slice (some ad345) t341.length co20) t341) := ⟨by rw [← hq_]; exact (by (with_reducible repeat (first | apply k1_ | apply k2_ | apply k3_)); exact HO_39.out)⟩; have n2_ : Aside0 (wr.heap[gb333]? = some (.cells #[.slice none 0 0] 36 (0, 0))) := ⟨by rw [← hq_]; exact (by (with_reducible repeat (first | refine b2_ ?_ _ | refine b1_ ?_ | refine b3_ ?_ _)); exact BK333.out)⟩; have n29_ : Aside0 (SM.Is wr gbM lm2) := ⟨by rw [← hq_]; exact (by (with_reducible repeat (first | refine SM.Is.drewN ?_ _ | refine SM.Is.drew ?_ | refine SM.Is.alloc ?_ _)); exact BKM.out)⟩; have n3_ : Aside0 (wr.heap[gb344]? = some (.cells #[u345000] 36 (0, 0))) := ⟨by rw [← hq_]; exact (by (with_reducible repeat (first | refine b2_ ?_ _ | refine b1_ ?_ | refine b3_ ?_ _)); exact BK344.out)⟩; have n4_ : Aside0 (Below w.heap.size w wr) := ⟨by rw [← hq_]; exact (by repeat with_reducible first | exact HB.out | apply bA_ | apply bN_ | apply bD_ | refine bS_ ?_ (Aside0.out ‹_›))⟩; clear HO_345000 HO_39 BKM BK333 BK344 HB hq_; have HO_345000 := n0_; have HO_39 := n1_; have BK333 := n2_; have BKM := n29_; have BK344 := n3_; have HB := n4_; clear n0_ n1_ n2_ n3_ n4_ n29_))) | (refine bx_ 13 #[.int .i64 0, .int .i64 0, .bool false] 76 ?_; intro gb348 hg w27 hbox hb; have n0_ := aM_ (kB_ (by (with_reducible repeat (first | apply k1_ | apply k2_ | apply k3_)); exact HO_39.out) hb); have n1_ := aM_ (kB_ (Kd.R_elderB (by (with_reducible repeat (first | apply k1_ | apply k2_ | apply k3_)); exact HO_345000.out) gb348 (Nat.le_of_eq hg.symm)) hb); have n2_ := aM_ (bB_ (g := gb333) (o := .cells #[.slice none 0 0] 36 (0, 0)) (by (with_reducible repeat (first | refine b2_ ?_ _ | refine b1_ ?_ | refine b3_ ?_ _)); exact BK333.out) hb); have n29_ := aM_ (SM.Is.below (l := lm2) (by (with_reducible repeat (first | refine SM.Is.drewN ?_ _ | refine SM.Is.drew ?_ | refine SM.Is.alloc ?_ _)); exact BKM.out) hb); have n3_ := aM_ (bB_ (g := gb344) (o := .cells #[u345000] 36 (0, 0)) (by (with_reducible repeat (first | refine b2_ ?_ _ | refine b1_ ?_ | refine b3_ ?_ _)); exact BK344.out) hb); have n4_ := aM_ (bT_ (by repeat with_reducible first | exact HB.out | apply bA_ | apply bN_ | apply bD_ | refine bS_ ?_ (Aside0.out ‹_›)) hb); have n5_ := aM_ (hbox); have n6_ := aM_ ((by rw [hg]; exact (bZ_ (by repeat with_reducible first | exact HB.out | apply bA_ | apply bN_ | apply bD_ | refine bS_ ?_ (Aside0.out ‹_›))) : w.heap.size ≤ gb348)); have n7_ := aM_ ((by rw [hg]; exact (bZ_ (by repeat with_reducible first | exact HB.out | apply bA_ | apply bN_ | apply bD_ | refine bS_ ?_ (Aside0.out ‹_›))) : w.heap.size ≤ gb348)); have n8_ := aM_ ((by rw [hg]; exact Nat.ne_of_lt (bL_ (g := gb333) (o := .cells #[.slice none 0 0] 36 (0, 0)) (by (with_reducible repeat (first | refine b2_ ?_ _ | refine b1_ ?_ | refine b3_ ?_ _)); exact BK333.out)) : gb333 ≠ gb348)); have n89_ := aM_ ((by rw [hg]; exact Nat.ne_of_lt (SM.Is.lt (l := lm2) (by (with_reducible repeat (first | refine SM.Is.drewN ?_ _ | refine SM.Is.drew ?_ | refine SM.Is.alloc ?_ _)); exact BKM.out)) : gbM ≠ gb348)); have n9_ := aM_ ((by rw [hg]; exact Nat.ne_of_gt (bL_ (g := gb333) (o := .cells #[.slice none 0 0] 36 (0, 0)) (by (with_reducible repeat (first | refine b2_ ?_ _ | refine b1_ ?_ | refine b3_ ?_ _)); exact BK333.out)) : gb348 ≠ gb333)); have n99_ := aM_ ((by rw [hg]; exact Nat.ne_of_gt (SM.Is.lt (l := lm2) (by (with_reducible repeat (first | refine SM.Is.drewN ?_ _ | refine SM.Is.drew ?_ | refine SM.Is.alloc ?_ _)); exact BKM.out)) : gb348 ≠ gbM)); have n10_ := aM_ ((by rw [hg]; exact Nat.ne_of_lt (bL_ (g := gb344) (o := .cells #[u345000] 36 (0, 0)) (by (with_reducible repeat (first | refine b2_ ?_ _ | refine b1_ ?_ | refine b3_ ?_ _)); exact BK344.out)) : gb344 ≠ gb348)); have n11_ := aM_ ((by rw [hg]; exact Nat.ne_of_gt (bL_ (g := gb344) (o := .cells #[u345000] 36 (0, 0)) (by (with_reducible repeat (first | refine b2_ ?_ _ | refine b1_ ?_ | refine b3_ ?_ _)); exact BK344.out)) : gb348 ≠ gb344)); clear HO_39; clear HO_345000; clear BKM; clear BK333; clear BK344; clear HB; have HO_39 := n0_; have HO_345000 := n1_; have BK333 := n2_; have BKM := n29_; have BK344 := n3_; have HB := n4_; have BK348 := n5_; have GW348 := n6_; have GW348 := n7_; have NB333_348 := n8_; have NBM_348 := n89_; have NB348_333 := n9_; have NB348_M := n99_; have NB344_348 := n10_; have NB348_344 := n11_; clear n0_ n1_ n2_ n3_ n4_ n5_ n6_ n7_ n8_ n9_ n10_ n11_ n29_ n89_ n99_; clear hb hbox hg; have hnb28 := NB348_333.out; have hnc28 := NB333_348.out; have hnb29 := NB348_344.out; have hnc29 := NB344_348.out; have hcz30_0 := c0_ BK348; have hcz30_1 := c1_ BK348; have hcz30_2 := c2_ BK348; have hfz30_0 := bF_ BK348.out 0; have hfz30_1 := bF_ BK348.out 1; have hfz30_2 := bF_ BK348.out 2; have hnb31 := NB344_333.out; have hnc31 := NB333_344.out; have hcz32_0 := c0_ BK344; have hfz32_0 := bF_ BK344.out 0) | ((with_reducible refine gate_builtin (b := .append) (xs := #[.tmp 76, .tmp 78]) rfl ?_); at_builtin; refine Kd.R_append k76 (w0 := w) w.heap.size rfl (.tmp 76) (.tmp 78) 34 76 (.agg #[(.int .i64 0), (.int .i64 0), (.bool false)]) 24 rfl Tryz.underlying34 info76 rfl (by decide) (by omega) u345000 x345000_2 (⟨(-1), (-1), t347⟩ : S76) [.int .i64 (-1), .int .i64 (-1), .bool t347] (fun k_ => k_ ≠ gb348) (fun _ => False) rfl (by (go_simp; done)) ?aP (fun _ hk => hk.elim) ?aF ?aO ?aB ?aS ?aL ?_; (case aP => exact k76_mkM _ _ _ (⟨(-1), (-1), t347⟩ : S76)); (case aB => exact (by repeat with_reducible first | exact HB.out | apply bA_ | apply bN_ | apply bD_ | refine bS_ ?_ (Aside0.out ‹_›))); (case aF => exact (fun k_ hk => Kd.freshB (g := gb348) (o := .cells #[.int .i64 (-1), .int .i64 (-1), .bool t347] 76 (0, 0)) (by refine bP_ (cs := #[.int .i64 (-1), .int .i64 (-1), .bool false]) ?_ 2 _ rfl; refine bP_ (cs := #[.int .i64 (-1), .int .i64 0, .bool false]) ?_ 1 _ rfl; refine bP_ (cs := #[.int .i64 0, .int .i64 0, .bool false]) ?_ 0 _ rfl; exact BK348.out) k_ hk)); (case aO => exact (by exact kM_ (kF_ (p := ⟨gb348, 2, none⟩) (kF_ (p := ⟨gb348, 1, none⟩) (kF_ (p := ⟨gb348, 0, none⟩) (kM_ HO_345000.out (fun k_ hk => (⟨hk, hk.2⟩ : _ ∧ k_ ≠ gb348))) (fun _ hk => hk.2) (.int .i64 (-1))) (fun _ hk => hk.2) (.int .i64 (-1))) (fun _ hk => hk.2) (.bool t347)) (fun _ hk => hk.1.2))); (case aS => exact (bZ_ (by repeat with_reducible first | exact HB.out | apply bA_ | apply bN_ | apply bD_ | refine bS_ ?_ (Aside0.out ‹_›)))); (case aL => have := LMc26.out; omega); intro v350 w33 ho hb hg hat; rw [← Ny349.out] at ho; have n0_ := aM_ (Kd.R_over' (by exact (kM_ (kG_ (kG_ (kG_ (kT_ HO_39.out BK348.out (by decide))))) (fun _ h_ => h_.1))) (Kd.R_typed (by exact (kM_ (kF_ (p := ⟨gb348, 2, none⟩) (kF_ (p := ⟨gb348, 1, none⟩) (kF_ (p := ⟨gb348, 0, none⟩) (kM_ HO_345000.out (fun k_ hk => (⟨hk, hk.2⟩ : _ ∧ k_ ≠ gb348))) (fun _ hk => hk.2) (.int .i64 (-1))) (fun _ hk => hk.2) (.int .i64 (-1))) (fun _ hk => hk.2) (.bool t347)) (fun _ h_ => h_.1)))) (by decide) hg); have n1_ := aM_ (blk_grown (g := gb333) (o := .cells #[.slice none 0 0] 36 (0, 0)) (by exact br_ NB333_348.out (br_ NB333_348.out (br_ NB333_348.out (BK333.out)))) hg (k6_ HO_345000.out BK333.out (by decide))); have n19_ := aM_ (SM.Is.grown (l := lm2) (by (with_reducible repeat (first | refine SM.Is.drewN ?_ _ | refine SM.Is.drew ?_ | refine SM.Is.alloc ?_ _)); refine SM.Is.far ?_ NBM_348.out _; (with_reducible repeat (first | refine SM.Is.drewN ?_ _ | refine SM.Is.drew ?_ | refine SM.Is.alloc ?_ _)); refine SM.Is.far ?_ NBM_348.out _; (with_reducible repeat (first | refine SM.Is.drewN ?_ _ | refine SM.Is.drew ?_ | refine SM.Is.alloc ?_ _)); refine SM.Is.far ?_ NBM_348.out _; (with_reducible repeat (first | refine SM.Is.drewN ?_ _ | refine SM.Is.drew ?_ | refine SM.Is.alloc ?_ _)); exact BKM.out) hg (SM.Is.ne BKM.out HO_345000.out)); have n2_ := aM_ (blk_grown (g := gb344) (o := .cells #[u345000] 36 (0, 0)) (by exact br_ NB344_348.out (br_ NB344_348.out (br_ NB344_348.out (BK344.out)))) hg (k6_ HO_345000.out BK344.out (by decide))); have n3_ := aM_ (blk_grown (g := gb348) (o := .cells #[.int .i64 (-1), .int .i64 (-1), .bool t347] 76 (0, 0)) (by refine bP_ (cs := #[.int .i64 (-1), .int .i64 (-1), .bool false]) ?_ 2 _ rfl; refine bP_ (cs := #[.int .i64 (-1), .int .i64 0, .bool false]) ?_ 1 _ rfl; refine bP_ (cs := #[.int .i64 0, .int .i64 0, .bool false]) ?_ 0 _ rfl; exact BK348.out) hg (Kd.R_away HO_345000.out (fun _ hk => hk.2))); have n4_ := aM_ (hb); have n5_ := aM_ (ho); clear HO_39; clear BKM; clear BK333; clear BK344; clear BK348; clear HB; clear HO_345000; have HO_39 := n0_; have BK333 := n1_; have BKM := n19_; have BK344 := n2_; have BK348 := n3_; have HB := n4_; have HO351 := n5_; clear n0_ n1_ n2_ n3_ n4_ n5_ n19_; clear ho hb hg hat; obtain ⟨Ao34, co34, eo34⟩ := kS_ HO351.out; subst eo34; have hcz35_0 := c0_ BK344; have hfz35_0 := bF_ BK344.out 0))
    go_roundg k2
    case measure => have := HK1.out; have := HK2.out; omega
    case rel => exact ⟨(wrap64 (x41_2 + 1)), (y349), (.slice Ao34 y349.length co34), (by rfl), H', ⟨by have := HK1.out; have := HK2.out; omega⟩, ⟨by exact kM_ (kG_ (kT_ HO_39.out BK344.out (by decide))) (fun _ hk => trivial)⟩, ⟨by exact kM_ (kG_ (kT_ HO351.out BK344.out (by decide))) (fun _ hk => trivial)⟩, ⟨by exact br_ NB333_344.out (BK333.out)⟩, ⟨by refine bP_ (cs := #[u345000]) ?_ 0 _ rfl; exact BK344.out⟩, ⟨by repeat with_reducible first | exact HB.out | apply bA_ | apply bN_ | apply bD_ | refine bS_ ?_ (Aside0.out ‹_›)⟩, ⟨by rw [SM.next_rd t341 x41_2 lm2 HLM2.out HLN.out HLL.out HLL2.out HSZ.out]; (with_reducible repeat (first | refine SM.Is.drewN ?_ _ | refine SM.Is.drew ?_ | refine SM.Is.alloc ?_ _)); refine SM.Is.far ?_ NBM_344.out _; (with_reducible repeat (first | refine SM.Is.drewN ?_ _ | refine SM.Is.drew ?_ | refine SM.Is.alloc ?_ _)); exact BKM.out⟩⟩
   rw [if_neg c25] at H
   have c25b0 : ((rdOf eB_ t341 x41_2).toList == ([] : List UInt8)) = false := beq_eq_false_iff_ne.mpr c25
   have c25b1 : ((rdOf eB_ t341 x41_2).toList != ([] : List UInt8)) = true := bne_iff_ne.mpr c25
   obtain ⟨ji36, hji36⟩ : ∃ j_ : Int, (wrap64 (((rdOf eB_ t341 x41_2).size : Int) - 1)) = j_ := ⟨_, rfl⟩
   replace H : (if 0 ≤ (ji36) then (if (ji36) < ((rdOf eB_ t341 x41_2).size : Int) then (if (ji36) ≤ ((rdOf eB_ t341 x41_2).size : Int) then (if x345000_2.length < 5864062014805 then (iF28.l2 k2 l0 t341 (t341.length : Int) (wrap64 (x41_2 + 1)) (x345000_2 ++ [(⟨((bt (rdOf eB_ t341 x41_2) (ji36)) - 97) % 256, SM.at_ (List.take ((x41_2 : Int).toNat + 1) t341) ((rdOf eB_ t341 x41_2).extract 0 ((ji36) : Int).toNat), t347⟩ : S76)])) else (none)) else (none)) else (none)) else (none)) = some r := by first | (rw [hji36] at H; exact H) | (simp only [hji36] at H ⊢; exact H)
   (try rw [hji36] at A24)
   have hji36w : (IntKind.i64.wrap (((rdOf eB_ t341 x41_2).size : Int) - 1)) = ji36 := (i6_ _).trans hji36
   obtain ⟨mv, hmv⟩ : ∃ m_ : Int, SM.at_ (List.take ((x41_2 : Int).toNat + 1) t341) ((rdOf eB_ t341 x41_2).extract 0 ((ji36) : Int).toNat) = m_ := ⟨_, rfl⟩
   rw [hmv] at H
   have HMV := aM_ hmv
   clear hmv
   by_cases c37 : 0 ≤ (ji36)
   rotate_left
   ·
    rw [if_neg c37] at H
    exact absurd H (by simp)
   rw [if_pos c37] at H
   have c37b0 := dT_ c37
   clear c37
   by_cases c38 : (ji36) < ((rdOf eB_ t341 x41_2).size : Int)
   rotate_left
   ·
    rw [if_neg c38] at H
    exact absurd H (by simp)
   rw [if_pos c38] at H
   have c38b0 := dT_ c38
   clear c38
   have c40b0 := eq_true (oD_ ‹_› : 0 ≤ (ji36))
   by_cases c41 : (ji36) ≤ ((rdOf eB_ t341 x41_2).size : Int)
   rotate_left
   ·
    rw [if_neg c41] at H
    exact absurd H (by simp)
   rw [if_pos c41] at H
   have c41b0 := eq_true c41
   have c41b1 := dT_ c41
   clear c41
   by_cases c42 : x345000_2.length < 5864062014805
   rotate_left
   ·
    rw [if_neg c42] at H
    exact absurd H (by simp)
   rw [if_pos c42] at H
   have LMc42 := aM_ c42
   clear c42
   obtain ⟨y352, hy352⟩ : ∃ y_ : List (S76), y_ = (x345000_2 ++ [(⟨((bt (rdOf eB_ t341 x41_2) (ji36)) - 97) % 256, mv, t347⟩ : S76)]) := ⟨_, rfl⟩
   replace H : (iF28.l2 k2 l0 t341 (t341.length : Int) (wrap64 (x41_2 + 1)) y352) = some r := by (try rw [hy352]); first | with_reducible exact H | with_reducible exact oS_ H | exact H
   have Ny352 := aM_ hy352
   clear hy352
   have H' := aM_ H
   clear H
   have p345 : 0 ≤ (x41_2 : Int) := oD_ ‹_›
   have q345 : x41_2 < (t341.length : Int) := oD_ ‹_›
   have HLL := aM_ (show (lm.length : Int) = x41_2 from by rw [HLM.out, List.length_take]; omega)
   have HLL2 := aM_ (show lm.length < t341.length from by rw [HLM.out, List.length_take]; omega)
   have HLP := aM_ (SM.okL.size HSZ.out x41_2 p345 q345)
   have HLN := aM_ (show lm ++ [rdOf eB_ t341 x41_2] = List.take ((x41_2 : Int).toNat + 1) t341 from by rw [HLM.out]; exact SM.take_rd t341 x41_2 p345 q345)
   have hwz_ : wrap64 ((bt (rdOf eB_ t341 x41_2) ji36 - 97) % 256) = (bt (rdOf eB_ t341 x41_2) ji36 - 97) % 256 := by unfold wrap64; omega
   obtain ⟨ad345, e345, hx345_0⟩ := Kd.at_string (kR_ HO_39.out).2.2 x41_2 p345 q345
   cases e345
   replace p345 := eq_true p345
   replace q345 := eq_true q345
   try go_wp2_with (first | (at_mapUpdate; refine SM.put rfl (.tmp 46) (.tmp 47) (.tmp 48) 106 Tryz.underlying106 rfl gbM lm rfl (by (with_reducible repeat (first | refine SM.Is.drewN ?_ _ | refine SM.Is.drew ?_ | refine SM.Is.alloc ?_ _)); exact BKM.out) ?hn (rdOf eB_ t341 x41_2) ?hp rfl ?hv ?_; (case hn => have h1_ := SM.okL.len HSZ.out; have h2_ := HLL2.out; omega); (case hp => have h1_ := HLP.out; unfold maxLen; omega); (case hv => exact (congrArg (Value.int IntKind.i64) HLL.out).symm); intro w9m h1m hgm; obtain ⟨lm2, hlm2⟩ : ∃ l_ : List ByteArray, l_ = lm ++ [rdOf eB_ t341 x41_2] := ⟨_, rfl⟩; rw [← hlm2] at h1m; have HLM2 := aM_ hlm2; clear hlm2; have nr0_ := aM_ (SM.R_over HO_39.out (by (with_reducible repeat (first | refine SM.Is.drewN ?_ _ | refine SM.Is.drew ?_ | refine SM.Is.alloc ?_ _)); exact BKM.out) hgm); have nr1_ := aM_ (SM.R_over HO_345000.out (by (with_reducible repeat (first | refine SM.Is.drewN ?_ _ | refine SM.Is.drew ?_ | refine SM.Is.alloc ?_ _)); exact BKM.out) hgm); have nb_ := aM_ (blk_grown (g := gb333) (o := .cells #[.slice none 0 0] 36 (0, 0)) BK333.out hgm (fun e_ => NBM_333.out (Option.some.inj e_).symm)); have nt_ := aM_ (blk_grown (g := gb344) BK344.out hgm (fun e_ => NBM_344.out (Option.some.inj e_).symm)); have nh_ := aM_ (RowKit.Below.grown HB.out hgm (bZ_ HB.out) (fun j hj => by cases hj; exact GEM.out)); clear HO_39 HO_345000 BK333 BK344 HB BKM; have HO_39 := nr0_; clear nr0_; have HO_345000 := nr1_; clear nr1_; have BK333 := nb_; have BK344 := nt_; have HB := nh_; have BKM := aM_ h1m; clear nb_ nt_ nh_ h1m hgm) | (refine gs_ 52 Tryz.func93 #[.slice A0 l0.length c0, .string (rdOf eB_ t341 x41_2)] ?_; (with_reducible refine (xF44.calls k2 _ _ l0 (rdOf eB_ t341 x41_2) t346 t347 _ ?side1 HC0.out A24.out).mono ?_); (case side1 => repeat (first | exact (k4_ HR0.out HB.out) | with_reducible first | apply cA_ | apply cN_ | apply cD_)); rintro e w' ⟨rfl, ⟨nd, rfl⟩⟩; refine ⟨_, rfl, ?_⟩; (try (rw [drewN_self wr]; generalize hq_ : World.drewN wr _ = wr; have n0_ : Aside0 (Kd.R k76 76 wr w.heap.size (fun _ => True) u345000 x345000_2) := ⟨by rw [← hq_]; exact (by (with_reducible repeat (first | apply k1_ | apply k2_ | apply k3_)); exact HO_345000.out)⟩; have n1_ : Aside0 (Kd.R Kd.string 9 wr w.heap.size (fun _ => True) (.slice (some ad345) t341.length co20) t341) := ⟨by rw [← hq_]; exact (by (with_reducible repeat (first | apply k1_ | apply k2_ | apply k3_)); exact HO_39.out)⟩; have n2_ : Aside0 (wr.heap[gb333]? = some (.cells #[.slice none 0 0] 36 (0, 0))) := ⟨by rw [← hq_]; exact (by (with_reducible repeat (first | refine b2_ ?_ _ | refine b1_ ?_ | refine b3_ ?_ _)); exact BK333.out)⟩; have n29_ : Aside0 (SM.Is wr gbM lm2) := ⟨by rw [← hq_]; exact (by (with_reducible repeat (first | refine SM.Is.drewN ?_ _ | refine SM.Is.drew ?_ | refine SM.Is.alloc ?_ _)); exact BKM.out)⟩; have n3_ : Aside0 (wr.heap[gb344]? = some (.cells #[u345000] 36 (0, 0))) := ⟨by rw [← hq_]; exact (by (with_reducible repeat (first | refine b2_ ?_ _ | refine b1_ ?_ | refine b3_ ?_ _)); exact BK344.out)⟩; have n4_ : Aside0 (Below w.heap.size w wr) := ⟨by rw [← hq_]; exact (by repeat with_reducible first | exact HB.out | apply bA_ | apply bN_ | apply bD_ | refine bS_ ?_ (Aside0.out ‹_›))⟩; clear HO_345000 HO_39 BKM BK333 BK344 HB hq_; have HO_345000 := n0_; have HO_39 := n1_; have BK333 := n2_; have BKM := n29_; have BK344 := n3_; have HB := n4_; clear n0_ n1_ n2_ n3_ n4_ n29_))) | (refine bx_ 13 #[.int .i64 0, .int .i64 0, .bool false] 76 ?_; intro gb348 hg w43 hbox hb; have n0_ := aM_ (kB_ (by (with_reducible repeat (first | apply k1_ | apply k2_ | apply k3_)); exact HO_39.out) hb); have n1_ := aM_ (kB_ (Kd.R_elderB (by (with_reducible repeat (first | apply k1_ | apply k2_ | apply k3_)); exact HO_345000.out) gb348 (Nat.le_of_eq hg.symm)) hb); have n2_ := aM_ (bB_ (g := gb333) (o := .cells #[.slice none 0 0] 36 (0, 0)) (by (with_reducible repeat (first | refine b2_ ?_ _ | refine b1_ ?_ | refine b3_ ?_ _)); exact BK333.out) hb); have n29_ := aM_ (SM.Is.below (l := lm2) (by (with_reducible repeat (first | refine SM.Is.drewN ?_ _ | refine SM.Is.drew ?_ | refine SM.Is.alloc ?_ _)); exact BKM.out) hb); have n3_ := aM_ (bB_ (g := gb344) (o := .cells #[u345000] 36 (0, 0)) (by (with_reducible repeat (first | refine b2_ ?_ _ | refine b1_ ?_ | refine b3_ ?_ _)); exact BK344.out) hb); have n4_ := aM_ (bT_ (by repeat with_reducible first | exact HB.out | apply bA_ | apply bN_ | apply bD_ | refine bS_ ?_ (Aside0.out ‹_›)) hb); have n5_ := aM_ (hbox); have n6_ := aM_ ((by rw [hg]; exact (bZ_ (by repeat with_reducible first | exact HB.out | apply bA_ | apply bN_ | apply bD_ | refine bS_ ?_ (Aside0.out ‹_›))) : w.heap.size ≤ gb348)); have n7_ := aM_ ((by rw [hg]; exact (bZ_ (by repeat with_reducible first | exact HB.out | apply bA_ | apply bN_ | apply bD_ | refine bS_ ?_ (Aside0.out ‹_›))) : w.heap.size ≤ gb348)); have n8_ := aM_ ((by rw [hg]; exact Nat.ne_of_lt (bL_ (g := gb333) (o := .cells #[.slice none 0 0] 36 (0, 0)) (by (with_reducible repeat (first | refine b2_ ?_ _ | refine b1_ ?_ | refine b3_ ?_ _)); exact BK333.out)) : gb333 ≠ gb348)); have n89_ := aM_ ((by rw [hg]; exact Nat.ne_of_lt (SM.Is.lt (l := lm2) (by (with_reducible repeat (first | refine SM.Is.drewN ?_ _ | refine SM.Is.drew ?_ | refine SM.Is.alloc ?_ _)); exact BKM.out)) : gbM ≠ gb348)); have n9_ := aM_ ((by rw [hg]; exact Nat.ne_of_gt (bL_ (g := gb333) (o := .cells #[.slice none 0 0] 36 (0, 0)) (by (with_reducible repeat (first | refine b2_ ?_ _ | refine b1_ ?_ | refine b3_ ?_ _)); exact BK333.out)) : gb348 ≠ gb333)); have n99_ := aM_ ((by rw [hg]; exact Nat.ne_of_gt (SM.Is.lt (l := lm2) (by (with_reducible repeat (first | refine SM.Is.drewN ?_ _ | refine SM.Is.drew ?_ | refine SM.Is.alloc ?_ _)); exact BKM.out)) : gb348 ≠ gbM)); have n10_ := aM_ ((by rw [hg]; exact Nat.ne_of_lt (bL_ (g := gb344) (o := .cells #[u345000] 36 (0, 0)) (by (with_reducible repeat (first | refine b2_ ?_ _ | refine b1_ ?_ | refine b3_ ?_ _)); exact BK344.out)) : gb344 ≠ gb348)); have n11_ := aM_ ((by rw [hg]; exact Nat.ne_of_gt (bL_ (g := gb344) (o := .cells #[u345000] 36 (0, 0)) (by (with_reducible repeat (first | refine b2_ ?_ _ | refine b1_ ?_ | refine b3_ ?_ _)); exact BK344.out)) : gb348 ≠ gb344)); clear HO_39; clear HO_345000; clear BKM; clear BK333; clear BK344; clear HB; have HO_39 := n0_; have HO_345000 := n1_; have BK333 := n2_; have BKM := n29_; have BK344 := n3_; have HB := n4_; have BK348 := n5_; have GW348 := n6_; have GW348 := n7_; have NB333_348 := n8_; have NBM_348 := n89_; have NB348_333 := n9_; have NB348_M := n99_; have NB344_348 := n10_; have NB348_344 := n11_; clear n0_ n1_ n2_ n3_ n4_ n5_ n6_ n7_ n8_ n9_ n10_ n11_ n29_ n89_ n99_; clear hb hbox hg; have hnb44 := NB348_333.out; have hnc44 := NB333_348.out; have hnb45 := NB348_344.out; have hnc45 := NB344_348.out; have hcz46_0 := c0_ BK348; have hcz46_1 := c1_ BK348; have hcz46_2 := c2_ BK348; have hfz46_0 := bF_ BK348.out 0; have hfz46_1 := bF_ BK348.out 1; have hfz46_2 := bF_ BK348.out 2))
   have n0_ : Aside0 (Kd.R Kd.string 9 (((w43.setCell ⟨gb348, 0, none⟩ (.int .i64 (-1))).setCell ⟨gb348, 1, none⟩ (.int .i64 (-1))).setCell ⟨gb348, 2, none⟩ (.bool t347)) w.heap.size (fun _ => True) (.slice (some ad345) t341.length co20) t341) := ⟨by exact kM_ (kG_ (kG_ (kG_ (kT_ HO_39.out BK348.out (by decide))))) (fun _ hk => trivial)⟩
   have n1_ : Aside0 (Kd.R k76 76 (((w43.setCell ⟨gb348, 0, none⟩ (.int .i64 (-1))).setCell ⟨gb348, 1, none⟩ (.int .i64 (-1))).setCell ⟨gb348, 2, none⟩ (.bool t347)) w.heap.size (fun k_ => k_ ≠ gb348) u345000 x345000_2) := ⟨by exact kM_ (kF_ (p := ⟨gb348, 2, none⟩) (kF_ (p := ⟨gb348, 1, none⟩) (kF_ (p := ⟨gb348, 0, none⟩) (kM_ HO_345000.out (fun k_ hk => (⟨hk, hk.2⟩ : _ ∧ k_ ≠ gb348))) (fun _ hk => hk.2) (.int .i64 (-1))) (fun _ hk => hk.2) (.int .i64 (-1))) (fun _ hk => hk.2) (.bool t347)) (fun _ hk => hk.1.2)⟩
   have n2_ : Aside0 ((((w43.setCell ⟨gb348, 0, none⟩ (.int .i64 (-1))).setCell ⟨gb348, 1, none⟩ (.int .i64 (-1))).setCell ⟨gb348, 2, none⟩ (.bool t347)).heap[gb333]? = some (.cells #[.slice none 0 0] 36 (0, 0))) := ⟨by exact br_ NB333_348.out (br_ NB333_348.out (br_ NB333_348.out (BK333.out)))⟩
   have n29_ : Aside0 (SM.Is (((w43.setCell ⟨gb348, 0, none⟩ (.int .i64 (-1))).setCell ⟨gb348, 1, none⟩ (.int .i64 (-1))).setCell ⟨gb348, 2, none⟩ (.bool t347)) gbM lm2) := ⟨by (with_reducible repeat (first | refine SM.Is.drewN ?_ _ | refine SM.Is.drew ?_ | refine SM.Is.alloc ?_ _)); refine SM.Is.far ?_ NBM_348.out _; (with_reducible repeat (first | refine SM.Is.drewN ?_ _ | refine SM.Is.drew ?_ | refine SM.Is.alloc ?_ _)); refine SM.Is.far ?_ NBM_348.out _; (with_reducible repeat (first | refine SM.Is.drewN ?_ _ | refine SM.Is.drew ?_ | refine SM.Is.alloc ?_ _)); refine SM.Is.far ?_ NBM_348.out _; (with_reducible repeat (first | refine SM.Is.drewN ?_ _ | refine SM.Is.drew ?_ | refine SM.Is.alloc ?_ _)); exact BKM.out⟩
   have n3_ : Aside0 ((((w43.setCell ⟨gb348, 0, none⟩ (.int .i64 (-1))).setCell ⟨gb348, 1, none⟩ (.int .i64 (-1))).setCell ⟨gb348, 2, none⟩ (.bool t347)).heap[gb344]? = some (.cells #[u345000] 36 (0, 0))) := ⟨by exact br_ NB344_348.out (br_ NB344_348.out (br_ NB344_348.out (BK344.out)))⟩
   have n4_ : Aside0 ((((w43.setCell ⟨gb348, 0, none⟩ (.int .i64 (-1))).setCell ⟨gb348, 1, none⟩ (.int .i64 (-1))).setCell ⟨gb348, 2, none⟩ (.bool t347)).heap[gb348]? = some (.cells #[.int .i64 (-1), .int .i64 (-1), .bool t347] 76 (0, 0))) := ⟨by refine bP_ (cs := #[.int .i64 (-1), .int .i64 (-1), .bool false]) ?_ 2 _ rfl; refine bP_ (cs := #[.int .i64 (-1), .int .i64 0, .bool false]) ?_ 1 _ rfl; refine bP_ (cs := #[.int .i64 0, .int .i64 0, .bool false]) ?_ 0 _ rfl; exact BK348.out⟩
   have n5_ : Aside0 (Below w.heap.size w (((w43.setCell ⟨gb348, 0, none⟩ (.int .i64 (-1))).setCell ⟨gb348, 1, none⟩ (.int .i64 (-1))).setCell ⟨gb348, 2, none⟩ (.bool t347))) := ⟨by repeat with_reducible first | exact HB.out | apply bA_ | apply bN_ | apply bD_ | refine bS_ ?_ (Aside0.out ‹_›)⟩
   (try clear HO_39)
   (try clear HO_345000)
   (try clear BK333); (try clear BKM)
   (try clear BK344)
   (try clear BK348)
   (try clear HB)
   generalize (((w43.setCell ⟨gb348, 0, none⟩ (.int .i64 (-1))).setCell ⟨gb348, 1, none⟩ (.int .i64 (-1))).setCell ⟨gb348, 2, none⟩ (.bool t347)) = w47 at n0_ n1_ n2_ n3_ n4_ n5_ n29_ ⊢
   have HO_39 := n0_
   have HO_345000 := n1_
   have BK333 := n2_
   have BKM := n29_
   have BK344 := n3_
   have BK348 := n4_
   have HB := n5_
   clear n0_ n1_ n2_ n3_ n4_ n5_ n29_
   have n0_ := aM_ (k3_ HO_39.out)
   have n1_ := aM_ (k3_ HO_345000.out)
   have n2_ := aM_ (b1_ BK333.out)
   have n29_ := aM_ (SM.Is.drew BKM.out)
   have n3_ := aM_ (b1_ BK344.out)
   have n4_ := aM_ (b1_ BK348.out)
   have n5_ := aM_ (bD_ HB.out)
   clear HO_39
   clear HO_345000
   clear BKM; clear BK333
   clear BK344
   clear BK348
   clear HB
   have HO_39 := n0_
   have HO_345000 := n1_
   have BK333 := n2_
   have BKM := n29_
   have BK344 := n3_
   have BK348 := n4_
   have HB := n5_
   clear n0_ n1_ n2_ n3_ n4_ n5_ n29_
   have p39 : 0 ≤ ((ji36) : Int) := oD_ ‹_›
   have q39 : (ji36) < ((rdOf eB_ t341 x41_2).size : Int) := oD_ ‹_›
   have hx39 := bt_at (rdOf eB_ t341 x41_2) (ji36)
   replace p39 := eq_true p39
   replace q39 := eq_true q39
   refine start_ (n := 18) (S := fun w' => SM.Is w' gbM lm2) (ds := []) #[fy, fy, fy, fy, fy, fy, fy, fy, fy, fy, fy, fy, fy, fy, fy, fy, fy, fy] (by kernel_rfl) rfl rfl (SM.Is.drew BKM.out) (fun hHeld => ?_); refine with_tabW iF28.tab20 iF28.bits20 (fun HT_ HW_ => ?_)
   generalize w47.drew = w48 at HO_39 HO_345000 BKM BK333 BK344 BK348 HB hHeld ⊢
   refine pu_ HT_ 0 59 #[ty, fy, fy, fy, fy, fy, fy, fy, fy, fy, fy, fy, fy, fy, fy, fy, fy, fy] ?_
   refine pu_ HT_ 1 60 #[ty, ty, fy, fy, fy, fy, fy, fy, fy, fy, fy, fy, fy, fy, fy, fy, fy, fy] ?_
   refine pu_ HT_ 2 61 #[ty, ty, ty, fy, fy, fy, fy, fy, fy, fy, fy, fy, fy, fy, fy, fy, fy, fy] ?_
   refine pu_ HT_ 3 62 #[ty, ty, ty, ty, fy, fy, fy, fy, fy, fy, fy, fy, fy, fy, fy, fy, fy, fy] ?_
   refine pu_ HT_ 7 66 #[ty, ty, ty, ty, fy, fy, fy, ty, fy, fy, fy, fy, fy, fy, fy, fy, fy, fy] ?_
   refine pu_ HT_ 8 67 #[ty, ty, ty, ty, fy, fy, fy, ty, ty, fy, fy, fy, fy, fy, fy, fy, fy, fy] ?_
   refine pu_ HT_ 9 68 #[ty, ty, ty, ty, fy, fy, fy, ty, ty, ty, fy, fy, fy, fy, fy, fy, fy, fy] ?_
   refine pu_ HT_ 10 69 #[ty, ty, ty, ty, fy, fy, fy, ty, ty, ty, ty, fy, fy, fy, fy, fy, fy, fy] ?_
   refine pu_ HT_ 11 70 #[ty, ty, ty, ty, fy, fy, fy, ty, ty, ty, ty, ty, fy, fy, fy, fy, fy, fy] ?_
   refine pu_ HT_ 12 71 #[ty, ty, ty, ty, fy, fy, fy, ty, ty, ty, ty, ty, ty, fy, fy, fy, fy, fy] ?_
   refine take_ (i := 13) (N := some 72) (v := ?_) (a' := ?_) #[ty, ty, ty, ty, fy, fy, fy, ty, ty, ty, ty, ty, ty, ty, fy, fy, fy, fy] rfl rfl (tW_ HT_.out HW_.out (by kernel_rfl)) (fun _ _ _ h => h) (Or.inl ⟨by rfl, ?_⟩) hHeld ?_ ?_
   rotate_left
   ·
    intro w' hS_
    have hlk_ := SM.get hS_ 106 Tryz.underlying106 ((rdOf eB_ t341 x41_2).extract 0 ((ji36) : Int).toNat) (SM.size_ext _ _ HLP.out)
    rw [show SM.at_ lm2 ((rdOf eB_ t341 x41_2).extract 0 ((ji36) : Int).toNat) = mv from by rw [HLM2.out, HLN.out]; exact HMV.out] at hlk_
    go_simp
    with_reducible rfl
   rotate_left
   ·
    simp only [Act.put, sA_, sB_, sC_, i6_, i3_]
    rfl
   refine take_ (i := 4) (N := some 63) (v := ?_) (a' := ?_) #[ty, ty, ty, ty, ty, fy, fy, ty, ty, ty, ty, ty, ty, ty, fy, fy, fy, fy] rfl rfl (tW_ HT_.out HW_.out (by kernel_rfl)) (fun _ _ _ h => h) (Or.inl ⟨by rfl, ?_⟩) hHeld ?_ ?_; rotate_left; (intro w' _; go_simp; with_reducible rfl); rotate_left; (simp only [Act.put, sA_, sB_, sC_, i6_, i3_]; rfl)
   refine pu_ HT_ 5 64 #[ty, ty, ty, ty, ty, ty, fy, ty, ty, ty, ty, ty, ty, ty, fy, fy, fy, fy] ?_
   refine pu_ HT_ 6 65 #[ty, ty, ty, ty, ty, ty, ty, ty, ty, ty, ty, ty, ty, ty, fy, fy, fy, fy] ?_
   refine pu_ HT_ 14 73 #[ty, ty, ty, ty, ty, ty, ty, ty, ty, ty, ty, ty, ty, ty, ty, fy, fy, fy] ?_
   refine one_ (i := 15) (N := none) #[ty, ty, ty, ty, ty, ty, ty, ty, ty, ty, ty, ty, ty, ty, ty, ty, fy, fy] rfl rfl (one_of HT_.out (by kernel_rfl)) (by decide) (fun K hK => ?_)
   have hs49 : w48.cell? ⟨gb348, 0, none⟩ = some (.int .i64 (-1)) := (bC_ BK348.out 0).trans rfl
   have hfs49 := bF_ BK348.out 0
   have hns49_0 := NB333_348.out
   have hns49_1 := NB344_348.out
   have hms49_0 := NB348_333.out
   have hms49_1 := NB348_344.out
   refine skip_ (w1 := ?_) (by rfl) rfl ?_ ?_
   rotate_left
   ·
    go_simp
    rfl
   refine hK.out _ _ (by exact SM.Is.far hHeld NBM_348.out _) (fun hHeld => ?_)
   clear hK K
   refine pu_ HT_ 16 74 #[ty, ty, ty, ty, ty, ty, ty, ty, ty, ty, ty, ty, ty, ty, ty, ty, ty, fy] ?_
   refine one_ (i := 17) (N := none) #[ty, ty, ty, ty, ty, ty, ty, ty, ty, ty, ty, ty, ty, ty, ty, ty, ty, ty] rfl rfl (one_of HT_.out (by kernel_rfl)) (by decide) (fun K hK => ?_)
   have hs50 : w48.cell? ⟨gb348, 1, none⟩ = some (.int .i64 (-1)) := (bC_ BK348.out 1).trans rfl
   have hfs50 := bF_ BK348.out 1
   have hns50_0 := NB333_348.out
   have hns50_1 := NB344_348.out
   have hms50_0 := NB348_333.out
   have hms50_1 := NB348_344.out
   refine skip_ (w1 := ?_) (by rfl) rfl ?_ ?_
   rotate_left
   ·
    go_simp
    rfl
   refine hK.out _ _ (by exact SM.Is.far hHeld NBM_348.out _) (fun hHeld => ?_)
   clear hK K
   refine done_ (done_of HT_.out (by kernel_rfl)) ?_
   have hnb51 := NB344_333.out
   have hnc51 := NB333_344.out
   have hcz52_0 := c0_ BK344
   have hfz52_0 := bF_ BK344.out 0
   have hcz53_0 := c0_ BK348
   have hcz53_1 := c1_ BK348
   have hcz53_2 := c2_ BK348
   have hfz53_0 := bF_ BK348.out 0
   have hfz53_1 := bF_ BK348.out 1
   have hfz53_2 := bF_ BK348.out 2
   try go_wp2_with (first | ((with_reducible refine gate_builtin (b := .append) (xs := #[.tmp 76, .tmp 78]) rfl ?_); at_builtin; refine Kd.R_append k76 (w0 := w) w.heap.size rfl (.tmp 76) (.tmp 78) 34 76 (.agg #[(.int .i64 0), (.int .i64 0), (.bool false)]) 24 rfl Tryz.underlying34 info76 rfl (by decide) (by omega) u345000 x345000_2 (⟨((bt (rdOf eB_ t341 x41_2) (ji36)) - 97) % 256, mv, t347⟩ : S76) [.int .i64 (((bt (rdOf eB_ t341 x41_2) (ji36)) - 97) % 256), .int .i64 mv, .bool t347] (fun k_ => k_ ≠ gb348) (fun _ => False) rfl (by (go_simp; done)) ?aP (fun _ hk => hk.elim) ?aF ?aO ?aB ?aS ?aL ?_; (case aP => exact k76_mkM _ _ _ (⟨((bt (rdOf eB_ t341 x41_2) (ji36)) - 97) % 256, mv, t347⟩ : S76)); (case aB => exact (by repeat with_reducible first | exact HB.out | apply bA_ | apply bN_ | apply bD_ | refine bS_ ?_ (Aside0.out ‹_›))); (case aF => exact (fun k_ hk => Kd.freshB (g := gb348) (o := .cells #[.int .i64 (((bt (rdOf eB_ t341 x41_2) (ji36)) - 97) % 256), .int .i64 mv, .bool t347] 76 (0, 0)) (by refine bP_ (cs := #[.int .i64 (((bt (rdOf eB_ t341 x41_2) (ji36)) - 97) % 256), .int .i64 (-1), .bool t347]) ?_ 1 _ rfl; refine bP_ (cs := #[.int .i64 (-1), .int .i64 (-1), .bool t347]) ?_ 0 _ rfl; exact BK348.out) k_ hk)); (case aO => exact (by exact kM_ (kF_ (p := ⟨gb348, 1, none⟩) (kF_ (p := ⟨gb348, 0, none⟩) (kM_ HO_345000.out (fun k_ hk => (⟨hk, hk⟩ : _ ∧ k_ ≠ gb348))) (fun _ hk => hk.2) (.int .i64 (((bt (rdOf eB_ t341 x41_2) (ji36)) - 97) % 256))) (fun _ hk => hk.2) (.int .i64 mv)) (fun _ hk => hk.1))); (case aS => exact (bZ_ (by repeat with_reducible first | exact HB.out | apply bA_ | apply bN_ | apply bD_ | refine bS_ ?_ (Aside0.out ‹_›)))); (case aL => have := LMc42.out; omega); intro v353 w54 ho hb hg hat; rw [← Ny352.out] at ho; have n0_ := aM_ (Kd.R_over' (by exact (kM_ (kG_ (kG_ (kT_ HO_39.out BK348.out (by decide)))) (fun _ h_ => h_.1))) (Kd.R_typed (by exact (kM_ (kF_ (p := ⟨gb348, 1, none⟩) (kF_ (p := ⟨gb348, 0, none⟩) (kM_ HO_345000.out (fun k_ hk => (⟨hk, hk⟩ : _ ∧ k_ ≠ gb348))) (fun _ hk => hk.2) (.int .i64 (((bt (rdOf eB_ t341 x41_2) (ji36)) - 97) % 256))) (fun _ hk => hk.2) (.int .i64 mv)) (fun _ h_ => h_.1)))) (by decide) hg); have n1_ := aM_ (blk_grown (g := gb333) (o := .cells #[.slice none 0 0] 36 (0, 0)) (by exact br_ NB333_348.out (br_ NB333_348.out (BK333.out))) hg (k6_ HO_345000.out BK333.out (by decide))); have n19_ := aM_ (SM.Is.grown (l := lm2) (by (with_reducible repeat (first | refine SM.Is.drewN ?_ _ | refine SM.Is.drew ?_ | refine SM.Is.alloc ?_ _)); refine SM.Is.far ?_ NBM_348.out _; (with_reducible repeat (first | refine SM.Is.drewN ?_ _ | refine SM.Is.drew ?_ | refine SM.Is.alloc ?_ _)); refine SM.Is.far ?_ NBM_348.out _; (with_reducible repeat (first | refine SM.Is.drewN ?_ _ | refine SM.Is.drew ?_ | refine SM.Is.alloc ?_ _)); exact BKM.out) hg (SM.Is.ne BKM.out HO_345000.out)); have n2_ := aM_ (blk_grown (g := gb344) (o := .cells #[u345000] 36 (0, 0)) (by exact br_ NB344_348.out (br_ NB344_348.out (BK344.out))) hg (k6_ HO_345000.out BK344.out (by decide))); have n3_ := aM_ (blk_grown (g := gb348) (o := .cells #[.int .i64 (((bt (rdOf eB_ t341 x41_2) (ji36)) - 97) % 256), .int .i64 mv, .bool t347] 76 (0, 0)) (by refine bP_ (cs := #[.int .i64 (((bt (rdOf eB_ t341 x41_2) (ji36)) - 97) % 256), .int .i64 (-1), .bool t347]) ?_ 1 _ rfl; refine bP_ (cs := #[.int .i64 (-1), .int .i64 (-1), .bool t347]) ?_ 0 _ rfl; exact BK348.out) hg (Kd.R_away HO_345000.out (fun _ hk => hk))); have n4_ := aM_ (hb); have n5_ := aM_ (ho); clear HO_39; clear BKM; clear BK333; clear BK344; clear BK348; clear HB; clear HO_345000; have HO_39 := n0_; have BK333 := n1_; have BKM := n19_; have BK344 := n2_; have BK348 := n3_; have HB := n4_; have HO354 := n5_; clear n0_ n1_ n2_ n3_ n4_ n5_ n19_; clear ho hb hg hat; obtain ⟨Ao55, co55, eo55⟩ := kS_ HO354.out; subst eo55; have hcz56_0 := c0_ BK344; have hfz56_0 := bF_ BK344.out 0))
   go_roundg k2
   case measure => have := HK1.out; have := HK2.out; omega
   case rel => exact ⟨(wrap64 (x41_2 + 1)), (y352), (.slice Ao55 y352.length co55), (by rfl), H', ⟨by have := HK1.out; have := HK2.out; omega⟩, ⟨by exact kM_ (kG_ (kT_ HO_39.out BK344.out (by decide))) (fun _ hk => trivial)⟩, ⟨by exact kM_ (kG_ (kT_ HO354.out BK344.out (by decide))) (fun _ hk => trivial)⟩, ⟨by exact br_ NB333_344.out (BK333.out)⟩, ⟨by refine bP_ (cs := #[u345000]) ?_ 0 _ rfl; exact BK344.out⟩, ⟨by repeat with_reducible first | exact HB.out | apply bA_ | apply bN_ | apply bD_ | refine bS_ ?_ (Aside0.out ‹_›)⟩, ⟨by rw [SM.next_rd t341 x41_2 lm2 HLM2.out HLN.out HLL.out HLL2.out HSZ.out]; (with_reducible repeat (first | refine SM.Is.drewN ?_ _ | refine SM.Is.drew ?_ | refine SM.Is.alloc ?_ _)); refine SM.Is.far ?_ NBM_344.out _; (with_reducible repeat (first | refine SM.Is.drewN ?_ _ | refine SM.Is.drew ?_ | refine SM.Is.alloc ?_ _)); exact BKM.out⟩⟩
def iF26.f (k : Nat) (l0 : List ByteArray) : Option ((List (S76)) × Bool) := (iF27.f l0).bind fun t356 => (if (t356.length : Int) > 40 then (some (([] : List (S76)), false)) else ((iF28.f k t356).bind fun t359 => (some (t359, true))))
theorem iF26.mono : ∀ a0 k, LeO (iF26.f k a0) (iF26.f (k + 1) a0) := by
 intro a0 k
 unfold iF26.f
 repeat' with_reducible first | exact iF28.mono _ _ | exact l3_ _ | exact l0_ _ | refine l2_ ?_ ?_ | refine l1_ ?_ (fun _ => ?_)
theorem iF26.calls (k : Nat) (A0 : Option Addr) (c0 : Nat) (l0 : List ByteArray) (r1 : List (S76)) (r2 : Bool) (w : World) (hr0 : Kd.C Kd.string w A0 l0.length l0) (hc0 : l0.length ≤ c0) (h : iF26.f k l0 = some (r1, r2)) :
  Calls Tryz.prog 61 #[.slice A0 l0.length c0] w fun e w' => ∃ v0_ : Value, e = .returned (.tuple #[.agg #[v0_], .bool r2]) ∧ Kd.R k76 76 w' w.heap.size (fun _ => True) v0_ r1 ∧ Below w.heap.size w w' := by
 have hu36 := Tryz.underlying36
 have HR0 := aM_ hr0
 have HC0 := aM_ hc0
 clear hr0 hc0
 have HB := aM_ (Below.refl w.heap.size w)
 have H : ((iF27.f l0).bind fun t356 => (if (t356.length : Int) > 40 then (some (([] : List (S76)), false)) else ((iF28.f k t356).bind fun t359 => (some (t359, true))))) = some (r1, r2) := h
 clear h
 replace H := oB_.mp H
 obtain ⟨t356, A20, H⟩ := H
 try dsimp only at H
 have A2 := aM_ A20
 clear A20
 by_cases c3 : (t356.length : Int) > 40
 ·
  rw [if_pos c3] at H
  have c3b0 := dT_ c3
  have c3b1 : decide (40 < t356.length) = true := dT_ (by omega)
  clear c3
  simp only [Option.some.injEq, Prod.mk.injEq] at H
  obtain ⟨rfl, rfl⟩ := H
  go_enter Tryz.func61, Tryz.ntmps61
  go_wp2_with (first | (refine bx_ 2 #[.slice none 0 0] 36 ?_; intro gb355 hg w4 hbox hb; have BK355 := aM_ (hbox); have GW355 := gw_ hg HB; replace HB := b4_ HB hb; clear hb hbox hg) | (refine gs_ 6 Tryz.func82 #[.slice A0 l0.length c0] ?_; (with_reducible refine (iF27.calls _ _ l0 t356 _ ?side1 HC0.out A2.out).mono ?_); (case side1 => repeat (first | exact (k4_ HR0.out HB.out) | with_reducible first | apply cA_ | apply cN_ | apply cD_)); rintro e w5 ⟨v357, rfl, ho0, hb⟩; refine ⟨_, rfl, ?_⟩; have HO358 := aM_ (k5_ ho0 (bZ_ HB.out)); replace BK355 := b5_ BK355 hb; replace HB := b4_ HB hb; (try clear hb); (try clear ho0); obtain ⟨Ao6, co6, eo6⟩ := kS_ HO358.out; subst eo6; have hcz7_0 := c0_ BK355; have hfz7_0 := bF_ BK355.out 0))
  refine bodyPost_ret (results_ct rfl _ _ gb355 36 #[.slice none 0 0] (0, 0) _ rfl (by refine bP_ (cs := #[.slice none 0 0]) ?_ 0 _ rfl; exact BK355.out) Tryz.underlying36 rfl (by kernel_rfl)) rfl ?_
  exact ⟨_, by rfl, by exact Kd.R_nil _ _ _ _ _, by repeat with_reducible first | exact HB.out | apply bA_ | apply bN_ | apply bD_ | refine bS_ ?_ GW355.out⟩
 rw [if_neg c3] at H
 have c3b0 := dF_ c3
 have c3b1 : decide (40 < t356.length) = false := dF_ (by omega)
 clear c3
 replace H := oB_.mp H
 obtain ⟨t359, A80, H⟩ := H
 try dsimp only at H
 have A8 := aM_ A80
 clear A80
 simp only [Option.some.injEq, Prod.mk.injEq] at H
 obtain ⟨rfl, rfl⟩ := H
 go_enter Tryz.func61, Tryz.ntmps61
 go_wp2_with (first | (refine bx_ 2 #[.slice none 0 0] 36 ?_; intro gb355 hg w9 hbox hb; have BK355 := aM_ (hbox); have GW355 := gw_ hg HB; replace HB := b4_ HB hb; clear hb hbox hg) | (refine gs_ 6 Tryz.func82 #[.slice A0 l0.length c0] ?_; (with_reducible refine (iF27.calls _ _ l0 t356 _ ?side1 HC0.out A2.out).mono ?_); (case side1 => repeat (first | exact (k4_ HR0.out HB.out) | with_reducible first | apply cA_ | apply cN_ | apply cD_)); rintro e w10 ⟨v357, rfl, ho0, hb⟩; refine ⟨_, rfl, ?_⟩; have HO358 := aM_ (k5_ ho0 (bZ_ HB.out)); replace BK355 := b5_ BK355 hb; replace HB := b4_ HB hb; (try clear hb); (try clear ho0); obtain ⟨Ao11, co11, eo11⟩ := kS_ HO358.out; subst eo11) | (refine gs_ 12 Tryz.func79 #[.slice Ao11 t356.length co11] ?_; (with_reducible refine (iF28.calls k _ _ t356 t359 _ ?side1 ?side2 A8.out).mono ?_); (case side1 => repeat (first | exact (kR_ HO358.out).2.2 | with_reducible first | apply cA_ | apply cN_ | apply cD_)); (case side2 => exact (kR_ HO358.out).2.1); rintro e w12 ⟨v360, rfl, ho0, hb⟩; refine ⟨_, rfl, ?_⟩; replace HO358 := k9_ HO358 hb; have HO361 := aM_ (k5_ ho0 (bZ_ HB.out)); replace BK355 := b5_ BK355 hb; replace HB := b4_ HB hb; (try clear hb); (try clear ho0); obtain ⟨Ao13, co13, eo13⟩ := kS_ HO361.out; subst eo13; have hcz14_0 := c0_ BK355; have hfz14_0 := bF_ BK355.out 0))
 refine bodyPost_ret (results_ct rfl _ _ gb355 36 #[.slice Ao13 t359.length co13] (0, 0) _ rfl (by refine bP_ (cs := #[.slice none 0 0]) ?_ 0 _ rfl; exact BK355.out) Tryz.underlying36 rfl (by kernel_rfl)) rfl ?_
 exact ⟨_, by rfl, by exact kM_ (kG_ (kT_ HO361.out BK355.out (by decide))) (fun _ hk => trivial), by repeat with_reducible first | exact HB.out | apply bA_ | apply bN_ | apply bD_ | refine bS_ ?_ GW355.out⟩
end Go.Proofs.YtfhffcefpnkllaaGreatDoor.P
namespace Go.Proofs.YtfhffcefpnkllaaGreatDoor.P
open Go.RowKit Go.Proofs.YtfhffcefpnkllaaGreatDoorW.PrintWords Go.Proofs.YtfhffcefpnkllaaGreatDoorW.PrintLast Go.Proofs.YtfhffcefpnkllaaGreatDoorW.PrintMore
open Go.Proofs.YtfhffcefpnkllaaGreatDoorW.PrintWords renaming blk_frozen → bF_, blk_cell → bC_, below_set → bS_, blk_below → bB_, below_step → bT_, pw_below_drewN → bN_, below_size → bZ_, below_drew1 → bD_, below_alloc → bA_, blk_far → bR_, gate_callee → gC_, gate_dst → gD_, box_event → bE_, blk_drew → b1_, blk_put → bP_, blk_drewN → b2_, blk_alloc → b3_, blk_lt → bL_, cell_far → cF_
open Go.Proofs.YtfhffcefpnkllaaGreatDoorW.PrintLast renaming any_of → aO_, i64_w → i6_, i32_w → i3_, take_ofW → tW_
open Go.Proofs.YtfhffcefpnkllaaGreatDoorW.PrintWords.Kd renaming R_below → kB_, R_mono → kM_, R_far → kF_, R_reads' → kR_, R_types → kT_, R_slice → kS_, R_celln → kC_, R_alloc → k1_, R_drewN → k2_, R_drew → k3_, C_below → k4_, R_lower → k5_, R_ne → k6_, own_blk → k7_
open Go.Proofs.YtfhffcefpnkllaaGreatDoorW.PrintWords.LeO renaming none → l0_, bind → l1_, ite → l2_, refl → l3_
open World renaming block_lt_of_cell? → wB_
open _root_.Option renaming bind_eq_some_iff → oB_
open _root_.ByteArray renaming empty → eB_
open List renaming setIfInBounds_toArray → sA_, set_cons_zero → sB_, set_cons_succ → sC_, map_toArray → sD_, map_cons → sE_, map_nil → sF_, length_drop → sG_, length_take → sH_
open Bool renaming true → ty, false → fy
open Aside0 renaming mk → aM_
attribute [local go_sem] max2_int min2_int max_two min_two max_three min_three max_four min_four
attribute [local go_sem high] eqA60
def iF6.l0 : Nat → List (S60) → List (S60) → Int → Int → Option (Bool)
 | 0, _, _, _, _ => none
 | k + 1, x0, x1, x12, x13 => if x13 < x12 then (if 0 ≤ x13 then (if x13 < (x0.length : Int) then (if x13 < (x1.length : Int) then (if (!((((rd_T60 x0 x13).f0).toList) == (((rd_T60 x1 x13).f0).toList)) || (!(((rd_T60 x0 x13).f1) == ((rd_T60 x1 x13).f1)) || (!(((rd_T60 x0 x13).f2) == ((rd_T60 x1 x13).f2))))) = true then (some false) else (iF6.l0 k x0 x1 x12 (wrap64 (x13 + 1)))) else (none)) else (none)) else (none)) else (some true)
def iF6.f (k : Nat) (l0 : List (S60)) (l1 : List (S60)) : Option (Bool) := if (l0.length : Int) = (l1.length : Int) then (iF6.l0 k l0 l1 (l0.length : Int) 0) else (some false)
theorem iF6.mono_l : ∀ k, (∀ y0 y1 y2 y3, LeO (iF6.l0 k y0 y1 y2 y3) (iF6.l0 (k + 1) y0 y1 y2 y3))
 | 0 => fun _ _ _ _ r h => by simp [iF6.l0] at h
 | k + 1 => by
  have ih0 := iF6.mono_l k
  intro y0 y1 y2 y3
  unfold iF6.l0
  repeat' with_reducible first | exact ih0 _ _ _ _ | exact l3_ _ | exact l0_ _ | refine l2_ ?_ ?_ | refine l1_ ?_ (fun _ => ?_)
theorem iF6.mono : ∀ a0 a1 k, LeO (iF6.f k a0 a1) (iF6.f (k + 1) a0 a1) := by
 intro a0 a1 k
 have ih0 := iF6.mono_l k
 unfold iF6.f
 repeat' with_reducible first | exact ih0 _ _ _ _ | exact l3_ _ | exact l0_ _ | refine l2_ ?_ ?_ | refine l1_ ?_ (fun _ => ?_)
theorem iF6.calls (k : Nat) (A0 : Option Addr) (c0 : Nat) (l0 : List (S60)) (A1 : Option Addr) (c1 : Nat) (l1 : List (S60)) (r : Bool) (w : World) (hr0 : Kd.C k60 w A0 l0.length l0) (hc0 : l0.length ≤ c0) (hr1 : Kd.C k60 w A1 l1.length l1) (hc1 : l1.length ≤ c1) (h : iF6.f k l0 l1 = some r) :
  Calls Tryz.prog 62 #[.slice A0 l0.length c0, .slice A1 l1.length c1] w fun e w' => e = .returned (.bool r) ∧ Drawn0 w w' := by
 have hu60 := Tryz.underlying60
 have HR0 := aM_ hr0
 have HC0 := aM_ hc0
 clear hr0 hc0
 have HR1 := aM_ hr1
 have HC1 := aM_ hc1
 clear hr1 hc1
 have H : (if (l0.length : Int) = (l1.length : Int) then (iF6.l0 k l0 l1 (l0.length : Int) 0) else (some false)) = some r := h
 clear h
 by_cases c3 : (l0.length : Int) = (l1.length : Int)
 rotate_left
 ·
  rw [if_neg c3] at H
  have c3b0 : ((l0.length : Int) == (l1.length : Int)) = false := beq_eq_false_iff_ne.mpr c3
  have c3b1 : ((l0.length : Int) != (l1.length : Int)) = true := bne_iff_ne.mpr c3
  have c3b2 : (l0.length == l1.length) = false := by first | simpa using c3 | (simp at c3 ⊢; omega)
  obtain rfl := Option.some.inj H
  go_enter Tryz.func62, Tryz.ntmps62
  go_wp2
  repeat (go_quiet (fail); try go_wp2)
  go_ret
  exact ⟨by rfl, by repeat (first | exact Drawn0.refl _ | apply Drawn0.step)⟩
 rw [if_pos c3] at H
 have c3b0 : ((l0.length : Int) == (l1.length : Int)) = true := beq_iff_eq.mpr c3
 have c3b1 : ((l0.length : Int) != (l1.length : Int)) = false := bne_eq_false_iff_eq.mpr c3
 have c3b2 : (l0.length == l1.length) = true := by first | simpa using c3 | (simp at c3 ⊢; omega)
 clear c3
 have H' := aM_ H
 clear H
 go_enter Tryz.func62, Tryz.ntmps62
 go_wp2
 repeat (go_quiet (fail); try go_wp2)
 go_loopg [13] k (fun kq v13 w' => ∃ (x13_1 : Int), v13 = .int .i64 x13_1 ∧ Aside0 (iF6.l0 kq l0 l1 (l0.length : Int) x13_1 = some r) ∧ Aside0 (kq ≤ k) ∧ Drawn0 w w')
 case atStart => exact ⟨(0), (by rfl), H', ⟨Nat.le_refl _⟩, by repeat (first | exact Drawn0.refl _ | apply Drawn0.step)⟩
 clear H'
 try clear p2
 try clear c3b0
 try clear c3b1
 try clear c3b2
 obtain ⟨x13_1, rfl, HA, HK1, ⟨m1, rfl⟩⟩ := hrel
 cases gk with
 | zero => exact absurd HA.out (by simp [iF6.l0])
 | succ k1 =>
  have H := HA.out
  clear HA
  simp only [iF6.l0] at H
  by_cases c4 : x13_1 < (l0.length : Int)
  rotate_left
  ·
   rw [if_neg c4] at H
   have c4b0 := dF_ c4
   clear c4
   obtain rfl := Option.some.inj H
   go_wp2
   repeat (go_quiet (fail); try go_wp2)
   go_ret
   exact ⟨by rfl, by repeat (first | exact Drawn0.refl _ | apply Drawn0.step)⟩
  rw [if_pos c4] at H
  have c4b0 := dT_ c4
  clear c4
  by_cases c5 : 0 ≤ x13_1
  rotate_left
  ·
   rw [if_neg c5] at H
   exact absurd H (by simp)
  rw [if_pos c5] at H
  have c5b0 := dT_ c5
  clear c5
  by_cases c6 : x13_1 < (l0.length : Int)
  rotate_left
  ·
   rw [if_neg c6] at H
   exact absurd H (by simp)
  rw [if_pos c6] at H
  have c6b0 := dT_ c6
  clear c6
  by_cases c7 : x13_1 < (l1.length : Int)
  rotate_left
  ·
   rw [if_neg c7] at H
   exact absurd H (by simp)
  rw [if_pos c7] at H
  have c7b0 := dT_ c7
  clear c7
  by_cases c8 : (!((((rd_T60 l0 x13_1).f0).toList) == (((rd_T60 l1 x13_1).f0).toList)) || (!(((rd_T60 l0 x13_1).f1) == ((rd_T60 l1 x13_1).f1)) || (!(((rd_T60 l0 x13_1).f2) == ((rd_T60 l1 x13_1).f2))))) = true
  ·
   rw [if_pos c8] at H
   have c8b0 : (!((((rd_T60 l0 x13_1).f0).toList) == (((rd_T60 l1 x13_1).f0).toList)) || (!(((rd_T60 l0 x13_1).f1) == ((rd_T60 l1 x13_1).f1)) || (!(((rd_T60 l0 x13_1).f2) == ((rd_T60 l1 x13_1).f2))))) = true := c8
   clear c8
   obtain rfl := Option.some.inj H
   have p362 : 0 ≤ (x13_1 : Int) := oD_ ‹_›
   have q362 : x13_1 < (l0.length : Int) := oD_ ‹_›
   obtain ⟨ad362, e362, hx362_0, hx362_1, hx362_2⟩ := at_T60 HR0.out x13_1 p362 q362
   cases e362
   replace p362 := eq_true p362
   replace q362 := eq_true q362
   have p363 : 0 ≤ (x13_1 : Int) := oD_ ‹_›
   have q363 : x13_1 < (l1.length : Int) := oD_ ‹_›
   obtain ⟨ad363, e363, hx363_0, hx363_1, hx363_2⟩ := at_T60 HR1.out x13_1 p363 q363
   cases e363
   replace p363 := eq_true p363
   replace q363 := eq_true q363
   go_wp2
   repeat (go_quiet (fail); try go_wp2)
   go_ret
   exact ⟨by rfl, by repeat (first | exact Drawn0.refl _ | apply Drawn0.step)⟩
  rw [if_neg c8] at H
  have c8b0 : (!((((rd_T60 l0 x13_1).f0).toList) == (((rd_T60 l1 x13_1).f0).toList)) || (!(((rd_T60 l0 x13_1).f1) == ((rd_T60 l1 x13_1).f1)) || (!(((rd_T60 l0 x13_1).f2) == ((rd_T60 l1 x13_1).f2))))) = false := by simpa using c8
  clear c8
  have H' := aM_ H
  clear H
  have p362 : 0 ≤ (x13_1 : Int) := oD_ ‹_›
  have q362 : x13_1 < (l0.length : Int) := oD_ ‹_›
  obtain ⟨ad362, e362, hx362_0, hx362_1, hx362_2⟩ := at_T60 HR0.out x13_1 p362 q362
  cases e362
  replace p362 := eq_true p362
  replace q362 := eq_true q362
  have p363 : 0 ≤ (x13_1 : Int) := oD_ ‹_›
  have q363 : x13_1 < (l1.length : Int) := oD_ ‹_›
  obtain ⟨ad363, e363, hx363_0, hx363_1, hx363_2⟩ := at_T60 HR1.out x13_1 p363 q363
  cases e363
  replace p363 := eq_true p363
  replace q363 := eq_true q363
  go_wp2
  repeat (go_quiet (fail); try go_wp2)
  go_roundg k1
  case measure => have := HK1.out; omega
  case rel => exact ⟨(wrap64 (x13_1 + 1)), (by rfl), H', ⟨by have := HK1.out; omega⟩, by repeat (first | exact Drawn0.refl _ | apply Drawn0.step)⟩
end Go.Proofs.YtfhffcefpnkllaaGreatDoor.P
namespace Go.Proofs.YtfhffcefpnkllaaGreatDoor.P
open Go.RowKit Go.Proofs.YtfhffcefpnkllaaGreatDoorW.PrintWords Go.Proofs.YtfhffcefpnkllaaGreatDoorW.PrintLast Go.Proofs.YtfhffcefpnkllaaGreatDoorW.PrintMore
open Go.Proofs.YtfhffcefpnkllaaGreatDoorW.PrintWords renaming blk_frozen → bF_, blk_cell → bC_, below_set → bS_, blk_below → bB_, below_step → bT_, pw_below_drewN → bN_, below_size → bZ_, below_drew1 → bD_, below_alloc → bA_, blk_far → bR_, gate_callee → gC_, gate_dst → gD_, box_event → bE_, blk_drew → b1_, blk_put → bP_, blk_drewN → b2_, blk_alloc → b3_, blk_lt → bL_, cell_far → cF_
open Go.Proofs.YtfhffcefpnkllaaGreatDoorW.PrintLast renaming any_of → aO_, i64_w → i6_, i32_w → i3_, take_ofW → tW_
open Go.Proofs.YtfhffcefpnkllaaGreatDoorW.PrintWords.Kd renaming R_below → kB_, R_mono → kM_, R_far → kF_, R_reads' → kR_, R_types → kT_, R_slice → kS_, R_celln → kC_, R_alloc → k1_, R_drewN → k2_, R_drew → k3_, C_below → k4_, R_lower → k5_, R_ne → k6_, own_blk → k7_
open Go.Proofs.YtfhffcefpnkllaaGreatDoorW.PrintWords.LeO renaming none → l0_, bind → l1_, ite → l2_, refl → l3_
open World renaming block_lt_of_cell? → wB_
open _root_.Option renaming bind_eq_some_iff → oB_
open _root_.ByteArray renaming empty → eB_
open List renaming setIfInBounds_toArray → sA_, set_cons_zero → sB_, set_cons_succ → sC_, map_toArray → sD_, map_cons → sE_, map_nil → sF_, length_drop → sG_, length_take → sH_
open Bool renaming true → ty, false → fy
open Aside0 renaming mk → aM_
attribute [local go_sem] max2_int min2_int max_two min_two max_three min_three max_four min_four
def iF25.f (a0 : Int) : Option (ByteArray) := some (strOfNums (([(wrap64 (97 + a0)) % 256] : List Int)))
theorem iF25.calls (a0 : Int) (r : ByteArray) (w : World) (h : iF25.f a0 = some r) :
  Calls Tryz.prog 98 #[.int .i64 a0] w fun e w' => e = .returned (.string r) ∧ Below w.heap.size w w' := by
 have HB := aM_ (Below.refl w.heap.size w)
 have H : (some (strOfNums (([(wrap64 (97 + a0)) % 256] : List Int)))) = some r := h
 clear h
 obtain ⟨y364, hy364⟩ : ∃ y_ : List Int, y_ = (([(wrap64 (97 + a0)) % 256] : List Int)) := ⟨_, rfl⟩
 replace H : (some (strOfNums y364)) = some r := by (try rw [hy364]); first | with_reducible exact H | with_reducible exact oS_ H | exact H
 have Ny364 := aM_ hy364
 clear hy364
 obtain rfl := Option.some.inj H
 go_enter Tryz.func98, Tryz.ntmps98
 go_wp2_with (first | ((with_reducible refine gD_ (N := 6) rfl ?_); refine Kd.R_lit (Kd.int .u8) _ 5 ?hg (N := 6) ?hd (xs := ([(wrap64 (97 + a0)) % 256] : List Int)) (inner := [.int .u8 ((wrap64 (97 + a0)) % 256)]) (ok := fun _ => True) (okp := fun _ => True) ?hr ?hp (fun _ hk => hk) trivial (Below.refl _ _) (Nat.le_refl _) (by simp) ?_; (case hd => rfl); (case hg => rfl); (case hr => (go_simp; done)); (case hp => exact (Reps.one (show Kd.M (Kd.int .u8) _ _ _ ((wrap64 (97 + a0)) % 256) [.int .u8 ((wrap64 (97 + a0)) % 256)] from rfl) (Reps.none _ _))); intro v365 w2 ho3 hb hg_ hnew_; clear hg_ hnew_; (rw [← Ny364.out] at ho3); have HO366 := aM_ (k5_ ho3 (bZ_ HB.out)); replace HB := b4_ HB hb; clear hb ho3; have hcv4 := own_string (P := Tryz.prog) Tryz.underlying93 Tryz.underlying5 Tryz.underlying9 (Kd.own_of_R HO366.out)))
 go_ret
 exact ⟨by rfl, by exact HB.out⟩
def iF14.l0 : Nat → List ByteArray → List (S76) → Int → Int → Option (List ByteArray × Bool)
 | 0, _, _, _, _ => none
 | k + 1, x4, x15, x16, x17 => if x17 < x16 then (if 0 ≤ x17 then (if x17 < (x15.length : Int) then ((iF21.f ((rd_T76 x15 x17).f1) 0 x17).bind fun t378 => (if t378 = true then ((iF21.f ((rd_T76 x15 x17).f0) 0 25).bind fun t379 => (if t379 = true then (if 0 ≤ ((rd_T76 x15 x17).f1) then (if ((rd_T76 x15 x17).f1) < (x4.length : Int) then ((iF25.f ((rd_T76 x15 x17).f0)).bind fun t381 => (if (rdOf eB_ x4 ((rd_T76 x15 x17).f1)).size + t381.size ≤ 9223372036854775807 then (if x4.length < 8796093022208 then (iF14.l0 k (x4 ++ [(rdOf eB_ x4 ((rd_T76 x15 x17).f1)) ++ t381]) x15 x16 (wrap64 (x17 + 1))) else (none)) else (none))) else (none)) else (none)) else (some (([] : List ByteArray), false)))) else (some (([] : List ByteArray), false)))) else (none)) else (none)) else (some (x4, true))
def iF14.f (k : Nat) (l0_0 : List (S76)) : Option (List ByteArray × Bool) := (iF21.f (l0_0.length : Int) 1 481).bind fun t371 => (if t371 = true then (if 1 ≤ (l0_0.length : Int) then ((some (l0_0.drop 1 : List (S76))).bind fun y372 => (iF14.l0 k (([(⟨#[]⟩ : ByteArray)] : List ByteArray)) y372 (y372.length : Int) 0)) else (none)) else (some (([] : List ByteArray), false)))
theorem iF14.mono_l : ∀ k, (∀ y0 y1 y2 y3, LeO (iF14.l0 k y0 y1 y2 y3) (iF14.l0 (k + 1) y0 y1 y2 y3))
 | 0 => fun _ _ _ _ r h => by simp [iF14.l0] at h
 | k + 1 => by
  have ih0 := iF14.mono_l k
  intro y0 y1 y2 y3
  unfold iF14.l0
  repeat' with_reducible first | exact ih0 _ _ _ _ | exact l3_ _ | exact l0_ _ | refine l2_ ?_ ?_ | refine l1_ ?_ (fun _ => ?_)
theorem iF14.mono : ∀ a0 k, LeO (iF14.f k a0) (iF14.f (k + 1) a0) := by
 intro a0 k
 have ih0 := iF14.mono_l k
 unfold iF14.f
 repeat' with_reducible first | exact ih0 _ _ _ _ | exact l3_ _ | exact l0_ _ | refine l2_ ?_ ?_ | refine l1_ ?_ (fun _ => ?_)
def iF14.T9 : Bool × List (List Nat × List Nat) := (true, [([], []), ([], []), ([], []), ([2], [2]), ([1, 3], [1, 3]), ([4], [4]), ([], []), ([6], [6]), ([7], [7]), ([5, 8], [5, 8]), ([9], [9]), ([0, 10, 8], [0, 10]), ([11, 11, 0, 1, 2, 3, 4, 5, 6, 7, 8, 9, 10, 11], [0, 1, 11])])
def iF14.B9 : List Nat := [0, 0, 0, 4, 14, 30, 0, 64, 192, 510, 1022, 2047, 4095]
theorem iF14.tab9 : rtab .any (opsOf Tryz.f83 9) = iF14.T9 := by kernel_rfl
theorem iF14.bits9 : waitsOk iF14.T9.2 iF14.B9 = true := by kernel_rfl
theorem iF14.calls (k : Nat) (A0_0 : Option Addr) (c0_0 : Nat) (l0_0 : List (S76)) (r1 : List ByteArray) (r2 : Bool) (w : World) (hr0_0 : Kd.C k76 w A0_0 l0_0.length l0_0) (hc0_0 : l0_0.length ≤ c0_0) (h : iF14.f k l0_0 = some (r1, r2)) :
  Calls Tryz.prog 83 #[.agg #[.slice A0_0 l0_0.length c0_0]] w fun e w' => ∃ v0_ : Value, e = .returned (.tuple #[v0_, .bool r2]) ∧ Kd.R Kd.string 9 w' w.heap.size (fun _ => True) v0_ r1 ∧ Below w.heap.size w w' := by
 have hu36 := Tryz.underlying36
 have hu76 := Tryz.underlying76
 have HR0_0 := aM_ hr0_0
 have HC0_0 := aM_ hc0_0
 clear hr0_0 hc0_0
 have HB := aM_ (Below.refl w.heap.size w)
 have H : ((iF21.f (l0_0.length : Int) 1 481).bind fun t371 => (if t371 = true then (if 1 ≤ (l0_0.length : Int) then ((some (l0_0.drop 1 : List (S76))).bind fun y372 => (iF14.l0 k (([(⟨#[]⟩ : ByteArray)] : List ByteArray)) y372 (y372.length : Int) 0)) else (none)) else (some (([] : List ByteArray), false)))) = some (r1, r2) := h
 clear h
 obtain ⟨y368, hy368⟩ : ∃ y_ : List ByteArray, y_ = (([(⟨#[]⟩ : ByteArray)] : List ByteArray)) := ⟨_, rfl⟩
 replace H : ((iF21.f (l0_0.length : Int) 1 481).bind fun t371 => (if t371 = true then (if 1 ≤ (l0_0.length : Int) then ((some (l0_0.drop 1 : List (S76))).bind fun y372 => (iF14.l0 k y368 y372 (y372.length : Int) 0)) else (none)) else (some (([] : List ByteArray), false)))) = some (r1, r2) := by (try rw [hy368]); first | with_reducible exact H | with_reducible exact oS_ H | exact H
 have Ny368 := aM_ hy368
 clear hy368
 replace H := oB_.mp H
 obtain ⟨t371, A20, H⟩ := H
 try dsimp only at H
 have A2 := aM_ A20
 clear A20
 by_cases c3 : t371 = true
 rotate_left
 ·
  replace c3 := Bool.eq_false_iff.mpr c3
  subst c3
  replace H : (some (([] : List ByteArray), false)) = some (r1, r2) := by rw [if_neg (show ¬ (false = true) by decide)] at H; exact H
  simp only [Option.some.injEq, Prod.mk.injEq] at H
  obtain ⟨rfl, rfl⟩ := H
  go_enter Tryz.func83, Tryz.ntmps83
  go_wp2_with (first | (refine bx_ 1 #[.slice A0_0 l0_0.length c0_0] 36 ?_; intro gb367 hg w36 hbox hb; have BK367 := aM_ (hbox); have GW367 := gw_ hg HB; replace HB := b4_ HB hb; clear hb hbox hg) | ((with_reducible refine gD_ (N := 7) rfl ?_); refine Kd.R_lit Kd.string _ 9 ?hg (N := 7) ?hd (xs := ([(⟨#[]⟩ : ByteArray)] : List ByteArray)) (inner := [.string (⟨#[]⟩ : ByteArray)]) (ok := fun _ => True) (okp := fun _ => True) ?hr ?hp (fun _ hk => hk) trivial (Below.refl _ _) (Nat.le_refl _) (by simp) ?_; (case hd => rfl); (case hg => rfl); (case hr => (go_simp; done)); (case hp => exact (Reps.one (show Kd.M Kd.string _ _ _ (⟨#[]⟩ : ByteArray) [.string (⟨#[]⟩ : ByteArray)] from rfl) (Reps.none _ _))); intro v369 w37 ho38 hb hg_ hnew_; clear hg_ hnew_; (rw [← Ny368.out] at ho38); have HO370 := aM_ (k5_ ho38 (bZ_ HB.out)); replace BK367 := b5_ BK367 hb; replace HB := b4_ HB hb; clear hb ho38; have hcz39_0 := c0_ BK367; have hfz39_0 := bF_ BK367.out 0) | (refine gs_ 11 Tryz.func67 #[.int .i64 (l0_0.length : Int), .int .i64 1, .int .i64 481] ?_; (with_reducible refine (iF21.calls (l0_0.length : Int) 1 481 false _ A2.out).mono ?_); rintro e w' ⟨rfl, ⟨nd, rfl⟩⟩; refine ⟨_, rfl, ?_⟩))
  go_ret2
  exact ⟨_, by rfl, by exact Kd.R_nil _ _ _ _ _, by repeat with_reducible first | exact HB.out | apply bA_ | apply bN_ | apply bD_ | refine bS_ ?_ GW367.out⟩
 subst c3
 rw [if_pos rfl] at H
 by_cases c4 : 1 ≤ (l0_0.length : Int)
 rotate_left
 ·
  rw [if_neg c4] at H
  exact absurd H (by simp)
 rw [if_pos c4] at H
 have c4b0 := eq_true c4
 have c4b1 := dT_ c4
 clear c4
 obtain ⟨y372, hy372⟩ : ∃ y_ : List (S76), y_ = (l0_0.drop 1) := ⟨_, rfl⟩
 replace H : (iF14.l0 k y368 y372 (y372.length : Int) 0) = some (r1, r2) := by (try rw [hy372]); first | with_reducible exact H | with_reducible exact oS_ H | exact H
 have Ny372 := aM_ hy372
 clear hy372
 have H' := aM_ H
 clear H
 go_enter Tryz.func83, Tryz.ntmps83
 go_wp2_with (first | (refine bx_ 1 #[.slice A0_0 l0_0.length c0_0] 36 ?_; intro gb367 hg w5 hbox hb; have BK367 := aM_ (hbox); have GW367 := gw_ hg HB; replace HB := b4_ HB hb; clear hb hbox hg) | ((with_reducible refine gD_ (N := 7) rfl ?_); refine Kd.R_lit Kd.string _ 9 ?hg (N := 7) ?hd (xs := ([(⟨#[]⟩ : ByteArray)] : List ByteArray)) (inner := [.string (⟨#[]⟩ : ByteArray)]) (ok := fun _ => True) (okp := fun _ => True) ?hr ?hp (fun _ hk => hk) trivial (Below.refl _ _) (Nat.le_refl _) (by simp) ?_; (case hd => rfl); (case hg => rfl); (case hr => (go_simp; done)); (case hp => exact (Reps.one (show Kd.M Kd.string _ _ _ (⟨#[]⟩ : ByteArray) [.string (⟨#[]⟩ : ByteArray)] from rfl) (Reps.none _ _))); intro v369 w6 ho7 hb hg_ hnew_; clear hg_ hnew_; (rw [← Ny368.out] at ho7); have HO370 := aM_ (k5_ ho7 (bZ_ HB.out)); replace BK367 := b5_ BK367 hb; replace HB := b4_ HB hb; clear hb ho7; have hcz8_0 := c0_ BK367; have hfz8_0 := bF_ BK367.out 0) | (refine gs_ 11 Tryz.func67 #[.int .i64 (l0_0.length : Int), .int .i64 1, .int .i64 481] ?_; (with_reducible refine (iF21.calls (l0_0.length : Int) 1 481 true _ A2.out).mono ?_); rintro e w' ⟨rfl, ⟨nd, rfl⟩⟩; refine ⟨_, rfl, ?_⟩; have q9 : (1 : Int) ≤ ((l0_0.length : Int) : Int) := oD_ ‹_›; obtain ⟨i09, hi09, _, hsz9, _⟩ := info_parts info76; have hroom9 : l0_0.length ≤ c0_0 := HC0_0.out; have hC9 : Kd.C k76 _ A0_0 l0_0.length l0_0 := HR0_0.out; have hcut9 := cut_from (P := Tryz.prog) 34 76 .i64 Tryz.underlying34 hi09 3 hsz9 A0_0 l0_0.length c0_0 1 (by omega) q9; have hr9 := Kd.C_drop (m := (1 : Int).toNat) (c := c0_0) hC9 (by omega) hroom9; obtain ⟨A9, hA9⟩ : ∃ A1, A1 = (if c0_0 = (1 : Int).toNat then A0_0 else (A0_0 : Option Addr).map (·.add ((1 : Int).toNat * 3))) := ⟨_, rfl⟩; obtain ⟨c9, hc9⟩ : ∃ c1, c1 = c0_0 - (1 : Int).toNat := ⟨_, rfl⟩; have hy9 : y372.length = l0_0.length - (1 : Int).toNat := (by rw [Ny372.out, List.length_drop] <;> omega); rw [show (l0_0).drop (1 : Int).toNat = y372 from Ny372.out.symm] at hr9; replace hr9 : Kd.C k76 _ A9 y372.length y372 := (by rw [hA9]; exact hr9); rw [← hy9, ← hA9, ← hc9] at hcut9; have HR375 := aM_ hr9; have HC375 := aM_ (show y372.length ≤ c9 from by rw [hy9, hc9]; exact Nat.sub_le_sub_right hroom9 _); clear hr9 hC9 hroom9 hi09 hsz9 hc9; have KY9 := aM_ hy9; have KA9 := aM_ hA9; clear hy9 hA9; replace q9 := eq_true q9))
 go_loopg [4, 17] k (fun kq v4 v17 w' => ∃ (x4_1 : List ByteArray) (x17_1 : Int), v17 = .int .i64 x17_1 ∧ Aside0 (iF14.l0 kq x4_1 y372 (y372.length : Int) x17_1 = some (r1, r2)) ∧ Aside0 (kq ≤ k) ∧ Aside0 (Kd.R Kd.string 9 w' w.heap.size (fun _ => True) v4 x4_1) ∧ Aside0 (w'.heap[gb367]? = some (.cells #[(.slice A0_0 l0_0.length c0_0)] 36 (0, 0))) ∧ Aside0 (Below w.heap.size w w'))
 case atStart => exact ⟨(y368), (0), (by rfl), H', ⟨Nat.le_refl _⟩, ⟨by (with_reducible repeat (first | apply k1_ | apply k2_ | apply k3_)); exact HO370.out⟩, ⟨by (with_reducible repeat (first | refine b2_ ?_ _ | refine b1_ ?_ | refine b3_ ?_ _)); exact BK367.out⟩, ⟨by repeat with_reducible first | exact HB.out | apply bA_ | apply bN_ | apply bD_ | refine bS_ ?_ GW367.out⟩⟩
 clear H'
 try clear p2
 try clear c4b0
 try clear c4b1
 try clear q9
 try clear hcz8_0
 try clear hfz8_0
 try clear q9
 obtain ⟨x4_1, x17_1, rfl, HA, HK1, HO_4, BK367, HB⟩ := hrel
 cases gk with
 | zero => exact absurd HA.out (by simp [iF14.l0])
 | succ k1 =>
  have H := HA.out
  clear HA
  simp only [iF14.l0] at H
  by_cases c10 : x17_1 < (y372.length : Int)
  rotate_left
  ·
   rw [if_neg c10] at H
   have c10b0 := dF_ c10
   clear c10
   simp only [Option.some.injEq, Prod.mk.injEq] at H
   obtain ⟨rfl, rfl⟩ := H
   go_wp2
   go_ret2
   exact ⟨_, by rfl, by exact HO_4.out, by exact HB.out⟩
  rw [if_pos c10] at H
  have c10b0 := dT_ c10
  clear c10
  by_cases c11 : 0 ≤ x17_1
  rotate_left
  ·
   rw [if_neg c11] at H
   exact absurd H (by simp)
  rw [if_pos c11] at H
  have c11b0 := dT_ c11
  clear c11
  by_cases c12 : x17_1 < (y372.length : Int)
  rotate_left
  ·
   rw [if_neg c12] at H
   exact absurd H (by simp)
  rw [if_pos c12] at H
  have c12b0 := dT_ c12
  clear c12
  replace H := oB_.mp H
  obtain ⟨t378, A130, H⟩ := H
  try dsimp only at H
  have A13 := aM_ A130
  clear A130
  by_cases c14 : t378 = true
  rotate_left
  ·
   replace c14 := Bool.eq_false_iff.mpr c14
   subst c14
   replace H : (some (([] : List ByteArray), false)) = some (r1, r2) := by rw [if_neg (show ¬ (false = true) by decide)] at H; exact H
   simp only [Option.some.injEq, Prod.mk.injEq] at H
   obtain ⟨rfl, rfl⟩ := H
   have p376 : 0 ≤ (x17_1 : Int) := oD_ ‹_›
   have q376 : x17_1 < (y372.length : Int) := oD_ ‹_›
   obtain ⟨ad376, e376, hx376_0, hx376_1, hx376_2⟩ := at_T76 HR375.out x17_1 p376 q376
   cases e376
   replace hx376_0 := cb_ HB hx376_0
   replace hx376_1 := cb_ HB hx376_1
   replace hx376_2 := cb_ HB hx376_2
   replace p376 := eq_true p376
   replace q376 := eq_true q376
   go_wp2_with (first | (refine bx_ 6 #[.int .i64 0, .int .i64 0, .bool false] 76 ?_; intro gb377 hg w33 hbox hb; replace HO_4 := k9_ HO_4 hb; have BK377 := aM_ (hbox); have GW377 := gw_ hg HB; replace HB := b4_ HB hb; have NB367_377 := nb_ hg BK367; have NB377_367 := ns_ NB367_377; replace BK367 := b5_ BK367 hb; clear hb hbox hg; have hnb34 := NB377_367.out; have hnc34 := NB367_377.out; have hcz35_0 := c0_ BK377; have hcz35_1 := c1_ BK377; have hcz35_2 := c2_ BK377; have hfz35_0 := bF_ BK377.out 0; have hfz35_1 := bF_ BK377.out 1; have hfz35_2 := bF_ BK377.out 2) | (refine gs_ 25 Tryz.func67 #[.int .i64 ((rd_T76 y372 x17_1).f1), .int .i64 0, .int .i64 x17_1] ?_; (with_reducible refine (iF21.calls ((rd_T76 y372 x17_1).f1) 0 x17_1 false _ A13.out).mono ?_); rintro e w' ⟨rfl, ⟨nd, rfl⟩⟩; refine ⟨_, rfl, ?_⟩))
   go_ret2
   exact ⟨_, by rfl, by exact Kd.R_nil _ _ _ _ _, by repeat with_reducible first | exact HB.out | apply bA_ | apply bN_ | apply bD_ | refine bS_ ?_ (Aside0.out ‹_›)⟩
  subst c14
  rw [if_pos rfl] at H
  replace H := oB_.mp H
  obtain ⟨t379, A150, H⟩ := H
  try dsimp only at H
  have A15 := aM_ A150
  clear A150
  by_cases c16 : t379 = true
  rotate_left
  ·
   replace c16 := Bool.eq_false_iff.mpr c16
   subst c16
   replace H : (some (([] : List ByteArray), false)) = some (r1, r2) := by rw [if_neg (show ¬ (false = true) by decide)] at H; exact H
   simp only [Option.some.injEq, Prod.mk.injEq] at H
   obtain ⟨rfl, rfl⟩ := H
   have p376 : 0 ≤ (x17_1 : Int) := oD_ ‹_›
   have q376 : x17_1 < (y372.length : Int) := oD_ ‹_›
   obtain ⟨ad376, e376, hx376_0, hx376_1, hx376_2⟩ := at_T76 HR375.out x17_1 p376 q376
   cases e376
   replace hx376_0 := cb_ HB hx376_0
   replace hx376_1 := cb_ HB hx376_1
   replace hx376_2 := cb_ HB hx376_2
   replace p376 := eq_true p376
   replace q376 := eq_true q376
   go_wp2_with (first | (refine bx_ 6 #[.int .i64 0, .int .i64 0, .bool false] 76 ?_; intro gb377 hg w30 hbox hb; replace HO_4 := k9_ HO_4 hb; have BK377 := aM_ (hbox); have GW377 := gw_ hg HB; replace HB := b4_ HB hb; have NB367_377 := nb_ hg BK367; have NB377_367 := ns_ NB367_377; replace BK367 := b5_ BK367 hb; clear hb hbox hg; have hnb31 := NB377_367.out; have hnc31 := NB367_377.out; have hcz32_0 := c0_ BK377; have hcz32_1 := c1_ BK377; have hcz32_2 := c2_ BK377; have hfz32_0 := bF_ BK377.out 0; have hfz32_1 := bF_ BK377.out 1; have hfz32_2 := bF_ BK377.out 2) | (refine gs_ 25 Tryz.func67 #[.int .i64 ((rd_T76 y372 x17_1).f1), .int .i64 0, .int .i64 x17_1] ?_; (with_reducible refine (iF21.calls ((rd_T76 y372 x17_1).f1) 0 x17_1 true _ A13.out).mono ?_); rintro e w' ⟨rfl, ⟨nd, rfl⟩⟩; refine ⟨_, rfl, ?_⟩) | (go_at_call 67; (with_reducible refine (iF21.calls ((rd_T76 y372 x17_1).f0) 0 25 false _ A15.out).mono ?_); rintro e w' ⟨rfl, ⟨nd, rfl⟩⟩))
   go_ret2
   exact ⟨_, by rfl, by exact Kd.R_nil _ _ _ _ _, by repeat with_reducible first | exact HB.out | apply bA_ | apply bN_ | apply bD_ | refine bS_ ?_ (Aside0.out ‹_›)⟩
  subst c16
  rw [if_pos rfl] at H
  by_cases c17 : 0 ≤ ((rd_T76 y372 x17_1).f1)
  rotate_left
  ·
   rw [if_neg c17] at H
   exact absurd H (by simp)
  rw [if_pos c17] at H
  have c17b0 := dT_ c17
  clear c17
  by_cases c18 : ((rd_T76 y372 x17_1).f1) < (x4_1.length : Int)
  rotate_left
  ·
   rw [if_neg c18] at H
   exact absurd H (by simp)
  rw [if_pos c18] at H
  have c18b0 := dT_ c18
  clear c18
  replace H := oB_.mp H
  obtain ⟨t381, A190, H⟩ := H
  try dsimp only at H
  have A19 := aM_ A190
  clear A190
  by_cases c20 : (rdOf eB_ x4_1 ((rd_T76 y372 x17_1).f1)).size + t381.size ≤ 9223372036854775807
  rotate_left
  ·
   rw [if_neg c20] at H
   exact absurd H (by simp)
  rw [if_pos c20] at H
  have c20b0 := eq_true c20
  have c20b1 := dT_ c20
  try have c20b2 : (9223372036854775807 < (rdOf eB_ x4_1 ((rd_T76 y372 x17_1).f1)).size + t381.size) = False := eq_false (Nat.not_lt.2 c20)
  by_cases c21 : x4_1.length < 8796093022208
  rotate_left
  ·
   rw [if_neg c21] at H
   exact absurd H (by simp)
  rw [if_pos c21] at H
  have LMc21 := aM_ c21
  clear c21
  obtain ⟨y382, hy382⟩ : ∃ y_ : List ByteArray, y_ = (x4_1 ++ [(rdOf eB_ x4_1 ((rd_T76 y372 x17_1).f1)) ++ t381]) := ⟨_, rfl⟩
  replace H : (iF14.l0 k1 y382 y372 (y372.length : Int) (wrap64 (x17_1 + 1))) = some (r1, r2) := by (try rw [hy382]); first | with_reducible exact H | with_reducible exact oS_ H | exact H
  have Ny382 := aM_ hy382
  clear hy382
  have H' := aM_ H
  clear H
  have p376 : 0 ≤ (x17_1 : Int) := oD_ ‹_›
  have q376 : x17_1 < (y372.length : Int) := oD_ ‹_›
  obtain ⟨ad376, e376, hx376_0, hx376_1, hx376_2⟩ := at_T76 HR375.out x17_1 p376 q376
  cases e376
  replace hx376_0 := cb_ HB hx376_0
  replace hx376_1 := cb_ HB hx376_1
  replace hx376_2 := cb_ HB hx376_2
  replace p376 := eq_true p376
  replace q376 := eq_true q376
  try go_wp2_with (first | (refine bx_ 6 #[.int .i64 0, .int .i64 0, .bool false] 76 ?_; intro gb377 hg w22 hbox hb; replace HO_4 := k9_ HO_4 hb; have BK377 := aM_ (hbox); have GW377 := gw_ hg HB; replace HB := b4_ HB hb; have NB367_377 := nb_ hg BK367; have NB377_367 := ns_ NB367_377; replace BK367 := b5_ BK367 hb; clear hb hbox hg; have hnb23 := NB377_367.out; have hnc23 := NB367_377.out; have hcz24_0 := c0_ BK377; have hcz24_1 := c1_ BK377; have hcz24_2 := c2_ BK377; have hfz24_0 := bF_ BK377.out 0; have hfz24_1 := bF_ BK377.out 1; have hfz24_2 := bF_ BK377.out 2) | (refine gs_ 25 Tryz.func67 #[.int .i64 ((rd_T76 y372 x17_1).f1), .int .i64 0, .int .i64 x17_1] ?_; (with_reducible refine (iF21.calls ((rd_T76 y372 x17_1).f1) 0 x17_1 true _ A13.out).mono ?_); rintro e w' ⟨rfl, ⟨nd, rfl⟩⟩; refine ⟨_, rfl, ?_⟩) | (go_at_call 67; (with_reducible refine (iF21.calls ((rd_T76 y372 x17_1).f0) 0 25 true _ A15.out).mono ?_); rintro e w' ⟨rfl, ⟨nd, rfl⟩⟩))
  generalize hW_ : (((w22.setCell ⟨gb377, 0, none⟩ (.int .i64 ((rd_T76 y372 x17_1).f0))).setCell ⟨gb377, 1, none⟩ (.int .i64 ((rd_T76 y372 x17_1).f1))).setCell ⟨gb377, 2, none⟩ (.bool ((rd_T76 y372 x17_1).f2))) = w25
  have n0_ : Aside0 (Kd.R Kd.string 9 w25 w.heap.size (fun _ => True) u4 x4_1) := ⟨by subst hW_; exact kM_ (kG_ (kG_ (kG_ (kT_ HO_4.out BK377.out (by decide))))) (fun _ hk => trivial)⟩
  have n1_ : Aside0 (w25.heap[gb367]? = some (.cells #[.slice A0_0 l0_0.length c0_0] 36 (0, 0))) := ⟨by subst hW_; exact br_ NB367_377.out (br_ NB367_377.out (br_ NB367_377.out (BK367.out)))⟩
  have n2_ : Aside0 (w25.heap[gb377]? = some (.cells #[.int .i64 ((rd_T76 y372 x17_1).f0), .int .i64 ((rd_T76 y372 x17_1).f1), .bool ((rd_T76 y372 x17_1).f2)] 76 (0, 0))) := ⟨by subst hW_; refine bP_ (cs := #[.int .i64 ((rd_T76 y372 x17_1).f0), .int .i64 ((rd_T76 y372 x17_1).f1), .bool false]) ?_ 2 _ rfl; refine bP_ (cs := #[.int .i64 ((rd_T76 y372 x17_1).f0), .int .i64 0, .bool false]) ?_ 1 _ rfl; refine bP_ (cs := #[.int .i64 0, .int .i64 0, .bool false]) ?_ 0 _ rfl; exact BK377.out⟩
  have n3_ : Aside0 (Below w.heap.size w w25) := ⟨by subst hW_; repeat with_reducible first | exact HB.out | apply bA_ | apply bN_ | apply bD_ | refine bS_ ?_ (Aside0.out ‹_›)⟩
  (try clear HO_4)
  (try clear BK367)
  (try clear BK377)
  (try clear HB)
  clear hW_
  have HO_4 := n0_
  have BK367 := n1_
  have BK377 := n2_
  have HB := n3_
  clear n0_ n1_ n2_ n3_
  (try (rw [drewN_self w25]; generalize hq_ : World.drewN w25 _ = w25; have n0_ : Aside0 (Kd.R Kd.string 9 w25 w.heap.size (fun _ => True) u4 x4_1) := ⟨by rw [← hq_]; exact (by (with_reducible repeat (first | apply k1_ | apply k2_ | apply k3_)); exact HO_4.out)⟩; have n1_ : Aside0 (w25.heap[gb367]? = some (.cells #[.slice A0_0 l0_0.length c0_0] 36 (0, 0))) := ⟨by rw [← hq_]; exact (by (with_reducible repeat (first | refine b2_ ?_ _ | refine b1_ ?_ | refine b3_ ?_ _)); exact BK367.out)⟩; have n2_ : Aside0 (w25.heap[gb377]? = some (.cells #[.int .i64 ((rd_T76 y372 x17_1).f0), .int .i64 ((rd_T76 y372 x17_1).f1), .bool ((rd_T76 y372 x17_1).f2)] 76 (0, 0))) := ⟨by rw [← hq_]; exact (by (with_reducible repeat (first | refine b2_ ?_ _ | refine b1_ ?_ | refine b3_ ?_ _)); exact BK377.out)⟩; have n3_ : Aside0 (Below w.heap.size w w25) := ⟨by rw [← hq_]; exact (by repeat with_reducible first | exact HB.out | apply bA_ | apply bN_ | apply bD_ | refine bS_ ?_ (Aside0.out ‹_›))⟩; clear HO_4 BK367 BK377 HB hq_; have HO_4 := n0_; have BK367 := n1_; have BK377 := n2_; have HB := n3_; clear n0_ n1_ n2_ n3_))
  have n0_ := aM_ (k3_ HO_4.out)
  have n1_ := aM_ (b1_ BK367.out)
  have n2_ := aM_ (b1_ BK377.out)
  have n3_ := aM_ (bD_ HB.out)
  clear HO_4
  clear BK367
  clear BK377
  clear HB
  have HO_4 := n0_
  have BK367 := n1_
  have BK377 := n2_
  have HB := n3_
  clear n0_ n1_ n2_ n3_
  obtain ⟨Ao27, co27, eo27⟩ := kS_ HO_4.out
  (subst eo27)
  have p380 : 0 ≤ (((rd_T76 y372 x17_1).f1) : Int) := oD_ ‹_›
  have q380 : ((rd_T76 y372 x17_1).f1) < (x4_1.length : Int) := oD_ ‹_›
  obtain ⟨ad380, e380, hx380_0⟩ := Kd.at_string (kR_ HO_4.out).2.2 ((rd_T76 y372 x17_1).f1) p380 q380
  cases e380
  replace p380 := eq_true p380
  replace q380 := eq_true q380
  refine start_ (n := 13) (S := fun w' => w'.cell? ⟨gb377, 0, none⟩ = some (.int .i64 ((rd_T76 y372 x17_1).f0)) ∧ w'.cell? ⟨gb377, 1, none⟩ = some (.int .i64 ((rd_T76 y372 x17_1).f1)) ∧ w'.cell? ⟨gb377, 2, none⟩ = some (.bool ((rd_T76 y372 x17_1).f2)) ∧ w'.cell? (ad380.add (((rd_T76 y372 x17_1).f1)).toNat) = some (.string (rdOf eB_ x4_1 ((rd_T76 y372 x17_1).f1)))) (ds := [10, 11]) #[fy, fy, fy, fy, fy, fy, fy, fy, fy, fy, fy, fy, fy] (by kernel_rfl) rfl rfl ⟨(bC_ BK377.out 0).trans rfl, (bC_ BK377.out 1).trans rfl, (bC_ BK377.out 2).trans rfl, hx380_0⟩ (fun hHeld => ?_); refine with_tabW iF14.tab9 iF14.bits9 (fun HT_ HW_ => ?_)
  generalize w25.drew = w26 at HO_4 BK367 BK377 HB hx380_0 hHeld ⊢
  refine pu_ HT_ 0 33 #[ty, fy, fy, fy, fy, fy, fy, fy, fy, fy, fy, fy, fy] ?_
  refine pu_ HT_ 1 34 #[ty, ty, fy, fy, fy, fy, fy, fy, fy, fy, fy, fy, fy] ?_
  refine pu_ HT_ 2 35 #[ty, ty, ty, fy, fy, fy, fy, fy, fy, fy, fy, fy, fy] ?_
  refine pu_ HT_ 6 39 #[ty, ty, ty, fy, fy, fy, ty, fy, fy, fy, fy, fy, fy] ?_
  refine tk_ HT_ HW_ 3 36 #[ty, ty, ty, ty, fy, fy, ty, fy, fy, fy, fy, fy, fy] hHeld ?_ (hr := by rintro w' ⟨s0, s1, s2, s3⟩; go_simp; with_reducible rfl)
  refine pu_ HT_ 4 37 #[ty, ty, ty, ty, ty, fy, ty, fy, fy, fy, fy, fy, fy] ?_
  refine tk_ HT_ HW_ 5 38 #[ty, ty, ty, ty, ty, ty, ty, fy, fy, fy, fy, fy, fy] hHeld ?_ (hr := by rintro w' ⟨s0, s1, s2, s3⟩; go_simp; with_reducible rfl)
  refine tk_ HT_ HW_ 7 40 #[ty, ty, ty, ty, ty, ty, ty, ty, fy, fy, fy, fy, fy] hHeld ?_ (hr := by rintro w' ⟨s0, s1, s2, s3⟩; go_simp; with_reducible rfl)
  refine one_ (i := 8) (N := some 41) #[ty, ty, ty, ty, ty, ty, ty, ty, ty, fy, fy, fy, fy] rfl rfl (one_of HT_.out (by kernel_rfl)) (by decide) (fun K hK => ?_)
  refine goes_ Tryz.func98 (by kernel_rfl) rfl #[.int .i64 ((rd_T76 y372 x17_1).f0)] (by rfl) rfl rfl (by (try simp only [sD_, sE_, sF_]); rfl) ?_
  with_reducible refine (iF25.calls ((rd_T76 y372 x17_1).f0) t381 _ A19.out).mono ?_
  rintro e w28 ⟨rfl, hb⟩
  have HS3_ := (hb.cell (wB_ _ _ (hHeld.2.2.2))).trans (hHeld.2.2.2)
  refine ⟨_, rfl, ?_⟩
  have n0_ := k9_ HO_4 hb
  have n1_ := b5_ BK367 hb
  have n2_ := b5_ BK377 hb
  have n3_ := b4_ HB hb
  clear HO_4
  clear BK367
  clear BK377
  clear HB
  have HO_4 := n0_
  have BK367 := n1_
  have BK377 := n2_
  have HB := n3_
  clear n0_ n1_ n2_ n3_
  (try clear hb)
  refine hK.out _ _ ⟨(bC_ BK377.out 0).trans rfl, (bC_ BK377.out 1).trans rfl, (bC_ BK377.out 2).trans rfl, HS3_⟩ (fun hHeld => ?_)
  clear hK K
  refine norm_ (by show Act.put _ (some 41) _ = _; simp only [Act.put, sA_, sB_, sC_, i6_, i3_]; rfl) ?_
  refine pu_ HT_ 9 42 #[ty, ty, ty, ty, ty, ty, ty, ty, ty, ty, fy, fy, fy] ?_
  refine last_ (i := 10) (N := some 43) #[ty, ty, ty, ty, ty, ty, ty, ty, ty, ty, ty, fy, fy] rfl rfl (one_of HT_.out (by kernel_rfl)) (by decide) (fun K hK => ?_)
  refine value_ (w1 := ?_) (v := ?_) (by rfl) rfl ?_ ?_
  rotate_left 2
  ·
   go_simp
   constructor
   ·
    rfl
   rfl
  refine hK.out _ _ ?_
  clear hK K
  refine norm_ (by show Act.put _ (some 43) _ = _; simp only [Act.put, sA_, sB_, sC_, i6_, i3_]; rfl) ?_
  refine last_ (i := 11) (N := some 44) #[ty, ty, ty, ty, ty, ty, ty, ty, ty, ty, ty, ty, fy] rfl rfl (one_of HT_.out (by kernel_rfl)) (by decide) (fun K hK => ?_)
  refine Kd.R_append_step Kd.string (w0 := w) w.heap.size (by rfl) (.tmp 33) (.tmp 43) 49 9 (.string ⟨#[]⟩) 16 rfl Tryz.underlying49 info9 rfl (by decide) (by omega) (.slice (some ad380) x4_1.length co27) x4_1 ((rdOf eB_ x4_1 ((rd_T76 y372 x17_1).f1)) ++ t381) [.string ((rdOf eB_ x4_1 ((rd_T76 y372 x17_1).f1)) ++ t381)] (fun _ => True) (fun _ => False) rfl rfl ?aP (fun _ hk => hk.elim) ?aF ?aO ?aB ?aS ?aL ?_
  (case aP => exact rfl)
  (case aB => exact HB.out)
  (case aF => exact (fun _ _ => trivial))
  (case aO => exact HO_4.out)
  (case aS => exact (bZ_ HB.out))
  (case aL => have := LMc21.out; omega)
  intro v383 w29 ho hb hg hat
  rw [← Ny382.out] at ho
  have n0_ := aM_ (blk_grown (g := gb367) (o := .cells #[.slice A0_0 l0_0.length c0_0] 36 (0, 0)) BK367.out hg (k6_ HO_4.out BK367.out (by decide)))
  have n1_ := aM_ (blk_grown (g := gb377) (o := .cells #[.int .i64 ((rd_T76 y372 x17_1).f0), .int .i64 ((rd_T76 y372 x17_1).f1), .bool ((rd_T76 y372 x17_1).f2)] 76 (0, 0)) BK377.out hg (k6_ HO_4.out BK377.out (by decide)))
  have n2_ := aM_ (hb)
  have n3_ := aM_ (ho)
  clear BK367
  clear BK377
  clear HB
  clear HO_4
  have BK367 := n0_
  have BK377 := n1_
  have HB := n2_
  have HO384 := n3_
  clear n0_ n1_ n2_ n3_
  clear ho hb hg hat
  refine hK.out _ _ ?_
  clear hK K
  refine norm_ (by show Act.put _ (some 44) _ = _; simp only [Act.put, sA_, sB_, sC_, i6_, i3_]; rfl) ?_
  refine pu_ HT_ 12 4 #[ty, ty, ty, ty, ty, ty, ty, ty, ty, ty, ty, ty, ty] ?_
  refine done_ (done_of HT_.out (by kernel_rfl)) ?_
  try go_wp2
  go_roundg k1
  case measure => have := HK1.out; omega
  case rel => exact ⟨(y382), (wrap64 (x17_1 + 1)), (by rfl), H', ⟨by have := HK1.out; omega⟩, ⟨HO384.out⟩, ⟨BK367.out⟩, ⟨HB.out⟩⟩
end Go.Proofs.YtfhffcefpnkllaaGreatDoor.P
