/-
  Part 4 of the proof that FnExactDropPressed returns true for every input: the functions that it reaches, each with its contract, and the law.
  Conditions: those of the given statement, no others.
-/
import Derived.Test.YtfhffcefpnkllaaGreatDoorCFnExactDropPressedW0
import Derived.WalkKit
import Derived.ProofKit
import Derived.OpenShut
import Derived.Deep.Slices
import Derived.Deep.Fields
import Derived.ChangeSame
import Derived.Lib.SmallJoins
import Derived.Sort.Walk0
import Derived.Test.YtfhffcefpnkllaaGreatDoorCFnExactDropPressed0
import Derived.Test.YtfhffcefpnkllaaGreatDoorCFnExactDropPressed2
import Derived.Test.YtfhffcefpnkllaaGreatDoorCFnExactDropPressed1
set_option linter.unusedVariables false
set_option linter.unusedSimpArgs false
set_option maxHeartbeats 8000000
set_option maxRecDepth 100000
namespace Go.Proofs.YtfhffcefpnkllaaGreatDoor.P
open Go.RowKit Go.Proofs.YtfhffcefpnkllaaGreatDoorW.PrintWords Go.Proofs.YtfhffcefpnkllaaGreatDoorW.PrintLast Go.Proofs.YtfhffcefpnkllaaGreatDoorW.PrintMore
open Go.Proofs.YtfhffcefpnkllaaGreatDoorW.PrintWords renaming blk_frozen → bF_, blk_cell → bC_, below_set → bS_, blk_below → bB_, below_step → bT_, pw_below_drewN → bN_, below_size → bZ_, below_drew1 → bD_, below_alloc → bA_, blk_far → bR_, gate_callee → gC_, gate_dst → gD_, box_event → bE_, blk_drew → b1_, blk_put → bP_, blk_drewN → b2_, blk_alloc → b3_, blk_lt → bL_, cell_far → cF_
open Go.Proofs.YtfhffcefpnkllaaGreatDoorW.PrintLast renaming any_of → aO_, i64_w → i6_, i32_w → i3_, take_ofW → tW_
open Go.Proofs.YtfhffcefpnkllaaGreatDoorW.PrintWords.Kd renaming R_below → kB_, R_mono → kM_, R_far → kF_, R_reads' → kR_, R_types → kT_, R_slice → kS_, R_celln → kC_, R_alloc → k1_, R_drewN → k2_, R_drew → k3_, C_below → k4_, R_lower → k5_, R_ne → k6_, own_blk → k7_
open Go.Proofs.YtfhffcefpnkllaaGreatDoorW.PrintWords.LeO renaming none → l0_, bind → l1_, ite → l2_, refl → l3_
open World renaming block_lt_of_cell? → wB_
open _root_.Option renaming bind_eq_some_iff → oB_
open _root_.ByteArray renaming empty → eB_
open List renaming setIfInBounds_toArray → sA_, set_cons_zero → sB_, set_cons_succ → sC_, map_toArray → sD_, map_cons → sE_, map_nil → sF_, length_drop → sG_, length_take → sH_
open Bool renaming true → ty, false → fy
open Aside0 renaming mk → aM_
attribute [local go_sem] max2_int min2_int max_two min_two max_three min_three max_four min_four
def iF7.f (k : Nat) (l0_0 : List (S60)) (a1 : ByteArray) : Option ((List (S60)) × Int × Bool) := (iF20.f k l0_0 a1).bind fun bt853 => (some (bt853.1, wrap64 (-bt853.2.1), bt853.2.2))
theorem iF7.mono : ∀ a0 a1 k, LeO (iF7.f k a0 a1) (iF7.f (k + 1) a0 a1) := by
 intro a0 a1 k
 unfold iF7.f
 repeat' with_reducible first | exact iF20.mono _ _ _ | exact l3_ _ | exact l0_ _ | refine l2_ ?_ ?_ | refine l1_ ?_ (fun _ => ?_)
theorem iF7.calls (k : Nat) (A0_0 : Option Addr) (c0_0 : Nat) (l0_0 : List (S60)) (a1 : ByteArray) (r1 : List (S60)) (r2 : Int) (r3 : Bool) (w : World) (hr0_0 : Kd.C k60 w A0_0 l0_0.length l0_0) (hc0_0 : l0_0.length ≤ c0_0) (h : iF7.f k l0_0 a1 = some (r1, r2, r3)) :
  Calls Tryz.prog 25 #[.agg #[.slice A0_0 l0_0.length c0_0], .string a1] w fun e w' => ∃ v0_ : Value, e = .returned (.tuple #[.agg #[v0_], .int .i64 r2, .bool r3]) ∧ Kd.R k60 60 w' w.heap.size (fun _ => True) v0_ r1 ∧ Below w.heap.size w w' := by
 have hu30 := Tryz.underlying30
 have HR0_0 := aM_ hr0_0
 have HC0_0 := aM_ hc0_0
 clear hr0_0 hc0_0
 have HB := aM_ (Below.refl w.heap.size w)
 have H : ((iF20.f k l0_0 a1).bind fun bt853 => (some (bt853.1, wrap64 (-bt853.2.1), bt853.2.2))) = some (r1, r2, r3) := h
 clear h
 replace H := oB_.mp H
 obtain ⟨⟨t853, t856, t857⟩, A30, H⟩ := H
 try dsimp only at H
 have A3 := aM_ A30
 clear A30
 simp only [Option.some.injEq, Prod.mk.injEq] at H
 obtain ⟨rfl, rfl, rfl⟩ := H
 go_enter Tryz.func25, Tryz.ntmps25
 go_wp2_with (first | (refine bx_ 2 #[.slice A0_0 l0_0.length c0_0] 30 ?_; intro gb851 hg w4 hbox hb; have BK851 := aM_ (hbox); have GW851 := gw_ hg HB; replace HB := b4_ HB hb; clear hb hbox hg) | (refine bx_ 4 #[.slice none 0 0] 30 ?_; intro gb852 hg w5 hbox hb; have BK852 := aM_ (hbox); have GW852 := gw_ hg HB; replace HB := b4_ HB hb; have NB851_852 := nb_ hg BK851; have NB852_851 := ns_ NB851_852; replace BK851 := b5_ BK851 hb; clear hb hbox hg; have hnb6 := NB851_852.out; have hnc6 := NB852_851.out; have hcz7_0 := c0_ BK851; have hfz7_0 := bF_ BK851.out 0) | (refine gs_ 13 Tryz.func48 #[.agg #[.slice A0_0 l0_0.length c0_0], .string a1, .func (.func 52) #[] #[]] ?_; (with_reducible refine (iF20.calls k _ _ l0_0 a1 t853 t856 t857 _ ?side1 HC0_0.out A3.out).mono ?_); (case side1 => repeat (first | exact (k4_ HR0_0.out HB.out) | with_reducible first | apply cA_ | apply cN_ | apply cD_)); rintro e w8 ⟨v854, rfl, ho0, hb⟩; refine ⟨_, rfl, ?_⟩; have HO855 := aM_ (k5_ ho0 (bZ_ HB.out)); replace BK851 := b5_ BK851 hb; replace BK852 := b5_ BK852 hb; replace HB := b4_ HB hb; (try clear hb); (try clear ho0)) | (refine bx_ 7 #[.slice none 0 0] 30 ?_; intro gb858 hg w9 hbox hb; replace HO855 := k9_ HO855 hb; have BK858 := aM_ (hbox); have GW858 := gw_ hg HB; replace HB := b4_ HB hb; have NB851_858 := nb_ hg BK851; have NB858_851 := ns_ NB851_858; replace BK851 := b5_ BK851 hb; have NB852_858 := nb_ hg BK852; have NB858_852 := ns_ NB852_858; replace BK852 := b5_ BK852 hb; clear hb hbox hg; obtain ⟨Ao10, co10, eo10⟩ := kS_ HO855.out; subst eo10; have hnb11 := NB858_851.out; have hnc11 := NB851_858.out; have hnb12 := NB858_852.out; have hnc12 := NB852_858.out; have hcz13_0 := c0_ BK858; have hfz13_0 := bF_ BK858.out 0; have hcz14_0 := c0_ BK852; have hfz14_0 := bF_ BK852.out 0))
 refine bodyPost_ret (results_ctt rfl _ _ gb852 30 #[.slice Ao10 t853.length co10] (0, 0) _ rfl (by refine bP_ (cs := #[.slice none 0 0]) ?_ 0 _ rfl; exact br_ NB852_858.out (BK852.out)) Tryz.underlying30 rfl (by kernel_rfl)) rfl ?_
 exact ⟨_, by rfl, by exact kM_ (kF_ (p := ⟨gb852, 0, none⟩) (kF_ (p := ⟨gb858, 0, none⟩) (kT_ (kT_ HO855.out BK858.out (by decide)) BK852.out (by decide)) (fun _ hk => hk.1.2) (.slice Ao10 t853.length co10)) (fun _ hk => hk.2) (.slice Ao10 t853.length co10)) (fun _ hk => trivial), by repeat with_reducible first | exact HB.out | apply bA_ | apply bN_ | apply bD_ | refine bS_ ?_ (Aside0.out ‹_›)⟩
def wF38.f (a0_0 : ByteArray) (a0_1 : Int) (a0_2 : Bool) (a1 : Int) : Option (Int) := if (wrap64 (a1 - (a0_0.size : Int))) < 0 then (some (-1)) else (some (wrap64 (a1 - (a0_0.size : Int))))
theorem wF38.calls (a0_0 : ByteArray) (a0_1 : Int) (a0_2 : Bool) (a1 : Int) (r : Int) (w : World) (h : wF38.f a0_0 a0_1 a0_2 a1 = some r) :
  Calls Tryz.prog 53 #[.agg #[.string a0_0, .int .i64 a0_1, .bool a0_2], .int .i64 a1] w fun e w' => e = .returned (.int .i64 r) ∧ Below w.heap.size w w' := by
 have hu71 := Tryz.underlying71
 have HB := aM_ (Below.refl w.heap.size w)
 have H : (if (wrap64 (a1 - (a0_0.size : Int))) < 0 then (some (-1)) else (some (wrap64 (a1 - (a0_0.size : Int))))) = some r := h
 clear h
 by_cases c3 : (wrap64 (a1 - (a0_0.size : Int))) < 0
 ·
  rw [if_pos c3] at H
  have c3b0 := dT_ c3
  clear c3
  obtain rfl := Option.some.inj H
  go_enter Tryz.func53, Tryz.ntmps53
  go_wp2_with (first | (refine bx_ 2 #[.string a0_0, .int .i64 a0_1, .bool a0_2] 71 ?_; intro gb101 hg w4 hbox hb; have BK101 := aM_ (hbox); have GW101 := gw_ hg HB; replace HB := b4_ HB hb; clear hb hbox hg; have hcz5_0 := c0_ BK101; have hcz5_1 := c1_ BK101; have hcz5_2 := c2_ BK101; have hfz5_0 := bF_ BK101.out 0; have hfz5_1 := bF_ BK101.out 1; have hfz5_2 := bF_ BK101.out 2))
  go_ret
  exact ⟨by rfl, by exact HB.out⟩
 rw [if_neg c3] at H
 have c3b0 := dF_ c3
 clear c3
 obtain rfl := Option.some.inj H
 go_enter Tryz.func53, Tryz.ntmps53
 go_wp2_with (first | (refine bx_ 2 #[.string a0_0, .int .i64 a0_1, .bool a0_2] 71 ?_; intro gb101 hg w6 hbox hb; have BK101 := aM_ (hbox); have GW101 := gw_ hg HB; replace HB := b4_ HB hb; clear hb hbox hg; have hcz7_0 := c0_ BK101; have hcz7_1 := c1_ BK101; have hcz7_2 := c2_ BK101; have hfz7_0 := bF_ BK101.out 0; have hfz7_1 := bF_ BK101.out 1; have hfz7_2 := bF_ BK101.out 2))
 go_ret
 exact ⟨by rfl, by exact HB.out⟩
def wF39.l0 : Nat → List (S71) → Int → Int → Option (Int)
 | 0, _, _, _ => none
 | k + 1, x0, x1, x5 => if x5 < (x0.length : Int) then (if 0 ≤ x5 then ((wF38.f ((rd_T71 x0 x5).f0) ((rd_T71 x0 x5).f1) ((rd_T71 x0 x5).f2) x1).bind fun t103 => (if t103 < 0 then (some (-1)) else (wF39.l0 k x0 t103 (wrap64 (x5 + 1))))) else (none)) else (some x1)
def wF39.f (k : Nat) (l0 : List (S71)) (a1 : Int) : Option (Int) := if (wrap64 (a1 - (l0.length : Int))) < 0 then (some (-1)) else (wF39.l0 k l0 (wrap64 (a1 - (l0.length : Int))) 0)
theorem wF39.mono_l : ∀ k, (∀ y0 y1 y2, LeO (wF39.l0 k y0 y1 y2) (wF39.l0 (k + 1) y0 y1 y2))
 | 0 => fun _ _ _ r h => by simp [wF39.l0] at h
 | k + 1 => by
  have ih0 := wF39.mono_l k
  intro y0 y1 y2
  unfold wF39.l0
  repeat' with_reducible first | exact ih0 _ _ _ | exact l3_ _ | exact l0_ _ | refine l2_ ?_ ?_ | refine l1_ ?_ (fun _ => ?_)
theorem wF39.mono : ∀ a0 a1 k, LeO (wF39.f k a0 a1) (wF39.f (k + 1) a0 a1) := by
 intro a0 a1 k
 have ih0 := wF39.mono_l k
 unfold wF39.f
 repeat' with_reducible first | exact ih0 _ _ _ | exact l3_ _ | exact l0_ _ | refine l2_ ?_ ?_ | refine l1_ ?_ (fun _ => ?_)
theorem wF39.calls (k : Nat) (A0 : Option Addr) (c0 : Nat) (l0 : List (S71)) (a1 : Int) (r : Int) (w : World) (hr0 : Kd.C k71 w A0 l0.length l0) (hc0 : l0.length ≤ c0) (h : wF39.f k l0 a1 = some r) :
  Calls Tryz.prog 26 #[.slice A0 l0.length c0, .int .i64 a1] w fun e w' => e = .returned (.int .i64 r) ∧ Below w.heap.size w w' := by
 have hu71 := Tryz.underlying71
 have HR0 := aM_ hr0
 have HC0 := aM_ hc0
 clear hr0 hc0
 have HB := aM_ (Below.refl w.heap.size w)
 have H : (if (wrap64 (a1 - (l0.length : Int))) < 0 then (some (-1)) else (wF39.l0 k l0 (wrap64 (a1 - (l0.length : Int))) 0)) = some r := h
 clear h
 by_cases c3 : (wrap64 (a1 - (l0.length : Int))) < 0
 ·
  rw [if_pos c3] at H
  have c3b0 := dT_ c3
  clear c3
  obtain rfl := Option.some.inj H
  go_enter Tryz.func26, Tryz.ntmps26
  go_wp2
  go_ret
  exact ⟨by rfl, by exact HB.out⟩
 rw [if_neg c3] at H
 have c3b0 := dF_ c3
 clear c3
 have H' := aM_ H
 clear H
 go_enter Tryz.func26, Tryz.ntmps26
 go_wp2
 go_loopg [1, 5] k (fun kq v1 v5 w' => ∃ (x1_1 : Int) (x5_1 : Int), v1 = .int .i64 x1_1 ∧ v5 = .int .i64 x5_1 ∧ Aside0 (wF39.l0 kq l0 x1_1 x5_1 = some r) ∧ Aside0 (kq ≤ k) ∧ Aside0 (Below w.heap.size w w'))
 case atStart => exact ⟨(wrap64 (a1 - (l0.length : Int))), (0), (by rfl), (by rfl), H', ⟨Nat.le_refl _⟩, ⟨HB.out⟩⟩
 clear H'
 try clear p2
 try clear c3b0
 obtain ⟨x1_1, x5_1, rfl, rfl, HA, HK1, HB⟩ := hrel
 cases gk with
 | zero => exact absurd HA.out (by simp [wF39.l0])
 | succ k1 =>
  have H := HA.out
  clear HA
  simp only [wF39.l0] at H
  by_cases c4 : x5_1 < (l0.length : Int)
  rotate_left
  ·
   rw [if_neg c4] at H
   have c4b0 := dF_ c4
   clear c4
   obtain rfl := Option.some.inj H
   go_wp2
   go_ret
   exact ⟨by rfl, by exact HB.out⟩
  rw [if_pos c4] at H
  have c4b0 := dT_ c4
  clear c4
  by_cases c5 : 0 ≤ x5_1
  rotate_left
  ·
   rw [if_neg c5] at H
   exact absurd H (by simp)
  rw [if_pos c5] at H
  have c5b0 := dT_ c5
  clear c5
  replace H := oB_.mp H
  obtain ⟨t103, A60, H⟩ := H
  try dsimp only at H
  have A6 := aM_ A60
  clear A60
  by_cases c7 : t103 < 0
  ·
   rw [if_pos c7] at H
   have c7b0 := dT_ c7
   clear c7
   obtain rfl := Option.some.inj H
   have p102 : 0 ≤ (x5_1 : Int) := oD_ ‹_›
   have q102 : x5_1 < (l0.length : Int) := oD_ ‹_›
   obtain ⟨ad102, e102, hx102_0, hx102_1, hx102_2⟩ := at_T71 HR0.out x5_1 p102 q102
   cases e102
   replace hx102_0 := cb_ HB hx102_0
   replace hx102_1 := cb_ HB hx102_1
   replace hx102_2 := cb_ HB hx102_2
   replace p102 := eq_true p102
   replace q102 := eq_true q102
   go_wp2_with (first | (refine gs_ 23 Tryz.func53 #[.agg #[.string ((rd_T71 l0 x5_1).f0), .int .i64 ((rd_T71 l0 x5_1).f1), .bool ((rd_T71 l0 x5_1).f2)], .int .i64 x1_1] ?_; (with_reducible refine (wF38.calls ((rd_T71 l0 x5_1).f0) ((rd_T71 l0 x5_1).f1) ((rd_T71 l0 x5_1).f2) x1_1 t103 _ A6.out).mono ?_); rintro e w8 ⟨rfl, hb⟩; refine ⟨_, rfl, ?_⟩; replace HB := b4_ HB hb; (try clear hb)))
   go_ret
   exact ⟨by rfl, by exact HB.out⟩
  rw [if_neg c7] at H
  have c7b0 := dF_ c7
  clear c7
  have H' := aM_ H
  clear H
  have p102 : 0 ≤ (x5_1 : Int) := oD_ ‹_›
  have q102 : x5_1 < (l0.length : Int) := oD_ ‹_›
  obtain ⟨ad102, e102, hx102_0, hx102_1, hx102_2⟩ := at_T71 HR0.out x5_1 p102 q102
  cases e102
  replace hx102_0 := cb_ HB hx102_0
  replace hx102_1 := cb_ HB hx102_1
  replace hx102_2 := cb_ HB hx102_2
  replace p102 := eq_true p102
  replace q102 := eq_true q102
  go_wp2_with (first | (refine gs_ 23 Tryz.func53 #[.agg #[.string ((rd_T71 l0 x5_1).f0), .int .i64 ((rd_T71 l0 x5_1).f1), .bool ((rd_T71 l0 x5_1).f2)], .int .i64 x1_1] ?_; (with_reducible refine (wF38.calls ((rd_T71 l0 x5_1).f0) ((rd_T71 l0 x5_1).f1) ((rd_T71 l0 x5_1).f2) x1_1 t103 _ A6.out).mono ?_); rintro e w9 ⟨rfl, hb⟩; refine ⟨_, rfl, ?_⟩; replace HB := b4_ HB hb; (try clear hb)))
  go_roundg k1
  case measure => have := HK1.out; omega
  case rel => exact ⟨(t103), (wrap64 (x5_1 + 1)), (by rfl), (by rfl), H', ⟨by have := HK1.out; omega⟩, ⟨HB.out⟩⟩
def wF40.f (k : Nat) (l0_0 : List (S71)) (a1 : Int) : Option (Int) := (wF39.f k l0_0 a1).bind fun t105 => (if t105 < 0 then (some (-1)) else (some t105))
theorem wF40.mono : ∀ a0 a1 k, LeO (wF40.f k a0 a1) (wF40.f (k + 1) a0 a1) := by
 intro a0 a1 k
 unfold wF40.f
 repeat' with_reducible first | exact wF39.mono _ _ _ | exact l3_ _ | exact l0_ _ | refine l2_ ?_ ?_ | refine l1_ ?_ (fun _ => ?_)
theorem wF40.calls (k : Nat) (A0_0 : Option Addr) (c0_0 : Nat) (l0_0 : List (S71)) (a1 : Int) (r : Int) (w : World) (hr0_0 : Kd.C k71 w A0_0 l0_0.length l0_0) (hc0_0 : l0_0.length ≤ c0_0) (h : wF40.f k l0_0 a1 = some r) :
  Calls Tryz.prog 8 #[.agg #[.slice A0_0 l0_0.length c0_0], .int .i64 a1] w fun e w' => e = .returned (.int .i64 r) ∧ Below w.heap.size w w' := by
 have hu24 := Tryz.underlying24
 have HR0_0 := aM_ hr0_0
 have HC0_0 := aM_ hc0_0
 clear hr0_0 hc0_0
 have HB := aM_ (Below.refl w.heap.size w)
 have H : ((wF39.f k l0_0 a1).bind fun t105 => (if t105 < 0 then (some (-1)) else (some t105))) = some r := h
 clear h
 replace H := oB_.mp H
 obtain ⟨t105, A30, H⟩ := H
 try dsimp only at H
 have A3 := aM_ A30
 clear A30
 by_cases c4 : t105 < 0
 ·
  rw [if_pos c4] at H
  have c4b0 := dT_ c4
  clear c4
  obtain rfl := Option.some.inj H
  go_enter Tryz.func8, Tryz.ntmps8
  go_wp2_with (first | (refine bx_ 2 #[.slice A0_0 l0_0.length c0_0] 24 ?_; intro gb104 hg w5 hbox hb; have BK104 := aM_ (hbox); have GW104 := gw_ hg HB; replace HB := b4_ HB hb; clear hb hbox hg; have hcz6_0 := c0_ BK104; have hfz6_0 := bF_ BK104.out 0) | (refine gs_ 8 Tryz.func26 #[.slice A0_0 l0_0.length c0_0, .int .i64 a1] ?_; (with_reducible refine (wF39.calls k _ _ l0_0 a1 t105 _ ?side1 HC0_0.out A3.out).mono ?_); (case side1 => repeat (first | exact (k4_ HR0_0.out HB.out) | with_reducible first | apply cA_ | apply cN_ | apply cD_)); rintro e w7 ⟨rfl, hb⟩; refine ⟨_, rfl, ?_⟩; replace BK104 := b5_ BK104 hb; replace HB := b4_ HB hb; (try clear hb)))
  go_ret
  exact ⟨by rfl, by exact HB.out⟩
 rw [if_neg c4] at H
 have c4b0 := dF_ c4
 clear c4
 obtain rfl := Option.some.inj H
 go_enter Tryz.func8, Tryz.ntmps8
 go_wp2_with (first | (refine bx_ 2 #[.slice A0_0 l0_0.length c0_0] 24 ?_; intro gb104 hg w8 hbox hb; have BK104 := aM_ (hbox); have GW104 := gw_ hg HB; replace HB := b4_ HB hb; clear hb hbox hg; have hcz9_0 := c0_ BK104; have hfz9_0 := bF_ BK104.out 0) | (refine gs_ 8 Tryz.func26 #[.slice A0_0 l0_0.length c0_0, .int .i64 a1] ?_; (with_reducible refine (wF39.calls k _ _ l0_0 a1 t105 _ ?side1 HC0_0.out A3.out).mono ?_); (case side1 => repeat (first | exact (k4_ HR0_0.out HB.out) | with_reducible first | apply cA_ | apply cN_ | apply cD_)); rintro e w10 ⟨rfl, hb⟩; refine ⟨_, rfl, ?_⟩; replace BK104 := b5_ BK104 hb; replace HB := b4_ HB hb; (try clear hb)))
 go_ret
 exact ⟨by rfl, by exact HB.out⟩
end Go.Proofs.YtfhffcefpnkllaaGreatDoor.P
namespace Go.Proofs.YtfhffcefpnkllaaGreatDoor.P
open Go.RowKit Go.Proofs.YtfhffcefpnkllaaGreatDoorW.PrintWords Go.Proofs.YtfhffcefpnkllaaGreatDoorW.PrintLast Go.Proofs.YtfhffcefpnkllaaGreatDoorW.PrintMore
attribute [local go_sem] max2_int min2_int max_two min_two max_three min_three max_four min_four
namespace OA
open Go.ChangeShapes Go.WideShapes Go.Deep Go.ChangeAt Go.Joins
section
variable {H : Type} {enc : TypeId × Value → H} {P : Program} {w : World} {base : Nat} {spare : Nat → Bool} {held : Bool}
theorem fields {t e : TypeId} {fs : Array Field} {fuel : Nat} {cs : List Value} {x : DataW H × List MemPlace} (ht : P.underlying t = some (.slice e)) (he : P.underlying e = some (.struct fs))
  (hone : oneCellFields P fs = true) (hC : P.cellsOf e = fs.size) (h : DataW.trod enc P w base spare held fuel t cs = some x) :
  (cs = [.slice none 0 0]) ∨
  ∃ (a : Addr) (len cap : Nat), cs = [.slice (some a) len cap] ∧ len ≤ cap ∧ cap ≤ maxLen ∧
   ∀ i, i < len → ∃ n : Nat, ∀ (j : Nat) (f : Field), fs[j]? = some f → ∃ (v : Value) (y : DataW H × List MemPlace), w.cell? (a.add (i * fs.size + j)) = some v ∧ DataW.trod enc P w base spare held n f.type [v] = some y := by
 rcases open_slice ht h with h0 | ⟨a, len, cap, m, n, D, Pl, hcs, hb, hl, hm, hmm, hx, hi⟩
 ·
  exact .inl h0.1
 refine .inr ⟨a, len, cap, hcs, hl, hm, fun i hil => ?_⟩
 have him : i < m := by rw [hmm]; split <;> omega
 obtain ⟨cs', hc, ht'⟩ := hi i him
 rw [hC] at hc
 obtain ⟨ys, n', hn', hy, hlen, hyl, hf⟩ := DataW.trod_struct he ht'
 obtain ⟨_, hcl, hat⟩ := World.cells?_some hc
 refine ⟨n', fun j f hj => ?_⟩
 obtain ⟨ho, hk⟩ := hone_of hone j f hj
 have hjl : j < fs.size := (Array.getElem?_eq_some_iff.1 hj).1
 have hcell := hat j hjl
 have hv : cs'[j]? = some (cs'[j]'(by omega)) := List.getElem?_eq_getElem (by omega)
 have h1 := hf j f hj
 rw [ho, hk] at h1
 have hone' : (cs'.drop j).take 1 = [cs'[j]'(by omega)] := by
  rw [List.drop_eq_getElem_cons (by omega)]
  rfl
 rw [hone'] at h1
 have hys : ys[j]? = some (ys[j]'(by omega)) := List.getElem?_eq_getElem (by omega)
 refine ⟨_, _, ?_, h1.trans hys⟩
 rw [← Go.Deep.add_add, hcell, hv]
theorem array1 {α : Type} {cs : Array α} (h : cs.size = 1) : ∃ c0, cs = #[c0] := by
 obtain ⟨l⟩ := cs
 match l, h with
 | [c0], _ => exact ⟨c0, rfl⟩
theorem agg1 {r : Reach} {b0 : Nat} {t : TypeId} {f0 : Field} {v : Value} {d : DataW H} {p : List MemPlace} (hs : P.underlying t = some (.struct #[f0])) (hone : oneCellFields P #[f0] = true) (hC : P.cellsOf t = 1)
  (hv : Value.okWide P w r b0 t v) (h : DataW.Trod enc P w base spare held t v d p) :
  ∃ (v0 : Value) (y0 : DataW H × List MemPlace) (n : Nat), v = .agg #[v0] ∧ DataW.trod enc P w base spare held n f0.type [v0] = some y0 := by
 obtain ⟨cs, rfl, hsz⟩ := okWide_struct hs hv
 obtain ⟨c0, rfl⟩ := array1 (hsz.trans hC)
 obtain ⟨fuel, hf⟩ := h
 obtain ⟨xs, n, _, hx, _, hlen, hg⟩ := DataW.trod_struct hs hf
 obtain ⟨o0, k0⟩ := hone_of hone 0 f0 rfl
 have h0 := hg 0 f0 rfl
 have hl : 0 < xs.length := by rw [hlen]; exact Nat.zero_lt_one
 rw [List.getElem?_eq_getElem hl] at h0
 exact ⟨c0, _, n, rfl, by simpa [Value.cells, o0, k0] using h0⟩
end
end OA
end Go.Proofs.YtfhffcefpnkllaaGreatDoor.P
namespace Go.Proofs.YtfhffcefpnkllaaGreatDoor.P
open Go.RowKit Go.Proofs.YtfhffcefpnkllaaGreatDoorW.PrintWords Go.Proofs.YtfhffcefpnkllaaGreatDoorW.PrintLast Go.Proofs.YtfhffcefpnkllaaGreatDoorW.PrintMore
attribute [local go_sem] max2_int min2_int max_two min_two max_three min_three max_four min_four
namespace OPr
open Go.ChangeShapes Go.WideShapes Go.Deep Go.ChangeAt Go.Joins OA
theorem pressed {H : Type} {enc : TypeId × Value → H} {w : World} {base : Nat} {spare : Nat → Bool} {held : Bool} {r : Reach} {b0 : Nat} {v : Value} {d : DataW H} {p : List MemPlace}
  (hv : Value.okWide Tryz.prog w r b0 24 v) (h : DataW.Trod enc Tryz.prog w base spare held 24 v d p) :
  ∃ (A : Option Addr) (cap : Nat) (l : List S71), v = .agg #[.slice A l.length cap] ∧ l.length ≤ cap ∧ Kd.C k71 w A l.length l ∧ (∀ x ∈ l, x.f0.size ≤ 9223372036854775807) := by
 obtain ⟨v0, y0, n, rfl, h0⟩ := agg1 Tryz.underlying24 (by kernel_rfl) (by kernel_rfl) hv h
 rcases fields Tryz.underlying22 Tryz.underlying71 (by kernel_rfl) (by kernel_rfl) h0 with e | ⟨a, len, cap, e, hl, hm, hi⟩
 ·
  obtain rfl : v0 = .slice none 0 0 := by simpa using e
  exact ⟨none, 0, [], rfl, Nat.le_refl _, ⟨rfl, by simp, fun h => absurd h (Nat.lt_irrefl _)⟩, fun x hx => by simp at hx⟩
 obtain rfl : v0 = .slice (some a) len cap := by simpa using e
 have hex : ∀ i, i < len → ∃ x : S71, w.cell? (a.add (i * 3 + 0)) = some (.string x.f0) ∧ w.cell? (a.add (i * 3 + 1)) = some (.int .i64 x.f1) ∧ w.cell? (a.add (i * 3 + 2)) = some (.bool x.f2) ∧ x.f0.size ≤ maxLen := by
  intro i hil
  obtain ⟨n, hf⟩ := hi i hil
  obtain ⟨u0, y0, c0, t0⟩ := hf 0 _ rfl
  obtain ⟨u1, y1, c1, t1⟩ := hf 1 _ rfl
  obtain ⟨u2, y2, c2, t2⟩ := hf 2 _ rfl
  obtain ⟨n0, e0, _, z0⟩ := DataW.trod_string Tryz.underlying9 t0
  obtain ⟨n1, e1, _, _⟩ := DataW.trod_int Tryz.underlying3 t1
  obtain ⟨b2, e2, _⟩ := DataW.trod_bool Tryz.underlying4 t2
  simp only [List.cons.injEq, and_true] at e0 e1 e2
  subst e0 e1 e2
  exact ⟨⟨n0, n1, b2⟩, c0, c1, c2, z0⟩
 obtain ⟨g, hg⟩ : ∃ g : Nat → S71, ∀ i, i < len → w.cell? (a.add (i * 3 + 0)) = some (.string (g i).f0) ∧ w.cell? (a.add (i * 3 + 1)) = some (.int .i64 (g i).f1) ∧ w.cell? (a.add (i * 3 + 2)) = some (.bool (g i).f2) ∧ (g i).f0.size ≤ maxLen :=
  ⟨fun i => if h : i < len then Classical.choose (hex i h) else z71, fun i h => by simp only [dif_pos h]; exact Classical.choose_spec (hex i h)⟩
 refine ⟨some a, cap, (List.range len).map g, by simp, by simpa using hl, ⟨by simp, ?_, fun _ => ⟨a, rfl, fun j p hj => ?_⟩⟩, fun x hx => ?_⟩
 ·
  have : (maxLen : Nat) ≤ 9223372036854775807 := by decide
  simp; omega
 ·
  obtain ⟨hjl, rfl⟩ := List.getElem?_eq_some_iff.1 hj
  have hjl' : j < len := by simpa using hjl
  obtain ⟨c0, c1, c2, _⟩ := hg j hjl'
  rw [List.getElem_map, List.getElem_range]
  refine ⟨_, rfl, k71_mk w (g j), fun i u hu => ?_⟩
  match i, hu with
  | 0, hu => obtain rfl := Option.some.inj hu; exact c0
  | 1, hu => obtain rfl := Option.some.inj hu; exact c1
  | 2, hu => obtain rfl := Option.some.inj hu; exact c2
 obtain ⟨i, hi, rfl⟩ := List.mem_map.1 hx
 have := (hg i (by simpa using hi)).2.2.2
 have h2 : (maxLen : Nat) ≤ 9223372036854775807 := by decide
 omega
end OPr
end Go.Proofs.YtfhffcefpnkllaaGreatDoor.P
namespace Go.Proofs.YtfhffcefpnkllaaGreatDoor.M
open Go.RowKit Go.Proofs.YtfhffcefpnkllaaGreatDoorW.PrintWords
theorem wrap64_id {x : Int} (h0 : -9223372036854775808 ≤ x) (h1 : x ≤ 9223372036854775807) : wrap64 x = x := by unfold wrap64; omega
theorem wrap64_succ (n : Nat) (h : n < 4611686018427387904) : wrap64 ((n : Int) + 1) = ((n + 1 : Nat) : Int) := by rw [wrap64_id (by omega) (by omega)]; rfl
theorem rd_nat (xs : List Int) (n : Nat) : rd xs (n : Int) = xs.getD n 0 := by simp [rd]
theorem getD_lt {α : Type} (z : α) {xs : List α} {n : Nat} (h : n < xs.length) : xs.getD n z = xs[n] := by simp [List.getD_eq_getElem?_getD, h]
theorem drop_cons_getD {α : Type} (z : α) {xs : List α} {n : Nat} (h : n < xs.length) : xs.drop n = xs.getD n z :: xs.drop (n + 1) := by
 rw [getD_lt z h]; exact List.drop_eq_getElem_cons h
theorem take_succ_getD {α : Type} (z : α) {xs : List α} {n : Nat} (h : n < xs.length) : xs.take (n + 1) = xs.take n ++ [xs.getD n z] := by
 rw [getD_lt z h, List.take_succ_eq_append_getElem h]
theorem fill_set {α : Type} (z : α) (xs : List α) (n : Nat) (h : n < xs.length) (y : α) : (xs.take n ++ List.replicate (xs.length - n) y).set n (xs.getD n z) = xs.take (n + 1) ++ List.replicate (xs.length - (n + 1)) y := by
 have hl : (xs.take n).length = n := by simp; omega
 rw [List.set_append_right _ _ (by omega), hl, Nat.sub_self, show xs.length - n = (xs.length - (n + 1)) + 1 from by omega, List.replicate_succ, List.set_cons_zero, take_succ_getD z h, List.append_assoc]
 rfl
theorem Ev.some_bind {α β : Type} {a : α} {f : Nat → α → Option β} {r : β} (k : Ev (fun n => f n a) r) : Ev (fun n => (some a).bind fun t => f n t) r := k
theorem Ev.ifT {α : Type} {c : Prop} [Decidable c] {f g : Nat → Option α} {r : α} (h : c) (k : Ev f r) : Ev (fun n => if c then f n else g n) r := by simpa only [if_pos h] using k
theorem Ev.ifF {α : Type} {c : Prop} [Decidable c] {f g : Nat → Option α} {r : α} (h : ¬ c) (k : Ev g r) : Ev (fun n => if c then f n else g n) r := by simpa only [if_neg h] using k
def B (l : List UInt8) : ByteArray := ⟨l.toArray⟩
theorem exB (a : ByteArray) : ∃ l, a = B l := ⟨a.data.toList, ByteArray.ext (by simp [B])⟩
@[simp] theorem data_B (l : List UInt8) : (B l).data.toList = l := by simp [B]
@[simp] theorem toList_B (l : List UInt8) : (B l).toList = l := by rw [Go.ByteArray.toList_eq]; simp
@[simp] theorem size_B (l : List UInt8) : (B l).size = l.length := by rw [← ByteArray.size_data, ← Array.length_toList, data_B]
theorem B_data (a : ByteArray) : B a.data.toList = a := ByteArray.ext (by simp [B])
theorem B_inj {l m : List UInt8} (h : B l = B m) : l = m := by rw [← data_B l, h, data_B]
theorem B_eq {l m : List UInt8} : B l = B m ↔ l = m := ⟨B_inj, fun h => by rw [h]⟩
theorem eq_B {a : ByteArray} {l : List UInt8} (h : a.data.toList = l) : a = B l := by rw [← h, B_data]
@[simp] theorem append_B (l m : List UInt8) : B l ++ B m = B (l ++ m) := eq_B (by simp)
@[simp] theorem extract_B (l : List UInt8) (a b : Nat) : (B l).extract a b = B ((l.drop a).take (b - a)) := eq_B (by simp)
@[simp] theorem nil_B : (⟨#[]⟩ : ByteArray) = B [] := rfl
theorem bt_B (l : List UInt8) (n : Nat) (h : n < l.length) : bt (B l) (n : Int) = ((l.getD n 0).toNat : Int) := by
 have h2 : ((n : Int).toNat) < (B l).size := by simpa using h
 rw [bt, dif_pos h2, getD_lt 0 h]
 simp [B, ByteArray.getElem_eq_getElem_data]
def letterB (c : UInt8) : Bool := decide (97 ≤ c.toNat ∧ c.toNat ≤ 122)
end Go.Proofs.YtfhffcefpnkllaaGreatDoor.M
namespace Go.Proofs.YtfhffcefpnkllaaGreatDoor.M
abbrev Txt := List UInt8
theorem txt_irrefl (a : Txt) : ¬ a < a := List.lt_irrefl a
theorem txt_trans {a b c : Txt} (h : a < b) (k : b < c) : a < c := List.lt_trans h k
theorem txt_asymm {a b : Txt} (h : a < b) : ¬ b < a := fun k => txt_irrefl a (txt_trans h k)
theorem txt_tri {a b : Txt} (h : ¬ a < b) (k : ¬ b < a) : a = b := List.le_antisymm (List.not_lt.1 k) (List.not_lt.1 h)
def putL : List Txt → Txt → List Txt
 | [], w => [w]
 | x :: r, w => if x < w then x :: putL r w else if x = w then x :: r else w :: x :: r
def foundL : List Txt → Txt → Bool
 | [], _ => false
 | x :: r, w => if x < w then foundL r w else decide (x = w)
theorem putL_found : ∀ (l : List Txt) (w : Txt), foundL l w = true → putL l w = l
 | [], _, h => by simp [foundL] at h
 | x :: r, w, h => by
  by_cases h1 : x < w
  ·
   simp only [foundL, if_pos h1] at h; simp only [putL, if_pos h1, putL_found r w h]
  simp only [foundL, if_neg h1, decide_eq_true_eq] at h; simp only [putL, if_neg h1, if_pos h]
def Asc (l : List Txt) : Prop := l.Pairwise (· < ·)
theorem mem_putL : ∀ (l : List Txt) (w y : Txt), y ∈ putL l w ↔ y = w ∨ y ∈ l
 | [], w, y => by simp [putL]
 | x :: r, w, y => by
  by_cases h1 : x < w
  ·
   simp only [putL, if_pos h1, List.mem_cons, mem_putL r w y]
   constructor
   ·
    rintro (h | h | h)
    ·
     exact .inr (.inl h)
    ·
     exact .inl h
    exact .inr (.inr h)
   rintro (h | h | h)
   ·
    exact .inr (.inl h)
   ·
    exact .inl h
   exact .inr (.inr h)
  by_cases h2 : x = w
  ·
   simp only [putL, if_neg h1, if_pos h2, List.mem_cons]
   constructor
   ·
    exact fun h => .inr h
   rintro (h | h)
   ·
    exact .inl (h.trans h2.symm)
   exact h
  simp [putL, h1, h2]
theorem asc_putL : ∀ (l : List Txt) (w : Txt), Asc l → Asc (putL l w)
 | [], w, _ => by simp [putL, Asc]
 | x :: r, w, h => by
  unfold Asc at h ⊢
  rw [List.pairwise_cons] at h
  by_cases h1 : x < w
  ·
   simp only [putL, if_pos h1, List.pairwise_cons]
   refine ⟨fun y hy => ?_, asc_putL r w h.2⟩
   rcases (mem_putL r w y).1 hy with rfl | hy
   ·
    exact h1
   exact h.1 y hy
  by_cases h2 : x = w
  ·
   simp only [putL, if_neg h1, if_pos h2]; exact List.pairwise_cons.2 h
  simp only [putL, if_neg h1, if_neg h2, List.pairwise_cons]
  have hw : w < x := by
   by_cases h3 : w < x
   ·
    exact h3
   exact absurd (txt_tri h1 h3) h2
  refine ⟨fun y hy => ?_, h⟩
  rcases List.mem_cons.1 hy with rfl | hy
  ·
   exact hw
  exact txt_trans hw (h.1 y hy)
theorem asc_ext : ∀ (l m : List Txt), Asc l → Asc m → (∀ y, y ∈ l ↔ y ∈ m) → l = m
 | [], [], _, _, _ => rfl
 | [], y :: m, _, _, h => absurd ((h y).2 (by simp)) (by simp)
 | x :: l, [], _, _, h => absurd ((h x).1 (by simp)) (by simp)
 | x :: l, y :: m, hl, hm, h => by
  unfold Asc at hl hm
  rw [List.pairwise_cons] at hl hm
  have hxy : x = y := by
   rcases List.mem_cons.1 ((h x).1 (by simp)) with e | hx
   ·
    exact e
   rcases List.mem_cons.1 ((h y).2 (by simp)) with e | hy
   ·
    exact e.symm
   exact absurd (hm.1 x hx) (txt_asymm (hl.1 y hy))
  subst hxy
  rw [asc_ext l m hl.2 hm.2 ?_]
  intro z
  have := h z
  simp only [List.mem_cons] at this
  constructor
  ·
   intro hz
   rcases this.1 (.inr hz) with e | hz'
   ·
    exact absurd (hl.1 z hz) (by rw [e]; exact txt_irrefl _)
   exact hz'
  intro hz
  rcases this.2 (.inr hz) with e | hz'
  ·
   exact absurd (hm.1 z hz) (by rw [e]; exact txt_irrefl _)
  exact hz'
def setL (l : List Txt) : List Txt := l.foldl putL []
theorem foldl_putL_mem : ∀ (l acc : List Txt) (y : Txt), y ∈ l.foldl putL acc ↔ y ∈ l ∨ y ∈ acc
 | [], acc, y => by simp
 | x :: l, acc, y => by
  rw [List.foldl_cons, foldl_putL_mem l, mem_putL]
  simp only [List.mem_cons]
  constructor
  ·
   rintro (h | h | h)
   ·
    exact .inl (.inr h)
   ·
    exact .inl (.inl h)
   exact .inr h
  rintro ((h | h) | h)
  ·
   exact .inr (.inl h)
  ·
   exact .inl h
  exact .inr (.inr h)
theorem foldl_putL_asc : ∀ (l acc : List Txt), Asc acc → Asc (l.foldl putL acc)
 | [], _, h => h
 | _ :: l, acc, h => foldl_putL_asc l _ (asc_putL acc _ h)
theorem mem_setL (l : List Txt) (y : Txt) : y ∈ setL l ↔ y ∈ l := by simp [setL, foldl_putL_mem]
theorem asc_setL (l : List Txt) : Asc (setL l) := foldl_putL_asc l [] List.Pairwise.nil
theorem setL_of_asc {l : List Txt} (h : Asc l) : setL l = l := asc_ext _ _ (asc_setL l) h (mem_setL l)
theorem putL_length_le : ∀ (l : List Txt) (w : Txt), (putL l w).length ≤ l.length + 1
 | [], w => by simp [putL]
 | x :: r, w => by
  have := putL_length_le r w
  by_cases h1 : x < w
  ·
   simp only [putL, if_pos h1, List.length_cons]; omega
  by_cases h2 : x = w
  ·
   simp only [putL, if_neg h1, if_pos h2, List.length_cons]; omega
  simp only [putL, if_neg h1, if_neg h2, List.length_cons]; omega
end Go.Proofs.YtfhffcefpnkllaaGreatDoor.M
namespace Go.Proofs.YtfhffcefpnkllaaGreatDoor.P
open Go.RowKit Go.Proofs.YtfhffcefpnkllaaGreatDoorW.PrintWords Go.Proofs.YtfhffcefpnkllaaGreatDoorW.PrintLast Go.Proofs.YtfhffcefpnkllaaGreatDoorW.PrintMore
open Go.Proofs.YtfhffcefpnkllaaGreatDoorW.PrintWords renaming blk_frozen → bF_, blk_cell → bC_, below_set → bS_, blk_below → bB_, below_step → bT_, pw_below_drewN → bN_, below_size → bZ_, below_drew1 → bD_, below_alloc → bA_, blk_far → bR_, gate_callee → gC_, gate_dst → gD_, box_event → bE_, blk_drew → b1_, blk_put → bP_, blk_drewN → b2_, blk_alloc → b3_, blk_lt → bL_, cell_far → cF_
open Go.Proofs.YtfhffcefpnkllaaGreatDoorW.PrintLast renaming any_of → aO_, i64_w → i6_, i32_w → i3_, take_ofW → tW_
open Go.Proofs.YtfhffcefpnkllaaGreatDoorW.PrintWords.Kd renaming R_below → kB_, R_mono → kM_, R_far → kF_, R_reads' → kR_, R_types → kT_, R_slice → kS_, R_celln → kC_, R_alloc → k1_, R_drewN → k2_, R_drew → k3_, C_below → k4_, R_lower → k5_, R_ne → k6_, own_blk → k7_
open Go.Proofs.YtfhffcefpnkllaaGreatDoorW.PrintWords.LeO renaming none → l0_, bind → l1_, ite → l2_, refl → l3_
open World renaming block_lt_of_cell? → wB_
open _root_.Option renaming bind_eq_some_iff → oB_
open _root_.ByteArray renaming empty → eB_
open List renaming setIfInBounds_toArray → sA_, set_cons_zero → sB_, set_cons_succ → sC_, map_toArray → sD_, map_cons → sE_, map_nil → sF_, length_drop → sG_, length_take → sH_
open Bool renaming true → ty, false → fy
open Aside0 renaming mk → aM_
attribute [local go_sem] max2_int min2_int max_two min_two max_three min_three max_four min_four
def sF60.l0 : Nat → List ByteArray → ByteArray → Int → Option (List ByteArray)
 | 0, _, _, _ => none
 | k + 1, x0, x1, x5 => if x5 < (x0.length : Int) then (if 0 ≤ x5 then ((sF52.f k (rdOf eB_ x0 x5) x1).bind fun t171 => (if t171 = true then (sF60.l0 k x0 x1 (wrap64 (x5 + 1))) else (if (rdOf eB_ x0 x5).toList = x1.toList then (none) else (if x5 ≤ (x0.length : Int) then ((sF56.f (x0.take (x5 : Int).toNat)).bind fun t174 => ((some (([x1] : List ByteArray) : List ByteArray)).bind fun y177 => (if t174.length + y177.length < 8796093022208 then ((some (t174 ++ y177 : List ByteArray)).bind fun y180 => (if y180.length + (x0.drop (x5 : Int).toNat).length < 8796093022208 then (some (y180 ++ (x0.drop (x5 : Int).toNat))) else (none))) else (none)))) else (none))))) else (none)) else (if 0 ≤ x5 then (if x5 ≤ (x0.length : Int) then ((sF56.f (x0.take (x5 : Int).toNat)).bind fun t188 => ((some (([x1] : List ByteArray) : List ByteArray)).bind fun y191 => (if t188.length + y191.length < 8796093022208 then ((some (t188 ++ y191 : List ByteArray)).bind fun y194 => (if y194.length + (x0.drop (x5 : Int).toNat).length < 8796093022208 then (some (y194 ++ (x0.drop (x5 : Int).toNat))) else (none))) else (none)))) else (none)) else (none))
def sF60.f (k : Nat) (l0 : List ByteArray) (a1 : ByteArray) : Option (List ByteArray) := sF60.l0 k l0 a1 0
theorem sF60.mono_l : ∀ k, (∀ y0 y1 y2, LeO (sF60.l0 k y0 y1 y2) (sF60.l0 (k + 1) y0 y1 y2))
 | 0 => fun _ _ _ r h => by simp [sF60.l0] at h
 | k + 1 => by
  have ih0 := sF60.mono_l k
  intro y0 y1 y2
  unfold sF60.l0
  repeat' with_reducible first | exact ih0 _ _ _ | exact sF52.mono _ _ _ | exact l3_ _ | exact l0_ _ | refine l2_ ?_ ?_ | refine l1_ ?_ (fun _ => ?_)
theorem sF60.mono : ∀ a0 a1 k, LeO (sF60.f k a0 a1) (sF60.f (k + 1) a0 a1) := by
 intro a0 a1 k
 have ih0 := sF60.mono_l k
 unfold sF60.f
 repeat' with_reducible first | exact ih0 _ _ _ | exact sF52.mono _ _ _ | exact l3_ _ | exact l0_ _ | refine l2_ ?_ ?_ | refine l1_ ?_ (fun _ => ?_)
def sF60.T6 : Bool × List (List Nat × List Nat) := (true, [([], []), ([], []), ([0, 1], [0, 1]), ([2], [2]), ([], []), ([4], [4]), ([3, 5, 3], [3, 5]), ([], []), ([], []), ([7, 8], [7, 8]), ([6, 9, 6], [6, 9]), ([10, 10, 0, 1, 2, 3, 4, 5, 6, 7, 8, 9, 10], [10])])
def sF60.B6 : List Nat := [0, 0, 3, 7, 0, 16, 63, 0, 0, 384, 1023, 2047]
theorem sF60.tab6 : rtab .any (opsOf Tryz.f73 6) = sF60.T6 := by kernel_rfl
theorem sF60.bits6 : waitsOk sF60.T6.2 sF60.B6 = true := by kernel_rfl
theorem sF60.calls (k : Nat) (A0 : Option Addr) (c0 : Nat) (l0 : List ByteArray) (a1 : ByteArray) (r : List ByteArray) (w : World) (hr0 : Kd.C Kd.string w A0 l0.length l0) (hc0 : l0.length ≤ c0) (h : sF60.f k l0 a1 = some r) :
  Calls Tryz.prog 73 #[.slice A0 l0.length c0, .string a1] w fun e w' => ∃ v0_ : Value, e = .returned (v0_) ∧ Kd.R Kd.string 9 w' w.heap.size (fun _ => True) v0_ r ∧ Below w.heap.size w w' := by
 have HR0 := aM_ hr0
 have HC0 := aM_ hc0
 clear hr0 hc0
 have HB := aM_ (Below.refl w.heap.size w)
 have H : (sF60.l0 k l0 a1 0) = some r := h
 clear h
 have H' := aM_ H
 clear H
 go_enter Tryz.func73, Tryz.ntmps73
 go_wp2
 go_loopg [5] k (fun kq v5 w' => ∃ (x5_1 : Int), v5 = .int .i64 x5_1 ∧ Aside0 (sF60.l0 kq l0 a1 x5_1 = some r) ∧ Aside0 (kq ≤ k) ∧ Aside0 (Below w.heap.size w w'))
 case atStart => exact ⟨(0), (by rfl), H', ⟨Nat.le_refl _⟩, ⟨HB.out⟩⟩
 clear H'
 try clear p2
 obtain ⟨x5_1, rfl, HA, HK1, HB⟩ := hrel
 cases gk with
 | zero => exact absurd HA.out (by simp [sF60.l0])
 | succ k1 =>
  have H := HA.out
  clear HA
  simp only [sF60.l0] at H
  by_cases c3 : x5_1 < (l0.length : Int)
  rotate_left
  ·
   rw [if_neg c3] at H
   have c3b0 := dF_ c3
   clear c3
   by_cases c25 : 0 ≤ x5_1
   rotate_left
   ·
    rw [if_neg c25] at H
    exact absurd H (by simp)
   rw [if_pos c25] at H
   have c25b0 := eq_true c25
   have c25b1 := dT_ c25
   clear c25
   by_cases c26 : x5_1 ≤ (l0.length : Int)
   rotate_left
   ·
    rw [if_neg c26] at H
    exact absurd H (by simp)
   rw [if_pos c26] at H
   have c26b0 := eq_true c26
   have c26b1 := dT_ c26
   clear c26
   replace H := oB_.mp H
   obtain ⟨t188, A270, H⟩ := H
   try dsimp only at H
   have A27 := aM_ A270
   clear A270
   obtain ⟨y191, hy191⟩ : ∃ y_ : List ByteArray, y_ = (([a1] : List ByteArray)) := ⟨_, rfl⟩
   replace H : (if t188.length + y191.length < 8796093022208 then ((some (t188 ++ y191 : List ByteArray)).bind fun y194 => (if y194.length + (l0.drop (x5_1 : Int).toNat).length < 8796093022208 then (some (y194 ++ (l0.drop (x5_1 : Int).toNat))) else (none))) else (none)) = some r := by (try rw [hy191]); first | with_reducible exact H | with_reducible exact oS_ H | exact H
   have Ny191 := aM_ hy191
   clear hy191
   by_cases c28 : t188.length + y191.length < 8796093022208
   rotate_left
   ·
    rw [if_neg c28] at H
    exact absurd H (by simp)
   rw [if_pos c28] at H
   have LMc28 := aM_ c28
   clear c28
   obtain ⟨y194, hy194⟩ : ∃ y_ : List ByteArray, y_ = (t188 ++ y191) := ⟨_, rfl⟩
   replace H : (if y194.length + (l0.drop (x5_1 : Int).toNat).length < 8796093022208 then (some (y194 ++ (l0.drop (x5_1 : Int).toNat))) else (none)) = some r := by (try rw [hy194]); first | with_reducible exact H | with_reducible exact oS_ H | exact H
   have Ny194 := aM_ hy194
   clear hy194
   have c29b0 := eq_true (oD_ ‹_› : 0 ≤ x5_1)
   have c30b0 := eq_true (oD_ ‹_› : x5_1 ≤ (l0.length : Int))
   by_cases c31 : y194.length + (l0.drop (x5_1 : Int).toNat).length < 8796093022208
   rotate_left
   ·
    rw [if_neg c31] at H
    exact absurd H (by simp)
   rw [if_pos c31] at H
   have LMc31 := aM_ c31
   clear c31
   obtain ⟨y198, hy198⟩ : ∃ y_ : List ByteArray, y_ = (y194 ++ (l0.drop (x5_1 : Int).toNat)) := ⟨_, rfl⟩
   replace H : (some y198) = some r := by (try rw [hy198]); first | with_reducible exact H | with_reducible exact oS_ H | exact H
   have Ny198 := aM_ hy198
   clear hy198
   obtain rfl := Option.some.inj H
   try go_wp2
   replace HB := aM_ (bD_ HB.out)
   obtain ⟨i033, hi033, _, hsz33, _⟩ := info_parts info9
   obtain ⟨hcut33, hA33, hC33⟩ := print_take_of (P := Tryz.prog) Value.string (⟨#[]⟩ : ByteArray) 49 9 .i64 Tryz.underlying49 hi033 hsz33 A0 c0 l0 x5_1 (oD_ ‹_›) (oD_ ‹_›) HC0.out
   have HR187 := aM_ (Kd.C_of_reads (h1 := fun _ => rfl) (hA33 _ (Kd.reads_of_C HR0.out)))
   have HC187 := aM_ hC33
   clear hA33 hC33 hi033 hsz33
   obtain ⟨i034, hi034, _, hsz34, _⟩ := info_parts info9
   obtain ⟨A34, hcut34, hA34, hC34⟩ := print_drop_of (P := Tryz.prog) Value.string (⟨#[]⟩ : ByteArray) 49 9 .i64 Tryz.underlying49 hi034 hsz34 A0 c0 l0 x5_1 (oD_ ‹_›) (oD_ ‹_›) HC0.out
   have HR197 := aM_ (Kd.C_of_reads (h1 := fun _ => rfl) (hA34 _ (Kd.reads_of_C HR0.out)))
   have HC197 := aM_ hC34
   clear hA34 hC34 hi034 hsz34
   refine start_ (n := 12) (S := fun w' => True) (ds := []) #[fy, fy, fy, fy, fy, fy, fy, fy, fy, fy, fy, fy] (by kernel_rfl) rfl rfl trivial (fun hHeld => ?_); refine with_tabW sF60.tab6 sF60.bits6 (fun HT_ HW_ => ?_)
   generalize wr.drew = w32 at HB HR187 HR197 hHeld ⊢
   refine pu_ HT_ 0 33 #[ty, fy, fy, fy, fy, fy, fy, fy, fy, fy, fy, fy] ?_
   refine pu_ HT_ 1 34 #[ty, ty, fy, fy, fy, fy, fy, fy, fy, fy, fy, fy] ?_
   refine pu_ HT_ 2 35 #[ty, ty, ty, fy, fy, fy, fy, fy, fy, fy, fy, fy] ?_
   refine pu_ HT_ 4 37 #[ty, ty, ty, fy, ty, fy, fy, fy, fy, fy, fy, fy] ?_
   refine pu_ HT_ 7 40 #[ty, ty, ty, fy, ty, fy, fy, ty, fy, fy, fy, fy] ?_
   refine pu_ HT_ 8 41 #[ty, ty, ty, fy, ty, fy, fy, ty, ty, fy, fy, fy] ?_
   refine pu_ HT_ 9 42 #[ty, ty, ty, fy, ty, fy, fy, ty, ty, ty, fy, fy] ?_
   refine join_ (σ := Value × Value) 3 #[ty, ty, ty, ty, ty, ty, fy, ty, ty, ty, fy, fy] (fun s_ => [(36, s_.1), (38, s_.2)]) (fun s_ w' => (Kd.R Kd.string 9 w' w.heap.size (fun k_ => some k_ ≠ (s_.2 : Value).ownBlock) s_.1 t188) ∧ (Kd.R Kd.string 9 w' w.heap.size (fun k_ => some k_ ≠ (s_.1 : Value).ownBlock) s_.2 y191) ∧ (Below w.heap.size w w')) ?_ ?_
   rotate_left
   ·
    intro hCont
    refine two_ (i := 3) (j := 5) (Ni := some 36) (Nj := some 38) #[ty, ty, ty, ty, ty, fy, fy, ty, ty, ty, fy, fy] #[ty, ty, ty, fy, ty, ty, fy, ty, ty, ty, fy, fy] rfl rfl rfl rfl (two_of HT_.out (by kernel_rfl)) (by decide) (by decide) (fun K hK => ?_) (fun K hK => ?_)
    ·
     skip
     refine goes_ Tryz.func78 (by kernel_rfl) rfl #[.slice A0 (l0.take (x5_1 : Int).toNat).length c0] (by rfl) rfl rfl (by (try simp only [sD_, sE_, sF_]); (rw [show (l0.take (x5_1 : Int).toNat).length = x5_1.toNat from (by rw [List.length_take]; have h_ : (x5_1 : Int) ≤ (l0.length : Int) := oD_ ‹_›; omega)] <;> rfl)) ?_
     with_reducible refine (sF56.calls _ _ (l0.take (x5_1 : Int).toNat) t188 _ ?side1 ?side2 A27.out).mono ?_
     (case side1 => repeat (first | exact (k4_ HR187.out HB.out) | with_reducible first | apply cA_ | apply cN_ | apply cD_))
     (case side2 => exact HC187.out)
     rintro e w35 ⟨v189, rfl, ho0, hb⟩
     refine ⟨_, rfl, ?_⟩
     have n0_ := aM_ (k5_ ho0 (bZ_ HB.out))
     have n1_ := b4_ HB hb
     clear HB
     have HO190 := n0_
     have HB := n1_
     clear n0_ n1_
     (try clear hb)
     (try clear ho0)
     refine hK.out _ _ trivial (fun hHeld => ?_)
     clear hK K
     refine norm_ (by show Act.put _ (some 36) _ = _; simp only [Act.put, sA_, sB_, sC_, i6_, i3_]; rfl) ?_
     refine one_ (i := 5) (N := some 38) #[ty, ty, ty, ty, ty, ty, fy, ty, ty, ty, fy, fy] rfl rfl (one_of HT_.out (by kernel_rfl)) (by decide) (fun K hK => ?_)
     refine Kd.R_lit_step Kd.string _ 9 ?hg (N := 38) ?hd (xs := ([a1] : List ByteArray)) (inner := [.string a1]) (ok := fun _ => True) (okp := fun _ => True) ?hr ?hp (fun _ hk => hk) trivial (Below.refl _ _) (Nat.le_refl _) (by simp) ?_; (case hd => rfl); (case hg => rfl); (case hr => (go_simp; done)); (case hp => exact (Reps.one (show Kd.M Kd.string _ _ _ a1 [.string a1] from rfl) (Reps.none _ _)))
     intro v192 w36 ho37 hb hg_ hnew_
     clear hg_ hnew_
     (rw [← Ny191.out] at ho37)
     have n0_ := aM_ (Kd.R_elder' HO190.out (Kd.R_base ho37) hb)
     have n1_ := aM_ (k5_ (Kd.R_new' ho37 (Kd.R_lt HO190.out)) (bZ_ HB.out))
     have n2_ := b4_ HB hb
     clear HO190
     clear HB
     have HO190 := n0_
     have HO193 := n1_
     have HB := n2_
     clear n0_ n1_ n2_
     clear hb ho37
     refine hK.out _ _ trivial (fun hHeld => ?_)
     clear hK K
     refine norm_ (by show Act.put _ (some 38) _ = _; simp only [Act.put, sA_, sB_, sC_, i6_, i3_]; rfl) ?_
     exact norm_ (by simp only [putAll, Act.put, sA_, sB_, sC_]) (hCont (v189, v192) _ ⟨(by exact kM_ HO190.out (fun _ hk => hk.2)), (by exact kM_ HO193.out (fun _ hk => hk.2)), HB.out⟩)
    skip
    refine Kd.R_lit_step Kd.string _ 9 ?hg (N := 38) ?hd (xs := ([a1] : List ByteArray)) (inner := [.string a1]) (ok := fun _ => True) (okp := fun _ => True) ?hr ?hp (fun _ hk => hk) trivial (Below.refl _ _) (Nat.le_refl _) (by simp) ?_; (case hd => rfl); (case hg => rfl); (case hr => (go_simp; done)); (case hp => exact (Reps.one (show Kd.M Kd.string _ _ _ a1 [.string a1] from rfl) (Reps.none _ _)))
    intro v192 w35 ho36 hb hg_ hnew_
    clear hg_ hnew_
    (rw [← Ny191.out] at ho36)
    have n0_ := aM_ (k5_ ho36 (bZ_ HB.out))
    have n1_ := b4_ HB hb
    clear HB
    have HO193 := n0_
    have HB := n1_
    clear n0_ n1_
    clear hb ho36
    refine hK.out _ _ trivial (fun hHeld => ?_)
    clear hK K
    refine norm_ (by show Act.put _ (some 38) _ = _; simp only [Act.put, sA_, sB_, sC_, i6_, i3_]; rfl) ?_
    refine one_ (i := 3) (N := some 36) #[ty, ty, ty, ty, ty, ty, fy, ty, ty, ty, fy, fy] rfl rfl (one_of HT_.out (by kernel_rfl)) (by decide) (fun K hK => ?_)
    refine goes_ Tryz.func78 (by kernel_rfl) rfl #[.slice A0 (l0.take (x5_1 : Int).toNat).length c0] (by rfl) rfl rfl (by (try simp only [sD_, sE_, sF_]); (rw [show (l0.take (x5_1 : Int).toNat).length = x5_1.toNat from (by rw [List.length_take]; have h_ : (x5_1 : Int) ≤ (l0.length : Int) := oD_ ‹_›; omega)] <;> rfl)) ?_
    with_reducible refine (sF56.calls _ _ (l0.take (x5_1 : Int).toNat) t188 _ ?side1 ?side2 A27.out).mono ?_
    (case side1 => repeat (first | exact (k4_ HR187.out HB.out) | with_reducible first | apply cA_ | apply cN_ | apply cD_))
    (case side2 => exact HC187.out)
    rintro e w37 ⟨v189, rfl, ho0, hb⟩
    refine ⟨_, rfl, ?_⟩
    have n0_ := aM_ (Kd.R_elder' HO193.out (Kd.R_base ho0) hb)
    have n1_ := aM_ (k5_ (Kd.R_new' ho0 (Kd.R_lt HO193.out)) (bZ_ HB.out))
    have n2_ := b4_ HB hb
    clear HO193
    clear HB
    have HO193 := n0_
    have HO190 := n1_
    have HB := n2_
    clear n0_ n1_ n2_
    (try clear hb)
    (try clear ho0)
    refine hK.out _ _ trivial (fun hHeld => ?_)
    clear hK K
    refine norm_ (by show Act.put _ (some 36) _ = _; simp only [Act.put, sA_, sB_, sC_, i6_, i3_]; rfl) ?_
    exact norm_ (by simp only [putAll, Act.put, sA_, sB_, sC_]) (hCont (v189, v192) _ ⟨(by exact kM_ HO190.out (fun _ hk => hk.2)), (by exact kM_ HO193.out (fun _ hk => hk.2)), HB.out⟩)
   rintro ⟨v189, v192⟩ w38 ⟨h0_, h1_, h2_⟩
   have n0_ : Aside0 (Kd.R Kd.string 9 w38 w.heap.size (fun k_ => some k_ ≠ (v192 : Value).ownBlock) v189 t188) := ⟨h0_⟩
   have n1_ : Aside0 (Kd.R Kd.string 9 w38 w.heap.size (fun k_ => some k_ ≠ (v189 : Value).ownBlock) v192 y191) := ⟨h1_⟩
   have n2_ : Aside0 (Below w.heap.size w w38) := ⟨h2_⟩
   clear HB
   clear h0_ h1_ h2_
   have HO190 := n0_
   have HO193 := n1_
   have HB := n2_
   clear n0_ n1_ n2_
   have hHeld := trivial
   obtain ⟨Ao40, co40, eo40⟩ := kS_ HO193.out
   (subst eo40)
   refine norm_ (a' := ?_) ?_ ?_
   rotate_left
   ·
    simp only [putAll, Act.put, sA_, sB_, sC_]
    rfl
   refine one_ (i := 6) (N := some 39) #[ty, ty, ty, ty, ty, ty, ty, ty, ty, ty, fy, fy] rfl rfl (one_of HT_.out (by kernel_rfl)) (by decide) (fun K hK => ?_)
   refine Kd.R_append_rows_step Kd.string (w0 := w) w.heap.size (by rfl) (.tmp 36) (.tmp 38) 49 9 (.string ⟨#[]⟩) 16 rfl Tryz.underlying49 info9 rfl (by decide) (by omega) v189 t188 y191 _ _ _ (fun k_ => some k_ ≠ (.slice Ao40 y191.length co40 : Value).ownBlock) (fun _ => False) rfl rfl ?aO ?aR (fun _ _ h => h) (fun _ h => h.elim) ?aF ?aB ?aS ?aL ?_
   (case aR => repeat (first | exact (kR_ HO193.out).2.2 | with_reducible first | apply cA_ | apply cN_ | apply cD_))
   (case aB => exact HB.out)
   (case aF => exact (fun k_ hk => Kd.fresh' (Kd.R_lt HO193.out) k_ hk))
   (case aO => exact HO190.out)
   (case aS => exact (bZ_ HB.out))
   (case aL => have := LMc28.out; omega)
   intro v195 w39 ho hb hg hat
   rw [← Ny194.out] at ho
   have n0_ := aM_ (Kd.R_after (ok := (fun _ => True)) (by exact kM_ HO193.out (fun _ hk => ⟨trivial, hk⟩)) hg hat)
   have n1_ := aM_ (hb)
   have n2_ := aM_ (ho)
   clear HO193
   clear HB
   clear HO190
   have HO193 := n0_
   have HB := n1_
   have HO196 := n2_
   clear n0_ n1_ n2_
   clear ho hb hg hat
   refine hK.out _ _ trivial (fun hHeld => ?_)
   clear hK K
   refine norm_ (by show Act.put _ (some 39) _ = _; simp only [Act.put, sA_, sB_, sC_, i6_, i3_]; rfl) ?_
   refine one_ (i := 10) (N := some 43) #[ty, ty, ty, ty, ty, ty, ty, ty, ty, ty, ty, fy] rfl rfl (one_of HT_.out (by kernel_rfl)) (by decide) (fun K hK => ?_)
   refine Kd.R_append_rows_step Kd.string (w0 := w) w.heap.size (by rfl) (.tmp 39) (.tmp 42) 49 9 (.string ⟨#[]⟩) 16 rfl Tryz.underlying49 info9 rfl (by decide) (by omega) v195 y194 (l0.drop (x5_1 : Int).toNat) _ _ _ (fun k_ => some k_ ≠ (.slice Ao40 y191.length co40 : Value).ownBlock) (fun _ => False) rfl rfl ?aO ?aR (fun _ _ h => h) (fun _ h => h.elim) ?aF ?aB ?aS ?aL ?_
   (case aR => (rw [← show (l0.drop (x5_1 : Int).toNat).length = (l0.length - x5_1.toNat) from List.length_drop]; repeat (first | exact (k4_ HR197.out HB.out) | with_reducible first | apply cA_ | apply cN_ | apply cD_)))
   (case aB => exact HB.out)
   (case aF => exact (fun k_ hk => Kd.fresh' (Kd.R_lt HO193.out) k_ hk))
   (case aO => exact HO196.out)
   (case aS => exact (bZ_ HB.out))
   (case aL => have := LMc31.out; have hlx_ := (show (l0.drop (x5_1 : Int).toNat).length = (l0.length - x5_1.toNat) from List.length_drop); omega)
   intro v199 w41 ho hb hg hat
   rw [← Ny198.out] at ho
   have n0_ := aM_ (Kd.R_after (ok := (fun _ => True)) HO193.out hg hat)
   have n1_ := aM_ (hb)
   have n2_ := aM_ (ho)
   clear HO193
   clear HB
   clear HO196
   have HO193 := n0_
   have HB := n1_
   have HO200 := n2_
   clear n0_ n1_ n2_
   clear ho hb hg hat
   refine hK.out _ _ trivial (fun hHeld => ?_)
   clear hK K
   refine norm_ (by show Act.put _ (some 43) _ = _; simp only [Act.put, sA_, sB_, sC_, i6_, i3_]; rfl) ?_
   refine pu_ HT_ 11 4 #[ty, ty, ty, ty, ty, ty, ty, ty, ty, ty, ty, ty] ?_
   refine done_ (done_of HT_.out (by kernel_rfl)) ?_
   try go_wp2
   go_ret
   exact ⟨_, by rfl, by exact kM_ HO200.out (fun _ hk => trivial), by exact HB.out⟩
  rw [if_pos c3] at H
  have c3b0 := dT_ c3
  clear c3
  by_cases c4 : 0 ≤ x5_1
  rotate_left
  ·
   rw [if_neg c4] at H
   exact absurd H (by simp)
  rw [if_pos c4] at H
  have c4b0 := dT_ c4
  clear c4
  replace H := oB_.mp H
  obtain ⟨t171, A50, H⟩ := H
  try dsimp only at H
  have A5 := aM_ A50
  clear A50
  by_cases c6 : t171 = true
  ·
   subst c6
   rw [if_pos rfl] at H
   have H' := aM_ H
   clear H
   have p170 : 0 ≤ (x5_1 : Int) := oD_ ‹_›
   have q170 : x5_1 < (l0.length : Int) := oD_ ‹_›
   obtain ⟨ad170, e170, hx170_0⟩ := Kd.at_string HR0.out x5_1 p170 q170
   cases e170
   replace hx170_0 := cb_ HB hx170_0
   replace p170 := eq_true p170
   replace q170 := eq_true q170
   go_wp2_with (first | (go_at_call 90; (with_reducible refine (sF52.calls k1 (rdOf eB_ l0 x5_1) a1 true _ A5.out).mono ?_); rintro e w' ⟨rfl, ⟨nd, rfl⟩⟩))
   go_roundg k1
   case measure => have := HK1.out; omega
   case rel => exact ⟨(wrap64 (x5_1 + 1)), (by rfl), H', ⟨by have := HK1.out; omega⟩, ⟨by repeat with_reducible first | exact HB.out | apply bA_ | apply bN_ | apply bD_⟩⟩
  replace c6 := Bool.eq_false_iff.mpr c6
  subst c6
  replace H : (if (rdOf eB_ l0 x5_1).toList = a1.toList then (none) else (if x5_1 ≤ (l0.length : Int) then ((sF56.f (l0.take (x5_1 : Int).toNat)).bind fun t174 => ((some (([a1] : List ByteArray) : List ByteArray)).bind fun y177 => (if t174.length + y177.length < 8796093022208 then ((some (t174 ++ y177 : List ByteArray)).bind fun y180 => (if y180.length + (l0.drop (x5_1 : Int).toNat).length < 8796093022208 then (some (y180 ++ (l0.drop (x5_1 : Int).toNat))) else (none))) else (none)))) else (none))) = some r := by rw [if_neg (show ¬ (false = true) by decide)] at H; exact H
  by_cases c7 : (rdOf eB_ l0 x5_1).toList = a1.toList
  ·
   rw [if_pos c7] at H
   exact absurd H (by simp)
  rw [if_neg c7] at H
  have c7b0 : ((rdOf eB_ l0 x5_1).toList == a1.toList) = false := beq_eq_false_iff_ne.mpr c7
  have c7b1 : ((rdOf eB_ l0 x5_1).toList != a1.toList) = true := bne_iff_ne.mpr c7
  have c8b0 := eq_true (oD_ ‹_› : 0 ≤ x5_1)
  by_cases c9 : x5_1 ≤ (l0.length : Int)
  rotate_left
  ·
   rw [if_neg c9] at H
   exact absurd H (by simp)
  rw [if_pos c9] at H
  have c9b0 := eq_true c9
  have c9b1 := dT_ c9
  clear c9
  replace H := oB_.mp H
  obtain ⟨t174, A100, H⟩ := H
  try dsimp only at H
  have A10 := aM_ A100
  clear A100
  obtain ⟨y177, hy177⟩ : ∃ y_ : List ByteArray, y_ = (([a1] : List ByteArray)) := ⟨_, rfl⟩
  replace H : (if t174.length + y177.length < 8796093022208 then ((some (t174 ++ y177 : List ByteArray)).bind fun y180 => (if y180.length + (l0.drop (x5_1 : Int).toNat).length < 8796093022208 then (some (y180 ++ (l0.drop (x5_1 : Int).toNat))) else (none))) else (none)) = some r := by (try rw [hy177]); first | with_reducible exact H | with_reducible exact oS_ H | exact H
  have Ny177 := aM_ hy177
  clear hy177
  by_cases c11 : t174.length + y177.length < 8796093022208
  rotate_left
  ·
   rw [if_neg c11] at H
   exact absurd H (by simp)
  rw [if_pos c11] at H
  have LMc11 := aM_ c11
  clear c11
  obtain ⟨y180, hy180⟩ : ∃ y_ : List ByteArray, y_ = (t174 ++ y177) := ⟨_, rfl⟩
  replace H : (if y180.length + (l0.drop (x5_1 : Int).toNat).length < 8796093022208 then (some (y180 ++ (l0.drop (x5_1 : Int).toNat))) else (none)) = some r := by (try rw [hy180]); first | with_reducible exact H | with_reducible exact oS_ H | exact H
  have Ny180 := aM_ hy180
  clear hy180
  have c12b0 := eq_true (oD_ ‹_› : 0 ≤ x5_1)
  have c13b0 := eq_true (oD_ ‹_› : x5_1 ≤ (l0.length : Int))
  by_cases c14 : y180.length + (l0.drop (x5_1 : Int).toNat).length < 8796093022208
  rotate_left
  ·
   rw [if_neg c14] at H
   exact absurd H (by simp)
  rw [if_pos c14] at H
  have LMc14 := aM_ c14
  clear c14
  obtain ⟨y184, hy184⟩ : ∃ y_ : List ByteArray, y_ = (y180 ++ (l0.drop (x5_1 : Int).toNat)) := ⟨_, rfl⟩
  replace H : (some y184) = some r := by (try rw [hy184]); first | with_reducible exact H | with_reducible exact oS_ H | exact H
  have Ny184 := aM_ hy184
  clear hy184
  obtain rfl := Option.some.inj H
  have p170 : 0 ≤ (x5_1 : Int) := oD_ ‹_›
  have q170 : x5_1 < (l0.length : Int) := oD_ ‹_›
  obtain ⟨ad170, e170, hx170_0⟩ := Kd.at_string HR0.out x5_1 p170 q170
  cases e170
  replace hx170_0 := cb_ HB hx170_0
  replace p170 := eq_true p170
  replace q170 := eq_true q170
  try go_wp2_with (first | (go_at_call 90; (with_reducible refine (sF52.calls k1 (rdOf eB_ l0 x5_1) a1 false _ A5.out).mono ?_); rintro e w' ⟨rfl, ⟨nd, rfl⟩⟩; have p172 : 0 ≤ (x5_1 : Int) := oD_ ‹_›; have q172 : x5_1 < (l0.length : Int) := oD_ ‹_›; obtain ⟨ad172, e172, hx172_0⟩ := Kd.at_string HR0.out x5_1 p172 q172; obtain rfl : ad170 = ad172 := (by injection e172); replace hx172_0 := cb_ HB hx172_0; replace p172 := eq_true p172; replace q172 := eq_true q172))
  (try (rw [drewN_self wr]; generalize hq_ : World.drewN wr _ = wr; have n0_ : Aside0 (Below w.heap.size w wr) := ⟨by rw [← hq_]; exact (by repeat with_reducible first | exact HB.out | apply bA_ | apply bN_ | apply bD_)⟩; clear HB hq_; have HB := n0_; clear n0_))
  replace HB := aM_ (bD_ HB.out)
  obtain ⟨i016, hi016, _, hsz16, _⟩ := info_parts info9
  obtain ⟨hcut16, hA16, hC16⟩ := print_take_of (P := Tryz.prog) Value.string (⟨#[]⟩ : ByteArray) 49 9 .i64 Tryz.underlying49 hi016 hsz16 (some ad170) c0 l0 x5_1 (oD_ ‹_›) (oD_ ‹_›) HC0.out
  have HR173 := aM_ (Kd.C_of_reads (h1 := fun _ => rfl) (hA16 _ (Kd.reads_of_C HR0.out)))
  have HC173 := aM_ hC16
  clear hA16 hC16 hi016 hsz16
  obtain ⟨i017, hi017, _, hsz17, _⟩ := info_parts info9
  obtain ⟨A17, hcut17, hA17, hC17⟩ := print_drop_of (P := Tryz.prog) Value.string (⟨#[]⟩ : ByteArray) 49 9 .i64 Tryz.underlying49 hi017 hsz17 (some ad170) c0 l0 x5_1 (oD_ ‹_›) (oD_ ‹_›) HC0.out
  have HR183 := aM_ (Kd.C_of_reads (h1 := fun _ => rfl) (hA17 _ (Kd.reads_of_C HR0.out)))
  have HC183 := aM_ hC17
  clear hA17 hC17 hi017 hsz17
  refine start_ (n := 12) (S := fun w' => True) (ds := []) #[fy, fy, fy, fy, fy, fy, fy, fy, fy, fy, fy, fy] (by kernel_rfl) rfl rfl trivial (fun hHeld => ?_); refine with_tabW sF60.tab6 sF60.bits6 (fun HT_ HW_ => ?_)
  generalize wr.drew = w15 at HB HR173 HR183 hHeld ⊢
  refine pu_ HT_ 0 33 #[ty, fy, fy, fy, fy, fy, fy, fy, fy, fy, fy, fy] ?_
  refine pu_ HT_ 1 34 #[ty, ty, fy, fy, fy, fy, fy, fy, fy, fy, fy, fy] ?_
  refine pu_ HT_ 2 35 #[ty, ty, ty, fy, fy, fy, fy, fy, fy, fy, fy, fy] ?_
  refine pu_ HT_ 4 37 #[ty, ty, ty, fy, ty, fy, fy, fy, fy, fy, fy, fy] ?_
  refine pu_ HT_ 7 40 #[ty, ty, ty, fy, ty, fy, fy, ty, fy, fy, fy, fy] ?_
  refine pu_ HT_ 8 41 #[ty, ty, ty, fy, ty, fy, fy, ty, ty, fy, fy, fy] ?_
  refine pu_ HT_ 9 42 #[ty, ty, ty, fy, ty, fy, fy, ty, ty, ty, fy, fy] ?_
  refine join_ (σ := Value × Value) 3 #[ty, ty, ty, ty, ty, ty, fy, ty, ty, ty, fy, fy] (fun s_ => [(36, s_.1), (38, s_.2)]) (fun s_ w' => (Kd.R Kd.string 9 w' w.heap.size (fun k_ => some k_ ≠ (s_.2 : Value).ownBlock) s_.1 t174) ∧ (Kd.R Kd.string 9 w' w.heap.size (fun k_ => some k_ ≠ (s_.1 : Value).ownBlock) s_.2 y177) ∧ (Below w.heap.size w w')) ?_ ?_
  rotate_left
  ·
   intro hCont
   refine two_ (i := 3) (j := 5) (Ni := some 36) (Nj := some 38) #[ty, ty, ty, ty, ty, fy, fy, ty, ty, ty, fy, fy] #[ty, ty, ty, fy, ty, ty, fy, ty, ty, ty, fy, fy] rfl rfl rfl rfl (two_of HT_.out (by kernel_rfl)) (by decide) (by decide) (fun K hK => ?_) (fun K hK => ?_)
   ·
    skip
    refine goes_ Tryz.func78 (by kernel_rfl) rfl #[.slice (some ad170) (l0.take (x5_1 : Int).toNat).length c0] (by rfl) rfl rfl (by (try simp only [sD_, sE_, sF_]); (rw [show (l0.take (x5_1 : Int).toNat).length = x5_1.toNat from (by rw [List.length_take]; have h_ : (x5_1 : Int) ≤ (l0.length : Int) := oD_ ‹_›; omega)] <;> rfl)) ?_
    with_reducible refine (sF56.calls _ _ (l0.take (x5_1 : Int).toNat) t174 _ ?side1 ?side2 A10.out).mono ?_
    (case side1 => repeat (first | exact (k4_ HR173.out HB.out) | with_reducible first | apply cA_ | apply cN_ | apply cD_))
    (case side2 => exact HC173.out)
    rintro e w18 ⟨v175, rfl, ho0, hb⟩
    refine ⟨_, rfl, ?_⟩
    have n0_ := aM_ (k5_ ho0 (bZ_ HB.out))
    have n1_ := b4_ HB hb
    clear HB
    have HO176 := n0_
    have HB := n1_
    clear n0_ n1_
    (try clear hb)
    (try clear ho0)
    refine hK.out _ _ trivial (fun hHeld => ?_)
    clear hK K
    refine norm_ (by show Act.put _ (some 36) _ = _; simp only [Act.put, sA_, sB_, sC_, i6_, i3_]; rfl) ?_
    refine one_ (i := 5) (N := some 38) #[ty, ty, ty, ty, ty, ty, fy, ty, ty, ty, fy, fy] rfl rfl (one_of HT_.out (by kernel_rfl)) (by decide) (fun K hK => ?_)
    refine Kd.R_lit_step Kd.string _ 9 ?hg (N := 38) ?hd (xs := ([a1] : List ByteArray)) (inner := [.string a1]) (ok := fun _ => True) (okp := fun _ => True) ?hr ?hp (fun _ hk => hk) trivial (Below.refl _ _) (Nat.le_refl _) (by simp) ?_; (case hd => rfl); (case hg => rfl); (case hr => (go_simp; done)); (case hp => exact (Reps.one (show Kd.M Kd.string _ _ _ a1 [.string a1] from rfl) (Reps.none _ _)))
    intro v178 w19 ho20 hb hg_ hnew_
    clear hg_ hnew_
    (rw [← Ny177.out] at ho20)
    have n0_ := aM_ (Kd.R_elder' HO176.out (Kd.R_base ho20) hb)
    have n1_ := aM_ (k5_ (Kd.R_new' ho20 (Kd.R_lt HO176.out)) (bZ_ HB.out))
    have n2_ := b4_ HB hb
    clear HO176
    clear HB
    have HO176 := n0_
    have HO179 := n1_
    have HB := n2_
    clear n0_ n1_ n2_
    clear hb ho20
    refine hK.out _ _ trivial (fun hHeld => ?_)
    clear hK K
    refine norm_ (by show Act.put _ (some 38) _ = _; simp only [Act.put, sA_, sB_, sC_, i6_, i3_]; rfl) ?_
    exact norm_ (by simp only [putAll, Act.put, sA_, sB_, sC_]) (hCont (v175, v178) _ ⟨(by exact kM_ HO176.out (fun _ hk => hk.2)), (by exact kM_ HO179.out (fun _ hk => hk.2)), HB.out⟩)
   skip
   refine Kd.R_lit_step Kd.string _ 9 ?hg (N := 38) ?hd (xs := ([a1] : List ByteArray)) (inner := [.string a1]) (ok := fun _ => True) (okp := fun _ => True) ?hr ?hp (fun _ hk => hk) trivial (Below.refl _ _) (Nat.le_refl _) (by simp) ?_; (case hd => rfl); (case hg => rfl); (case hr => (go_simp; done)); (case hp => exact (Reps.one (show Kd.M Kd.string _ _ _ a1 [.string a1] from rfl) (Reps.none _ _)))
   intro v178 w18 ho19 hb hg_ hnew_
   clear hg_ hnew_
   (rw [← Ny177.out] at ho19)
   have n0_ := aM_ (k5_ ho19 (bZ_ HB.out))
   have n1_ := b4_ HB hb
   clear HB
   have HO179 := n0_
   have HB := n1_
   clear n0_ n1_
   clear hb ho19
   refine hK.out _ _ trivial (fun hHeld => ?_)
   clear hK K
   refine norm_ (by show Act.put _ (some 38) _ = _; simp only [Act.put, sA_, sB_, sC_, i6_, i3_]; rfl) ?_
   refine one_ (i := 3) (N := some 36) #[ty, ty, ty, ty, ty, ty, fy, ty, ty, ty, fy, fy] rfl rfl (one_of HT_.out (by kernel_rfl)) (by decide) (fun K hK => ?_)
   refine goes_ Tryz.func78 (by kernel_rfl) rfl #[.slice (some ad170) (l0.take (x5_1 : Int).toNat).length c0] (by rfl) rfl rfl (by (try simp only [sD_, sE_, sF_]); (rw [show (l0.take (x5_1 : Int).toNat).length = x5_1.toNat from (by rw [List.length_take]; have h_ : (x5_1 : Int) ≤ (l0.length : Int) := oD_ ‹_›; omega)] <;> rfl)) ?_
   with_reducible refine (sF56.calls _ _ (l0.take (x5_1 : Int).toNat) t174 _ ?side1 ?side2 A10.out).mono ?_
   (case side1 => repeat (first | exact (k4_ HR173.out HB.out) | with_reducible first | apply cA_ | apply cN_ | apply cD_))
   (case side2 => exact HC173.out)
   rintro e w20 ⟨v175, rfl, ho0, hb⟩
   refine ⟨_, rfl, ?_⟩
   have n0_ := aM_ (Kd.R_elder' HO179.out (Kd.R_base ho0) hb)
   have n1_ := aM_ (k5_ (Kd.R_new' ho0 (Kd.R_lt HO179.out)) (bZ_ HB.out))
   have n2_ := b4_ HB hb
   clear HO179
   clear HB
   have HO179 := n0_
   have HO176 := n1_
   have HB := n2_
   clear n0_ n1_ n2_
   (try clear hb)
   (try clear ho0)
   refine hK.out _ _ trivial (fun hHeld => ?_)
   clear hK K
   refine norm_ (by show Act.put _ (some 36) _ = _; simp only [Act.put, sA_, sB_, sC_, i6_, i3_]; rfl) ?_
   exact norm_ (by simp only [putAll, Act.put, sA_, sB_, sC_]) (hCont (v175, v178) _ ⟨(by exact kM_ HO176.out (fun _ hk => hk.2)), (by exact kM_ HO179.out (fun _ hk => hk.2)), HB.out⟩)
  rintro ⟨v175, v178⟩ w21 ⟨h0_, h1_, h2_⟩
  have n0_ : Aside0 (Kd.R Kd.string 9 w21 w.heap.size (fun k_ => some k_ ≠ (v178 : Value).ownBlock) v175 t174) := ⟨h0_⟩
  have n1_ : Aside0 (Kd.R Kd.string 9 w21 w.heap.size (fun k_ => some k_ ≠ (v175 : Value).ownBlock) v178 y177) := ⟨h1_⟩
  have n2_ : Aside0 (Below w.heap.size w w21) := ⟨h2_⟩
  clear HB
  clear h0_ h1_ h2_
  have HO176 := n0_
  have HO179 := n1_
  have HB := n2_
  clear n0_ n1_ n2_
  have hHeld := trivial
  obtain ⟨Ao23, co23, eo23⟩ := kS_ HO179.out
  (subst eo23)
  refine norm_ (a' := ?_) ?_ ?_
  rotate_left
  ·
   simp only [putAll, Act.put, sA_, sB_, sC_]
   rfl
  refine one_ (i := 6) (N := some 39) #[ty, ty, ty, ty, ty, ty, ty, ty, ty, ty, fy, fy] rfl rfl (one_of HT_.out (by kernel_rfl)) (by decide) (fun K hK => ?_)
  refine Kd.R_append_rows_step Kd.string (w0 := w) w.heap.size (by rfl) (.tmp 36) (.tmp 38) 49 9 (.string ⟨#[]⟩) 16 rfl Tryz.underlying49 info9 rfl (by decide) (by omega) v175 t174 y177 _ _ _ (fun k_ => some k_ ≠ (.slice Ao23 y177.length co23 : Value).ownBlock) (fun _ => False) rfl rfl ?aO ?aR (fun _ _ h => h) (fun _ h => h.elim) ?aF ?aB ?aS ?aL ?_
  (case aR => repeat (first | exact (kR_ HO179.out).2.2 | with_reducible first | apply cA_ | apply cN_ | apply cD_))
  (case aB => exact HB.out)
  (case aF => exact (fun k_ hk => Kd.fresh' (Kd.R_lt HO179.out) k_ hk))
  (case aO => exact HO176.out)
  (case aS => exact (bZ_ HB.out))
  (case aL => have := LMc11.out; omega)
  intro v181 w22 ho hb hg hat
  rw [← Ny180.out] at ho
  have n0_ := aM_ (Kd.R_after (ok := (fun _ => True)) (by exact kM_ HO179.out (fun _ hk => ⟨trivial, hk⟩)) hg hat)
  have n1_ := aM_ (hb)
  have n2_ := aM_ (ho)
  clear HO179
  clear HB
  clear HO176
  have HO179 := n0_
  have HB := n1_
  have HO182 := n2_
  clear n0_ n1_ n2_
  clear ho hb hg hat
  refine hK.out _ _ trivial (fun hHeld => ?_)
  clear hK K
  refine norm_ (by show Act.put _ (some 39) _ = _; simp only [Act.put, sA_, sB_, sC_, i6_, i3_]; rfl) ?_
  refine one_ (i := 10) (N := some 43) #[ty, ty, ty, ty, ty, ty, ty, ty, ty, ty, ty, fy] rfl rfl (one_of HT_.out (by kernel_rfl)) (by decide) (fun K hK => ?_)
  refine Kd.R_append_rows_step Kd.string (w0 := w) w.heap.size (by rfl) (.tmp 39) (.tmp 42) 49 9 (.string ⟨#[]⟩) 16 rfl Tryz.underlying49 info9 rfl (by decide) (by omega) v181 y180 (l0.drop (x5_1 : Int).toNat) _ _ _ (fun k_ => some k_ ≠ (.slice Ao23 y177.length co23 : Value).ownBlock) (fun _ => False) rfl rfl ?aO ?aR (fun _ _ h => h) (fun _ h => h.elim) ?aF ?aB ?aS ?aL ?_
  (case aR => (rw [← show (l0.drop (x5_1 : Int).toNat).length = (l0.length - x5_1.toNat) from List.length_drop]; repeat (first | exact (k4_ HR183.out HB.out) | with_reducible first | apply cA_ | apply cN_ | apply cD_)))
  (case aB => exact HB.out)
  (case aF => exact (fun k_ hk => Kd.fresh' (Kd.R_lt HO179.out) k_ hk))
  (case aO => exact HO182.out)
  (case aS => exact (bZ_ HB.out))
  (case aL => have := LMc14.out; have hlx_ := (show (l0.drop (x5_1 : Int).toNat).length = (l0.length - x5_1.toNat) from List.length_drop); omega)
  intro v185 w24 ho hb hg hat
  rw [← Ny184.out] at ho
  have n0_ := aM_ (Kd.R_after (ok := (fun _ => True)) HO179.out hg hat)
  have n1_ := aM_ (hb)
  have n2_ := aM_ (ho)
  clear HO179
  clear HB
  clear HO182
  have HO179 := n0_
  have HB := n1_
  have HO186 := n2_
  clear n0_ n1_ n2_
  clear ho hb hg hat
  refine hK.out _ _ trivial (fun hHeld => ?_)
  clear hK K
  refine norm_ (by show Act.put _ (some 43) _ = _; simp only [Act.put, sA_, sB_, sC_, i6_, i3_]; rfl) ?_
  refine pu_ HT_ 11 4 #[ty, ty, ty, ty, ty, ty, ty, ty, ty, ty, ty, ty] ?_
  refine done_ (done_of HT_.out (by kernel_rfl)) ?_
  try go_wp2
  go_ret
  exact ⟨_, by rfl, by exact kM_ HO186.out (fun _ hk => trivial), by exact HB.out⟩
def sF61.l0 : Nat → List ByteArray → ByteArray → Int → Option (List ByteArray)
 | 0, _, _, _ => none
 | k + 1, x0, x1, x5 => if x5 < (x0.length : Int) then (if 0 ≤ x5 then ((sF52.f k (rdOf eB_ x0 x5) x1).bind fun t202 => (if t202 = true then (sF61.l0 k x0 x1 (wrap64 (x5 + 1))) else (if (rdOf eB_ x0 x5).toList = x1.toList then (some x0) else (none)))) else (none)) else (none)
def sF61.f (k : Nat) (l0 : List ByteArray) (a1 : ByteArray) : Option (List ByteArray) := sF61.l0 k l0 a1 0
theorem sF61.mono_l : ∀ k, (∀ y0 y1 y2, LeO (sF61.l0 k y0 y1 y2) (sF61.l0 (k + 1) y0 y1 y2))
 | 0 => fun _ _ _ r h => by simp [sF61.l0] at h
 | k + 1 => by
  have ih0 := sF61.mono_l k
  intro y0 y1 y2
  unfold sF61.l0
  repeat' with_reducible first | exact ih0 _ _ _ | exact sF52.mono _ _ _ | exact l3_ _ | exact l0_ _ | refine l2_ ?_ ?_ | refine l1_ ?_ (fun _ => ?_)
theorem sF61.mono : ∀ a0 a1 k, LeO (sF61.f k a0 a1) (sF61.f (k + 1) a0 a1) := by
 intro a0 a1 k
 have ih0 := sF61.mono_l k
 unfold sF61.f
 repeat' with_reducible first | exact ih0 _ _ _ | exact sF52.mono _ _ _ | exact l3_ _ | exact l0_ _ | refine l2_ ?_ ?_ | refine l1_ ?_ (fun _ => ?_)
theorem sF61.calls (k : Nat) (P0_ : Nat → Prop) (u9000_ : Value) (l0 : List ByteArray) (a1 : ByteArray) (r : List ByteArray) (w0 w : World) (hB : Below w0.heap.size w0 w) (ho0 : Kd.R Kd.string 9 w w0.heap.size P0_ u9000_ l0) (h : sF61.f k l0 a1 = some r) :
  Calls Tryz.prog 73 #[u9000_, .string a1] w fun e w' => ∃ v0_ : Value, e = .returned (v0_) ∧ Kd.R Kd.string 9 w' w0.heap.size (fun k_ => (P0_ k_ ∨ w.heap.size ≤ k_)) v0_ r ∧ Below w0.heap.size w0 w' ∧ Kept w w' (fun k_ => P0_ k_) := by
 have HO0 := aM_ (show Kd.R Kd.string 9 w w0.heap.size (fun k_ => (P0_ k_ ∨ w.heap.size ≤ k_)) u9000_ l0 from kM_ ho0 (fun k_ hk => (.inl hk)))
 have HK := aM_ (Kept.refl w (fun k_ => P0_ k_))
 have HW0 := aM_ hB.size
 have HB := aM_ hB
 clear hB
 have H : (sF61.l0 k l0 a1 0) = some r := h
 clear h
 have H' := aM_ H
 clear H
 go_enter Tryz.func73, Tryz.ntmps73
 go_wp2
 go_loopg [5] k (fun kq v5 w' => ∃ (x5_1 : Int), v5 = .int .i64 x5_1 ∧ Aside0 (sF61.l0 kq l0 a1 x5_1 = some r) ∧ Aside0 (kq ≤ k) ∧ Aside0 (Kd.R Kd.string 9 w' w0.heap.size (fun k_ => (P0_ k_ ∨ w.heap.size ≤ k_)) u9000_ l0) ∧ Aside0 (Kept w w' (fun k_ => P0_ k_)) ∧ Aside0 (Below w0.heap.size w0 w'))
 case atStart => exact ⟨(0), (by rfl), H', ⟨Nat.le_refl _⟩, ⟨HO0.out⟩, ⟨by repeat (first | (with_reducible first | exact HK.out | apply Kept.alloc | apply Kept.drewN | apply Kept.drew) | exact HK.out)⟩, ⟨HB.out⟩⟩
 clear H'
 try clear p2
 obtain ⟨x5_1, rfl, HA, HK1, HO_0, HK, HB⟩ := hrel
 cases gk with
 | zero => exact absurd HA.out (by simp [sF61.l0])
 | succ k1 =>
  have H := HA.out
  clear HA
  simp only [sF61.l0] at H
  by_cases c3 : x5_1 < (l0.length : Int)
  rotate_left
  ·
   rw [if_neg c3] at H
   have c3b0 := dF_ c3
   clear c3
   exact absurd H (by simp)
  rw [if_pos c3] at H
  have c3b0 := dT_ c3
  clear c3
  by_cases c4 : 0 ≤ x5_1
  rotate_left
  ·
   rw [if_neg c4] at H
   exact absurd H (by simp)
  rw [if_pos c4] at H
  have c4b0 := dT_ c4
  clear c4
  replace H := oB_.mp H
  obtain ⟨t202, A50, H⟩ := H
  try dsimp only at H
  have A5 := aM_ A50
  clear A50
  by_cases c6 : t202 = true
  ·
   subst c6
   rw [if_pos rfl] at H
   have H' := aM_ H
   clear H
   obtain ⟨Ao7, co7, eo7⟩ := kS_ HO_0.out
   subst eo7
   have p201 : 0 ≤ (x5_1 : Int) := oD_ ‹_›
   have q201 : x5_1 < (l0.length : Int) := oD_ ‹_›
   obtain ⟨ad201, e201, hx201_0⟩ := Kd.at_string (kR_ HO_0.out).2.2 x5_1 p201 q201
   cases e201
   replace p201 := eq_true p201
   replace q201 := eq_true q201
   go_wp2_with (first | (go_at_call 90; (with_reducible refine (sF52.calls k1 (rdOf eB_ l0 x5_1) a1 true _ A5.out).mono ?_); rintro e w' ⟨rfl, ⟨nd, rfl⟩⟩))
   go_roundg k1
   case measure => have := HK1.out; omega
   case rel => exact ⟨(wrap64 (x5_1 + 1)), (by rfl), H', ⟨by have := HK1.out; omega⟩, ⟨by (with_reducible repeat (first | apply k1_ | apply k2_ | apply k3_)); exact HO_0.out⟩, ⟨by repeat (first | (with_reducible first | exact HK.out | apply Kept.alloc | apply Kept.drewN | apply Kept.drew) | exact HK.out)⟩, ⟨by repeat with_reducible first | exact HB.out | apply bA_ | apply bN_ | apply bD_⟩⟩
  replace c6 := Bool.eq_false_iff.mpr c6
  subst c6
  replace H : (if (rdOf eB_ l0 x5_1).toList = a1.toList then (some l0) else (none)) = some r := by rw [if_neg (show ¬ (false = true) by decide)] at H; exact H
  by_cases c8 : (rdOf eB_ l0 x5_1).toList = a1.toList
  ·
   rw [if_pos c8] at H
   have c8b0 : ((rdOf eB_ l0 x5_1).toList == a1.toList) = true := beq_iff_eq.mpr c8
   have c8b1 : ((rdOf eB_ l0 x5_1).toList != a1.toList) = false := bne_eq_false_iff_eq.mpr c8
   clear c8
   obtain rfl := Option.some.inj H
   obtain ⟨Ao9, co9, eo9⟩ := kS_ HO_0.out
   subst eo9
   have p201 : 0 ≤ (x5_1 : Int) := oD_ ‹_›
   have q201 : x5_1 < (l0.length : Int) := oD_ ‹_›
   obtain ⟨ad201, e201, hx201_0⟩ := Kd.at_string (kR_ HO_0.out).2.2 x5_1 p201 q201
   cases e201
   replace p201 := eq_true p201
   replace q201 := eq_true q201
   go_wp2_with (first | (go_at_call 90; (with_reducible refine (sF52.calls k1 (rdOf eB_ l0 x5_1) a1 false _ A5.out).mono ?_); rintro e w' ⟨rfl, ⟨nd, rfl⟩⟩; have p203 : 0 ≤ (x5_1 : Int) := oD_ ‹_›; have q203 : x5_1 < (l0.length : Int) := oD_ ‹_›; obtain ⟨ad203, e203, hx203_0⟩ := Kd.at_string (kR_ HO_0.out).2.2 x5_1 p203 q203; obtain rfl : ad201 = ad203 := (by injection e203); replace p203 := eq_true p203; replace q203 := eq_true q203))
   go_ret
   exact ⟨_, by rfl, by (with_reducible repeat (first | apply k1_ | apply k2_ | apply k3_)); exact HO_0.out, by repeat with_reducible first | exact HB.out | apply bA_ | apply bN_ | apply bD_, by repeat (first | (with_reducible first | exact HK.out | apply Kept.alloc | apply Kept.drewN | apply Kept.drew) | exact HK.out)⟩
  rw [if_neg c8] at H
  exact absurd H (by simp)
open Go.Proofs.YtfhffcefpnkllaaGreatDoor.M
theorem sF59.before_loop (a b : Txt) (ha : a.length ≤ 4611686018427387900) : ∀ (d n : Nat), n + d = a.length → n ≤ b.length → Ev (fun k => sF52.l0 k (B a) (B b) (n : Int)) (decide (a.drop n < b.drop n)) := by
 have last : ∀ n : Nat, (n = a.length ∨ n = b.length) → n ≤ a.length → n ≤ b.length → Ev (fun k => sF52.j1 k (B a) (B b) (n : Int) false) (decide (a.drop n < b.drop n)) := by
  intro n h ha hb
  refine Ev.step (fun k => sF52.j1.eq_2 ..) (Ev.ifF (by simp) ?_)
  have : decide (((B a).size : Int) < ((B b).size : Int)) = decide (a.drop n < b.drop n) := by
   simp only [size_B]
   congr 1
   rcases h with rfl | rfl
   ·
    rw [List.drop_length]
    cases hd : b.drop a.length with
    | nil =>
     have : b.length ≤ a.length := by simpa using hd
     simp; omega
    | cons c t =>
     have : a.length < b.length := by
      have := congrArg List.length hd
      simp at this; omega
     simp; omega
   rw [List.drop_length]
   simp; omega
  rw [this]; exact Ev.now _
 intro d
 induction d with
 | zero =>
  intro n hn hb
  refine Ev.step (fun k => sF52.l0.eq_2 ..) (Ev.ifF (by simp; omega) ?_)
  exact last n (.inl (by omega)) (by omega) hb
 | succ d ih =>
  intro n hn hb
  have h1 : n < a.length := by omega
  refine Ev.step (fun k => sF52.l0.eq_2 ..) (Ev.ifT (by simp; omega) ?_)
  by_cases h2 : n < b.length
  rotate_left
  ·
   rw [show decide ((n : Int) < ((B b).size : Int)) = false from by simp; omega]
   exact last n (.inr (by omega)) (by omega) hb
  rw [show decide ((n : Int) < ((B b).size : Int)) = true from by simp; omega]
  refine Ev.step (fun k => sF52.j1.eq_2 ..) (Ev.ifT rfl (Ev.ifT (by omega) (Ev.ifT (by simp; omega) (Ev.ifT (by simp; omega) ?_))))
  simp only [bt_B a n h1, bt_B b n h2]
  rw [drop_cons_getD 0 h1, drop_cons_getD 0 h2]
  by_cases e : ((a.getD n 0).toNat : Int) = ((b.getD n 0).toNat : Int)
  ·
   have e2 : a.getD n 0 = b.getD n 0 := UInt8.toNat_inj.1 (by omega)
   refine Ev.ifT e ?_
   have := ih (n + 1) (by omega) (by omega)
   simp only [e2, List.cons_lt_cons_iff, UInt8.lt_irrefl, true_and, false_or]
   simpa only [wrap64_succ n (by omega)] using this
  refine Ev.ifF e ?_
  have e2 : a.getD n 0 ≠ b.getD n 0 := fun h => e (by rw [h])
  have : decide (((a.getD n 0).toNat : Int) < ((b.getD n 0).toNat : Int)) = decide (a.getD n 0 :: a.drop (n + 1) < b.getD n 0 :: b.drop (n + 1)) := by
   congr 1
   simp only [List.cons_lt_cons_iff, e2, false_and, or_false, UInt8.lt_iff_toNat_lt, eq_iff_iff]
   omega
  rw [this]; exact Ev.now _
theorem sF59.before_ev (a b : Txt) (ha : a.length ≤ 4611686018427387900) : Ev (fun k => sF52.f k (B a) (B b)) (decide (a < b)) := by
 simpa [sF52.f] using sF59.before_loop a b ha a.length 0 (by omega) (by omega)
theorem sF59.own_eq (l : List ByteArray) (h : l.length < 8796093022208) : sF56.f l = some l := by
 unfold sF56.f
 simp only [Option.bind_some, List.length_nil, Nat.zero_add, if_pos h, List.nil_append]
def sF59.okL (l : List Txt) : Prop := l.length ≤ 4294967296 ∧ ∀ x ∈ l, x.length ≤ 4611686018427387900
theorem sF59.getD_ok {l : List Txt} (h : sF59.okL l) (n : Nat) (hn : n < l.length) : (l.getD n []).length ≤ 4611686018427387900 := by
 rw [getD_lt [] hn]; exact h.2 _ (List.getElem_mem hn)
theorem sF59.rd_map (l : List Txt) (n : Nat) (h : n < l.length) : rdOf eB_ (l.map B) (n : Int) = B (l.getD n []) := by
 simp [rdOf, List.getD_eq_getElem?_getD, h]
theorem sF59.A_loop (l : List Txt) (w : Txt) (ok : sF59.okL l) : ∀ (d n : Nat), n + d = l.length → foundL (l.drop n) w = false → Ev (fun k => sF60.l0 k (l.map B) (B w) (n : Int)) ((l.take n ++ putL (l.drop n) w).map B) := by
 have hl := ok.1
 have fin : ∀ n, n ≤ l.length → ∀ (g : Nat → Option (List ByteArray)), (∀ k, g k = ((sF56.f ((l.map B).take (n : Int).toNat)).bind fun t1 => ((some (([B w] : List ByteArray) : List ByteArray)).bind fun y1 => (if t1.length + y1.length < 8796093022208 then ((some (t1 ++ y1 : List ByteArray)).bind fun y2 => (if y2.length + ((l.map B).drop (n : Int).toNat).length < 8796093022208 then (some (y2 ++ ((l.map B).drop (n : Int).toNat))) else (none))) else (none))))) → Ev g ((l.take n ++ w :: l.drop n).map B) := by
  intro n hn g hg
  refine Ev.congr hg ?_
  rw [sF59.own_eq _ (by simp; omega)]
  simp only [Option.bind_some]
  refine Ev.ifT (by simp; omega) (Ev.ifT (by simp; omega) ?_)
  simpa [List.map_take, List.map_drop] using Ev.now ((l.take n ++ w :: l.drop n).map B)
 intro d
 induction d with
 | zero =>
  intro n hn hf
  refine Ev.step (fun k => sF60.l0.eq_2 ..) (Ev.ifF (by simp; omega) (Ev.ifT (by omega) (Ev.ifT (by simp; omega) ?_)))
  rw [show putL (l.drop n) w = w :: l.drop n from by rw [List.drop_of_length_le (by omega)]; rfl]
  exact fin n (by omega) _ (fun _ => rfl)
 | succ d ih =>
  intro n hn hf
  have h1 : n < l.length := by omega
  refine Ev.step (fun k => sF60.l0.eq_2 ..) (Ev.ifT (by simp; omega) (Ev.ifT (by omega) ?_))
  simp only [sF59.rd_map l n h1]
  refine Ev.bind (sF59.before_ev (l.getD n []) w (sF59.getD_ok ok n h1)) ?_
  rw [drop_cons_getD [] h1] at hf ⊢
  by_cases hlt : l.getD n [] < w
  ·
   simp only [foundL, if_pos hlt] at hf
   refine Ev.ifT (by simpa using hlt) ?_
   have := ih (n + 1) (by omega) hf
   rw [take_succ_getD [] h1] at this
   simpa only [wrap64_succ n (by omega), putL, if_pos hlt, List.append_assoc, List.singleton_append] using this
  simp only [foundL, if_neg hlt, decide_eq_false_iff_not] at hf
  refine Ev.ifF (by simpa using hlt) (Ev.ifF (by simpa using hf) (Ev.ifT (by simp; omega) ?_))
  rw [show putL (l.getD n [] :: l.drop (n + 1)) w = w :: l.drop n from by rw [drop_cons_getD [] h1]; simp only [putL, if_neg hlt, if_neg hf]]
  exact fin n (by omega) _ (fun _ => rfl)
theorem sF59.B_loop (l : List Txt) (w : Txt) (ok : sF59.okL l) : ∀ (d n : Nat), n + d = l.length → foundL (l.drop n) w = true → Ev (fun k => sF61.l0 k (l.map B) (B w) (n : Int)) (l.map B) := by
 have hl := ok.1
 intro d
 induction d with
 | zero => intro n hn hf; rw [List.drop_of_length_le (by omega)] at hf; simp [foundL] at hf
 | succ d ih =>
  intro n hn hf
  have h1 : n < l.length := by omega
  refine Ev.step (fun k => sF61.l0.eq_2 ..) (Ev.ifT (by simp; omega) (Ev.ifT (by omega) ?_))
  simp only [sF59.rd_map l n h1]
  refine Ev.bind (sF59.before_ev (l.getD n []) w (sF59.getD_ok ok n h1)) ?_
  rw [drop_cons_getD [] h1] at hf
  by_cases hlt : l.getD n [] < w
  ·
   simp only [foundL, if_pos hlt] at hf
   refine Ev.ifT (by simpa using hlt) ?_
   simpa only [wrap64_succ n (by omega)] using ih (n + 1) (by omega) hf
  simp only [foundL, if_neg hlt, decide_eq_true_eq] at hf
  exact Ev.ifF (by simpa using hlt) (Ev.ifT (by simpa using hf) (Ev.now _))
def sF59.f (l0 : List ByteArray) (a1 : ByteArray) : Option (List ByteArray) := if l0.length ≤ 4294967296 ∧ (l0.all fun x => decide (x.size ≤ 4611686018427387900)) = true then some ((putL (l0.map fun x => x.data.toList) a1.data.toList).map B) else none
theorem sF59.calls (P0_ : Nat → Prop) (u9000_ : Value) (l0 : List ByteArray) (a1 : ByteArray) (r : List ByteArray) (w0 w : World) (hB : Below w0.heap.size w0 w) (ho0 : Kd.R Kd.string 9 w w0.heap.size P0_ u9000_ l0) (h : sF59.f l0 a1 = some r) :
  Calls Tryz.prog 73 #[u9000_, .string a1] w fun e w' => ∃ v0_ : Value, e = .returned (v0_) ∧ Kd.R Kd.string 9 w' w0.heap.size (fun k_ => (P0_ k_ ∨ w.heap.size ≤ k_)) v0_ r ∧ Below w0.heap.size w0 w' ∧ Kept w w' (fun k_ => P0_ k_) := by
 unfold sF59.f at h
 by_cases hc : l0.length ≤ 4294967296 ∧ (l0.all fun x => decide (x.size ≤ 4611686018427387900)) = true
 rotate_left
 ·
  rw [if_neg hc] at h; cases h
 rw [if_pos hc] at h
 obtain ⟨l, hl⟩ : ∃ l, l = l0.map fun x => x.data.toList := ⟨_, rfl⟩
 have e0 : l0 = l.map B := by
  rw [hl, List.map_map]
  conv => lhs; rw [← List.map_id l0]
  exact List.map_congr_left fun x _ => (B_data x).symm
 have e1 : a1 = B a1.data.toList := (B_data a1).symm
 have ok : sF59.okL l := by
  refine ⟨by rw [hl]; simpa using hc.1, fun x hx => ?_⟩
  rw [hl] at hx
  obtain ⟨y, hy, rfl⟩ := List.mem_map.1 hx
  have := List.all_eq_true.1 hc.2 y hy
  simpa using this
 rw [← hl] at h
 have hr := Option.some.inj h
 cases hf : foundL l a1.data.toList with
 | true =>
  obtain ⟨k, hk⟩ := Ev.rounds (sF59.B_loop l a1.data.toList ok l.length 0 (by omega) (by simpa using hf))
  refine sF61.calls k P0_ u9000_ l0 a1 r w0 w hB ho0 ?_
  rw [← hr, putL_found l _ hf, e0, e1]
  unfold sF61.f
  simpa using hk
 | false =>
  obtain ⟨k, hk⟩ := Ev.rounds (sF59.A_loop l a1.data.toList ok l.length 0 (by omega) (by simpa using hf))
  obtain ⟨A, c, rfl, hlc, hC⟩ := Kd.R_reads ho0
  refine (sF60.calls k A c l0 a1 r w hC hlc ?_).mono ?_
  ·
   rw [← hr, e0, e1]
   unfold sF60.f
   simpa using hk
  rintro e w' ⟨v, rfl, hR, hb⟩
  exact ⟨v, rfl, k5_ (kM_ (Kd.R_bound hR) (fun k hk => .inr hk.2.1)) hB.size, hB.trans (hb.mono hB.size), Kept.of_below hb _⟩
def sF63.l0 : Nat → List ByteArray → List ByteArray → Int → Option (List ByteArray × Bool)
 | 0, _, _, _ => none
 | k + 1, x0, x4, x5 => if x5 < (x0.length : Int) then (if 0 ≤ x5 then ((sF65.f k (rdOf eB_ x0 x5)).bind fun t208 => (if t208 = true then ((sF59.f x4 (rdOf eB_ x0 x5)).bind fun t210 => (sF63.l0 k x0 t210 (wrap64 (x5 + 1)))) else (some ((([] : List ByteArray)), false)))) else (none)) else (some (x4, decide ((x4.length : Int) ≤ 40)))
def sF63.f (k : Nat) (l0 : List ByteArray) : Option (List ByteArray × Bool) := sF63.l0 k l0 (([] : List ByteArray)) 0
theorem sF63.mono_l : ∀ k, (∀ y0 y1 y2, LeO (sF63.l0 k y0 y1 y2) (sF63.l0 (k + 1) y0 y1 y2))
 | 0 => fun _ _ _ r h => by simp [sF63.l0] at h
 | k + 1 => by
  have ih0 := sF63.mono_l k
  intro y0 y1 y2
  unfold sF63.l0
  repeat' with_reducible first | exact ih0 _ _ _ | exact sF65.mono _ _ | exact l3_ _ | exact l0_ _ | refine l2_ ?_ ?_ | refine l1_ ?_ (fun _ => ?_)
theorem sF63.mono : ∀ a0 k, LeO (sF63.f k a0) (sF63.f (k + 1) a0) := by
 intro a0 k
 have ih0 := sF63.mono_l k
 unfold sF63.f
 repeat' with_reducible first | exact ih0 _ _ _ | exact sF65.mono _ _ | exact l3_ _ | exact l0_ _ | refine l2_ ?_ ?_ | refine l1_ ?_ (fun _ => ?_)
theorem sF63.calls (k : Nat) (A0 : Option Addr) (c0 : Nat) (l0 : List ByteArray) (r1 : List ByteArray) (r2 : Bool) (w : World) (hr0 : Kd.C Kd.string w A0 l0.length l0) (hc0 : l0.length ≤ c0) (h : sF63.f k l0 = some (r1, r2)) :
  Calls Tryz.prog 55 #[.slice A0 l0.length c0] w fun e w' => ∃ v0_ : Value, e = .returned (.tuple #[v0_, .bool r2]) ∧ Kd.R Kd.string 9 w' w.heap.size (fun _ => True) v0_ r1 ∧ Below w.heap.size w w' := by
 have HR0 := aM_ hr0
 have HC0 := aM_ hc0
 clear hr0 hc0
 have HB := aM_ (Below.refl w.heap.size w)
 have H : (sF63.l0 k l0 (([] : List ByteArray)) 0) = some (r1, r2) := h
 clear h
 obtain ⟨y204, hy204⟩ : ∃ y_ : List ByteArray, y_ = (([] : List ByteArray)) := ⟨_, rfl⟩
 replace H : (sF63.l0 k l0 y204 0) = some (r1, r2) := by (try rw [hy204]); first | with_reducible exact H | with_reducible exact oS_ H | exact H
 have Ny204 := aM_ hy204
 clear hy204
 have H' := aM_ H
 clear H
 go_enter Tryz.func55, Tryz.ntmps55
 go_wp2_with (first | ((with_reducible refine gD_ (N := 6) rfl ?_); refine Kd.R_lit Kd.string _ 9 ?hg (N := 6) ?hd (xs := ([] : List ByteArray)) (inner := []) (ok := fun _ => True) (okp := fun _ => True) ?hr ?hp (fun _ hk => hk) trivial (Below.refl _ _) (Nat.le_refl _) (by simp) ?_; (case hd => rfl); (case hg => rfl); (case hr => (go_simp; done)); (case hp => exact (Reps.none _ _)); intro v205 w2 ho3 hb hg_ hnew_; clear hg_ hnew_; (rw [← Ny204.out] at ho3); have HO206 := aM_ (k5_ ho3 (bZ_ HB.out)); replace HB := b4_ HB hb; clear hb ho3))
 go_loopg [4, 5] k (fun kq v4 v5 w' => ∃ (x4_1 : List ByteArray) (x5_1 : Int), v5 = .int .i64 x5_1 ∧ Aside0 (sF63.l0 kq l0 x4_1 x5_1 = some (r1, r2)) ∧ Aside0 (kq ≤ k) ∧ Aside0 (Kd.R Kd.string 9 w' w.heap.size (fun _ => True) v4 x4_1) ∧ Aside0 (Below w.heap.size w w'))
 case atStart => exact ⟨(y204), (0), (by rfl), H', ⟨Nat.le_refl _⟩, ⟨HO206.out⟩, ⟨HB.out⟩⟩
 clear H'
 try clear p2
 obtain ⟨x4_1, x5_1, rfl, HA, HK1, HO_4, HB⟩ := hrel
 cases gk with
 | zero => exact absurd HA.out (by simp [sF63.l0])
 | succ k1 =>
  have H := HA.out
  clear HA
  simp only [sF63.l0] at H
  by_cases c4 : x5_1 < (l0.length : Int)
  rotate_left
  ·
   rw [if_neg c4] at H
   have c4b0 := dF_ c4
   clear c4
   simp only [Option.some.injEq, Prod.mk.injEq] at H
   obtain ⟨rfl, rfl⟩ := H
   obtain ⟨Ao13, co13, eo13⟩ := kS_ HO_4.out
   subst eo13
   go_wp2
   go_ret2
   exact ⟨_, by rfl, by exact HO_4.out, by exact HB.out⟩
  rw [if_pos c4] at H
  have c4b0 := dT_ c4
  clear c4
  by_cases c5 : 0 ≤ x5_1
  rotate_left
  ·
   rw [if_neg c5] at H
   exact absurd H (by simp)
  rw [if_pos c5] at H
  have c5b0 := dT_ c5
  clear c5
  replace H := oB_.mp H
  obtain ⟨t208, A60, H⟩ := H
  try dsimp only at H
  have A6 := aM_ A60
  clear A60
  by_cases c7 : t208 = true
  ·
   subst c7
   rw [if_pos rfl] at H
   replace H := oB_.mp H
   obtain ⟨t210, A80, H⟩ := H
   try dsimp only at H
   have A8 := aM_ A80
   clear A80
   have H' := aM_ H
   clear H
   have p207 : 0 ≤ (x5_1 : Int) := oD_ ‹_›
   have q207 : x5_1 < (l0.length : Int) := oD_ ‹_›
   obtain ⟨ad207, e207, hx207_0⟩ := Kd.at_string HR0.out x5_1 p207 q207
   cases e207
   replace hx207_0 := cb_ HB hx207_0
   replace p207 := eq_true p207
   replace q207 := eq_true q207
   go_wp2_with (first | (refine gs_ 17 Tryz.func59 #[.string (rdOf eB_ l0 x5_1)] ?_; (with_reducible refine (sF65.calls k1 (rdOf eB_ l0 x5_1) true _ A6.out).mono ?_); rintro e w' ⟨rfl, ⟨nd, rfl⟩⟩; refine ⟨_, rfl, ?_⟩; have p209 : 0 ≤ (x5_1 : Int) := oD_ ‹_›; have q209 : x5_1 < (l0.length : Int) := oD_ ‹_›; obtain ⟨ad209, e209, hx209_0⟩ := Kd.at_string HR0.out x5_1 p209 q209; obtain rfl : ad207 = ad209 := (by injection e209); replace hx209_0 := cb_ HB hx209_0; replace p209 := eq_true p209; replace q209 := eq_true q209; obtain ⟨Ao9, co9, eo9⟩ := kS_ HO_4.out; subst eo9) | (refine gs_ 25 Tryz.func73 #[.slice Ao9 x4_1.length co9, .string (rdOf eB_ l0 x5_1)] ?_; (with_reducible refine (sF59.calls (fun k_ => some k_ = (.slice Ao9 x4_1.length co9 : Value).ownBlock) (.slice Ao9 x4_1.length co9) x4_1 (rdOf eB_ l0 x5_1) t210 w _ ?side1 ?side2 A8.out).mono ?_); (case side1 => repeat with_reducible first | exact HB.out | apply bA_ | apply bN_ | apply bD_); (case side2 => exact Kd.R_tight rfl HO_4.out); rintro e w10 ⟨v211, rfl, ho0, hb, hkp⟩; refine ⟨_, rfl, ?_⟩; have n0_ := aM_ (kM_ (ok' := fun k_ => True) ho0 (fun k_ hk_ => trivial)); have n1_ := aM_ (hb); clear HB; clear HO_4; have HO212 := n0_; have HB := n1_; clear n0_ n1_; (try clear hb); (try clear hkp); (try clear ho0)))
   go_roundg k1
   case measure => have := HK1.out; omega
   case rel => exact ⟨(t210), (wrap64 (x5_1 + 1)), (by rfl), H', ⟨by have := HK1.out; omega⟩, ⟨HO212.out⟩, ⟨HB.out⟩⟩
  replace c7 := Bool.eq_false_iff.mpr c7
  subst c7
  replace H : (some ((([] : List ByteArray)), false)) = some (r1, r2) := by rw [if_neg (show ¬ (false = true) by decide)] at H; exact H
  obtain ⟨y213, hy213⟩ : ∃ y_ : List ByteArray, y_ = (([] : List ByteArray)) := ⟨_, rfl⟩
  replace H : (some (y213, false)) = some (r1, r2) := by (try rw [hy213]); first | with_reducible exact H | with_reducible exact oS_ H | exact H
  have Ny213 := aM_ hy213
  clear hy213
  simp only [Option.some.injEq, Prod.mk.injEq] at H
  obtain ⟨rfl, rfl⟩ := H
  have p207 : 0 ≤ (x5_1 : Int) := oD_ ‹_›
  have q207 : x5_1 < (l0.length : Int) := oD_ ‹_›
  obtain ⟨ad207, e207, hx207_0⟩ := Kd.at_string HR0.out x5_1 p207 q207
  cases e207
  replace hx207_0 := cb_ HB hx207_0
  replace p207 := eq_true p207
  replace q207 := eq_true q207
  go_wp2_with (first | (refine gs_ 17 Tryz.func59 #[.string (rdOf eB_ l0 x5_1)] ?_; (with_reducible refine (sF65.calls k1 (rdOf eB_ l0 x5_1) false _ A6.out).mono ?_); rintro e w' ⟨rfl, ⟨nd, rfl⟩⟩; refine ⟨_, rfl, ?_⟩) | ((with_reducible refine gD_ (N := 19) rfl ?_); refine Kd.R_lit Kd.string _ 9 ?hg (N := 19) ?hd (xs := ([] : List ByteArray)) (inner := []) (ok := fun _ => True) (okp := fun _ => True) ?hr ?hp (fun _ hk => hk) trivial (Below.refl _ _) (Nat.le_refl _) (by simp) ?_; (case hd => rfl); (case hg => rfl); (case hr => (go_simp; done)); (case hp => exact (Reps.none _ _)); intro v214 w11 ho12 hb hg_ hnew_; clear hg_ hnew_; (rw [← Ny213.out] at ho12); have HO215 := aM_ (k5_ (Kd.R_new' ho12 (Kd.R_lt (by (with_reducible repeat (first | apply k1_ | apply k2_ | apply k3_)); exact HO_4.out))) (bZ_ (by repeat with_reducible first | exact HB.out | apply bA_ | apply bN_ | apply bD_))); replace HO_4 := aM_ (Kd.R_elder' (by (with_reducible repeat (first | apply k1_ | apply k2_ | apply k3_)); exact HO_4.out) (Kd.R_base ho12) hb); replace HB := aM_ (bT_ (by repeat with_reducible first | exact HB.out | apply bA_ | apply bN_ | apply bD_) hb); clear hb ho12))
  go_ret2
  exact ⟨_, by rfl, by exact kM_ HO215.out (fun _ hk => trivial), by exact HB.out⟩
mutual
def sF55.l0 : Nat → List ByteArray → List ByteArray → Int → Option ((List (S76)))
 | 0, _, _, _ => none
 | k + 1, x0, x3, x4 => if x4 < (x0.length : Int) then (sF55.l1 k x0 x3 x4 1) else (sF55.l2 k x0 x3 0 (([] : List (S76))))
def sF55.l1 : Nat → List ByteArray → List ByteArray → Int → Int → Option ((List (S76)))
 | 0, _, _, _, _ => none
 | k + 1, x0, x3, x4, x5 => if 0 ≤ x4 then (if x4 < (x0.length : Int) then (if x5 ≤ ((rdOf eB_ x0 x4).size : Int) then (if 0 ≤ x5 then ((sF59.f x3 ((rdOf eB_ x0 x4).extract 0 (x5 : Int).toNat)).bind fun t224 => (sF55.l1 k x0 t224 x4 (wrap64 (x5 + 1)))) else (none)) else (sF55.l0 k x0 x3 (wrap64 (x4 + 1)))) else (none)) else (none)
def sF55.l2 : Nat → List ByteArray → List ByteArray → Int → List (S76) → Option ((List (S76)))
 | 0, _, _, _, _ => none
 | k + 1, x0, x3, x7, x231000 => if x7 < (x3.length : Int) then (if 0 ≤ x7 then ((sF53.f k x0 (rdOf eB_ x3 x7)).bind fun t232 => (if x7 > 0 then (if 0 ≤ (wrap64 (((rdOf eB_ x3 x7).size : Int) - 1)) then (if (wrap64 (((rdOf eB_ x3 x7).size : Int) - 1)) < ((rdOf eB_ x3 x7).size : Int) then (if (wrap64 (((rdOf eB_ x3 x7).size : Int) - 1)) ≤ ((rdOf eB_ x3 x7).size : Int) then ((sF57.f k x3 ((rdOf eB_ x3 x7).extract 0 ((wrap64 (((rdOf eB_ x3 x7).size : Int) - 1)) : Int).toNat)).bind fun t234 => (if x231000.length < 5864062014805 then (sF55.l2 k x0 x3 (wrap64 (x7 + 1)) (x231000 ++ [(⟨((bt (rdOf eB_ x3 x7) (wrap64 (((rdOf eB_ x3 x7).size : Int) - 1))) - 97) % 256, t234, t232⟩ : S76)])) else (none))) else (none)) else (none)) else (none)) else (if x231000.length < 5864062014805 then (sF55.l2 k x0 x3 (wrap64 (x7 + 1)) (x231000 ++ [(⟨(-1), (-1), t232⟩ : S76)])) else (none)))) else (none)) else (some x231000)
end
def sF55.f (k : Nat) (l0 : List ByteArray) : Option ((List (S76))) := sF55.l0 k l0 (([(⟨#[]⟩ : ByteArray)] : List ByteArray)) 0
theorem sF55.mono_l : ∀ k, (∀ y0 y1 y2, LeO (sF55.l0 k y0 y1 y2) (sF55.l0 (k + 1) y0 y1 y2)) ∧ (∀ y0 y1 y2 y3, LeO (sF55.l1 k y0 y1 y2 y3) (sF55.l1 (k + 1) y0 y1 y2 y3)) ∧ (∀ y0 y1 y2 y3, LeO (sF55.l2 k y0 y1 y2 y3) (sF55.l2 (k + 1) y0 y1 y2 y3))
 | 0 => ⟨fun _ _ _ r h => by simp [sF55.l0] at h, fun _ _ _ _ r h => by simp [sF55.l1] at h, fun _ _ _ _ r h => by simp [sF55.l2] at h⟩
 | k + 1 => by
  obtain ⟨ih0, ih1, ih2⟩ := sF55.mono_l k
  refine ⟨?_, ?_, ?_⟩
  ·
   intro y0 y1 y2
   unfold sF55.l0
   repeat' with_reducible first | exact ih0 _ _ _ | exact ih1 _ _ _ _ | exact ih2 _ _ _ _ | exact sF53.mono _ _ _ | exact sF57.mono _ _ _ | exact l3_ _ | exact l0_ _ | refine l2_ ?_ ?_ | refine l1_ ?_ (fun _ => ?_)
  ·
   intro y0 y1 y2 y3
   unfold sF55.l1
   repeat' with_reducible first | exact ih0 _ _ _ | exact ih1 _ _ _ _ | exact ih2 _ _ _ _ | exact sF53.mono _ _ _ | exact sF57.mono _ _ _ | exact l3_ _ | exact l0_ _ | refine l2_ ?_ ?_ | refine l1_ ?_ (fun _ => ?_)
  intro y0 y1 y2 y3
  unfold sF55.l2
  repeat' with_reducible first | exact ih0 _ _ _ | exact ih1 _ _ _ _ | exact ih2 _ _ _ _ | exact sF53.mono _ _ _ | exact sF57.mono _ _ _ | exact l3_ _ | exact l0_ _ | refine l2_ ?_ ?_ | refine l1_ ?_ (fun _ => ?_)
theorem sF55.mono : ∀ a0 k, LeO (sF55.f k a0) (sF55.f (k + 1) a0) := by
 intro a0 k
 obtain ⟨ih0, ih1, ih2⟩ := sF55.mono_l k
 unfold sF55.f
 repeat' with_reducible first | exact ih0 _ _ _ | exact ih1 _ _ _ _ | exact ih2 _ _ _ _ | exact sF53.mono _ _ _ | exact sF57.mono _ _ _ | exact l3_ _ | exact l0_ _ | refine l2_ ?_ ?_ | refine l1_ ?_ (fun _ => ?_)
theorem sF55.calls (k : Nat) (A0 : Option Addr) (c0 : Nat) (l0 : List ByteArray) (r : List (S76)) (w : World) (hr0 : Kd.C Kd.string w A0 l0.length l0) (hc0 : l0.length ≤ c0) (h : sF55.f k l0 = some r) :
  Calls Tryz.prog 56 #[.slice A0 l0.length c0] w fun e w' => ∃ v0_ : Value, e = .returned (.agg #[v0_]) ∧ Kd.R k76 76 w' w.heap.size (fun _ => True) v0_ r ∧ Below w.heap.size w w' := by
 have hu36 := Tryz.underlying36
 have hu76 := Tryz.underlying76
 have HR0 := aM_ hr0
 have HC0 := aM_ hc0
 clear hr0 hc0
 have HB := aM_ (Below.refl w.heap.size w)
 have H : (sF55.l0 k l0 (([(⟨#[]⟩ : ByteArray)] : List ByteArray)) 0) = some r := h
 clear h
 obtain ⟨y219, hy219⟩ : ∃ y_ : List ByteArray, y_ = (([(⟨#[]⟩ : ByteArray)] : List ByteArray)) := ⟨_, rfl⟩
 replace H : (sF55.l0 k l0 y219 0) = some r := by (try rw [hy219]); first | with_reducible exact H | with_reducible exact oS_ H | exact H
 have Ny219 := aM_ hy219
 clear hy219
 have H' := aM_ H
 clear H
 go_enter Tryz.func56, Tryz.ntmps56
 go_wp2_with (first | (refine bx_ 2 #[.slice none 0 0] 36 ?_; intro gb218 hg w2 hbox hb; have BK218 := aM_ (hbox); have GW218 := gw_ hg HB; replace HB := b4_ HB hb; clear hb hbox hg) | ((with_reducible refine gD_ (N := 10) rfl ?_); refine Kd.R_lit Kd.string _ 9 ?hg (N := 10) ?hd (xs := ([(⟨#[]⟩ : ByteArray)] : List ByteArray)) (inner := [.string (⟨#[]⟩ : ByteArray)]) (ok := fun _ => True) (okp := fun _ => True) ?hr ?hp (fun _ hk => hk) trivial (Below.refl _ _) (Nat.le_refl _) (by simp) ?_; (case hd => rfl); (case hg => rfl); (case hr => (go_simp; done)); (case hp => exact (Reps.one (show Kd.M Kd.string _ _ _ (⟨#[]⟩ : ByteArray) [.string (⟨#[]⟩ : ByteArray)] from rfl) (Reps.none _ _))); intro v220 w3 ho4 hb hg_ hnew_; clear hg_ hnew_; (rw [← Ny219.out] at ho4); have HO221 := aM_ (k5_ ho4 (bZ_ HB.out)); replace BK218 := b5_ BK218 hb; replace HB := b4_ HB hb; clear hb ho4))
 go_loopg [3, 4] k (fun kq v3 v4 w' => ∃ (x3_1 : List ByteArray) (x4_1 : Int), v4 = .int .i64 x4_1 ∧ Aside0 (sF55.l0 kq l0 x3_1 x4_1 = some r) ∧ Aside0 (kq ≤ k) ∧ Aside0 (Kd.R Kd.string 9 w' w.heap.size (fun _ => True) v3 x3_1) ∧ Aside0 (w'.heap[gb218]? = some (.cells #[(.slice none 0 0)] 36 (0, 0))) ∧ Aside0 (Below w.heap.size w w'))
 case atStart => exact ⟨(y219), (0), (by rfl), H', ⟨Nat.le_refl _⟩, ⟨HO221.out⟩, ⟨BK218.out⟩, ⟨HB.out⟩⟩
 clear H'
 try clear p2
 obtain ⟨x3_1, x4_1, rfl, HA, HK1, HO_3, BK218, HB⟩ := hrel
 cases gk with
 | zero => exact absurd HA.out (by simp [sF55.l0])
 | succ k1 =>
  have H := HA.out
  clear HA
  simp only [sF55.l0] at H
  by_cases c5 : x4_1 < (l0.length : Int)
  ·
   rw [if_pos c5] at H
   have c5b0 := dT_ c5
   clear c5
   have H' := aM_ H
   clear H
   go_wp2
   go_loopg [3, 5] k1 (fun kq v3 v5 w' => ∃ (x3_2 : List ByteArray) (x5_2 : Int), v5 = .int .i64 x5_2 ∧ Aside0 (sF55.l1 kq l0 x3_2 x4_1 x5_2 = some r) ∧ Aside0 (kq ≤ k1) ∧ Aside0 (Kd.R Kd.string 9 w' w.heap.size (fun _ => True) v3 x3_2) ∧ Aside0 (w'.heap[gb218]? = some (.cells #[(.slice none 0 0)] 36 (0, 0))) ∧ Aside0 (Below w.heap.size w w'))
   case atStart => exact ⟨(x3_1), (1), (by rfl), H', ⟨Nat.le_refl _⟩, ⟨HO_3.out⟩, ⟨BK218.out⟩, ⟨HB.out⟩⟩
   clear H'
   try clear p2
   try clear c5b0
   try clear p2
   obtain ⟨x3_2, x5_2, rfl, HA, HK2, HO_3, BK218, HB⟩ := hrel
   cases gk with
   | zero => exact absurd HA.out (by simp [sF55.l1])
   | succ k2 =>
    have H := HA.out
    clear HA
    simp only [sF55.l1] at H
    by_cases c6 : 0 ≤ x4_1
    rotate_left
    ·
     rw [if_neg c6] at H
     exact absurd H (by simp)
    rw [if_pos c6] at H
    have c6b0 := dT_ c6
    clear c6
    by_cases c7 : x4_1 < (l0.length : Int)
    rotate_left
    ·
     rw [if_neg c7] at H
     exact absurd H (by simp)
    rw [if_pos c7] at H
    have c7b0 := dT_ c7
    clear c7
    by_cases c8 : x5_2 ≤ ((rdOf eB_ l0 x4_1).size : Int)
    rotate_left
    ·
     rw [if_neg c8] at H
     have c8b0 := dF_ c8
     clear c8
     have H' := aM_ H
     clear H
     have p222 : 0 ≤ (x4_1 : Int) := oD_ ‹_›
     have q222 : x4_1 < (l0.length : Int) := oD_ ‹_›
     obtain ⟨ad222, e222, hx222_0⟩ := Kd.at_string HR0.out x4_1 p222 q222
     cases e222
     replace hx222_0 := cb_ HB hx222_0
     replace p222 := eq_true p222
     replace q222 := eq_true q222
     go_wp2
     go_roundg k2
     case measure => have := HK1.out; have := HK2.out; omega
     case rel => exact ⟨(x3_2), (wrap64 (x4_1 + 1)), (by rfl), H', ⟨by have := HK1.out; have := HK2.out; omega⟩, ⟨HO_3.out⟩, ⟨BK218.out⟩, ⟨HB.out⟩⟩
    rw [if_pos c8] at H
    have c8b0 := dT_ c8
    clear c8
    by_cases c9 : 0 ≤ x5_2
    rotate_left
    ·
     rw [if_neg c9] at H
     exact absurd H (by simp)
    rw [if_pos c9] at H
    have c9b0 := eq_true c9
    have c9b1 := dT_ c9
    clear c9
    have c10b0 := eq_true (oD_ ‹_› : x5_2 ≤ ((rdOf eB_ l0 x4_1).size : Int))
    replace H := oB_.mp H
    obtain ⟨t224, A110, H⟩ := H
    try dsimp only at H
    have A11 := aM_ A110
    clear A110
    have H' := aM_ H
    clear H
    have p222 : 0 ≤ (x4_1 : Int) := oD_ ‹_›
    have q222 : x4_1 < (l0.length : Int) := oD_ ‹_›
    obtain ⟨ad222, e222, hx222_0⟩ := Kd.at_string HR0.out x4_1 p222 q222
    cases e222
    replace hx222_0 := cb_ HB hx222_0
    replace p222 := eq_true p222
    replace q222 := eq_true q222
    have p223 : 0 ≤ (x4_1 : Int) := oD_ ‹_›
    have q223 : x4_1 < (l0.length : Int) := oD_ ‹_›
    obtain ⟨ad223, e223, hx223_0⟩ := Kd.at_string HR0.out x4_1 p223 q223
    obtain rfl : ad222 = ad223 := (by injection e223)
    replace hx223_0 := cb_ HB hx223_0
    replace p223 := eq_true p223
    replace q223 := eq_true q223
    obtain ⟨Ao12, co12, eo12⟩ := kS_ HO_3.out
    subst eo12
    go_wp2_with (first | (refine gs_ 33 Tryz.func73 #[.slice Ao12 x3_2.length co12, .string ((rdOf eB_ l0 x4_1).extract 0 (x5_2 : Int).toNat)] ?_; (with_reducible refine (sF59.calls (fun k_ => some k_ = (.slice Ao12 x3_2.length co12 : Value).ownBlock) (.slice Ao12 x3_2.length co12) x3_2 ((rdOf eB_ l0 x4_1).extract 0 (x5_2 : Int).toNat) t224 w _ HB.out ?side2 A11.out).mono ?_); (case side2 => exact Kd.R_tight rfl HO_3.out); rintro e w13 ⟨v225, rfl, ho0, hb, hkp⟩; refine ⟨_, rfl, ?_⟩; have n0_ := aM_ (blk_kept BK218.out hkp (fun hs_ => (fun e_ => (k6_ HO_3.out BK218.out (by decide)) e_) hs_)); have n1_ := aM_ (kM_ (ok' := fun k_ => True) ho0 (fun k_ hk_ => trivial)); have n2_ := aM_ (hb); clear BK218; clear HB; clear HO_3; have BK218 := n0_; have HO226 := n1_; have HB := n2_; clear n0_ n1_ n2_; (try clear hb); (try clear hkp); (try clear ho0)))
    go_roundg k2
    case measure => have := HK1.out; have := HK2.out; omega
    case rel => exact ⟨(t224), (wrap64 (x5_2 + 1)), (by rfl), H', ⟨by have := HK1.out; have := HK2.out; omega⟩, ⟨HO226.out⟩, ⟨BK218.out⟩, ⟨HB.out⟩⟩
  rw [if_neg c5] at H
  have c5b0 := dF_ c5
  clear c5
  obtain ⟨y227, hy227⟩ : ∃ y_ : List (S76), y_ = (([] : List (S76))) := ⟨_, rfl⟩
  replace H : (sF55.l2 k1 l0 x3_1 0 y227) = some r := by (try rw [hy227]); first | with_reducible exact H | with_reducible exact oS_ H | exact H
  have Ny227 := aM_ hy227
  clear hy227
  have H' := aM_ H
  clear H
  go_wp2_with (first | ((with_reducible refine gD_ (N := 34) rfl ?_); refine Kd.R_lit k76 _ 76 ?hg (N := 34) ?hd (xs := ([] : List (S76))) (inner := []) (ok := fun _ => True) (okp := fun _ => True) ?hr ?hp (fun _ hk => hk) trivial (Below.refl _ _) (Nat.le_refl _) (by simp) ?_; (case hd => rfl); (case hg => rfl); (case hr => (go_simp; done)); (case hp => exact (Reps.none _ _)); intro v228 w14 ho15 hb hg_ hnew_; clear hg_ hnew_; (rw [← Ny227.out] at ho15); replace HO_3 := k9_ HO_3 hb; have HO229 := aM_ (k5_ ho15 (bZ_ HB.out)); replace BK218 := b5_ BK218 hb; replace HB := b4_ HB hb; clear hb ho15; obtain ⟨Ao16, co16, eo16⟩ := kS_ HO229.out; subst eo16) | (refine bx_ 6 #[.slice none 0 0] 36 ?_; intro gb230 hg w17 hbox hb; replace HO_3 := k9_ HO_3 hb; replace HO229 := k9_ HO229 hb; have BK230 := aM_ (hbox); have GW230 := gw_ hg HB; replace HB := b4_ HB hb; have NB218_230 := nb_ hg BK218; have NB230_218 := ns_ NB218_230; replace BK218 := b5_ BK218 hb; clear hb hbox hg; have hnb18 := NB230_218.out; have hnc18 := NB218_230.out; have hcz19_0 := c0_ BK230; have hfz19_0 := bF_ BK230.out 0))
  go_loopg [7] k1 (fun kq v7 w' => ∃ (x7_2 : Int) (x231000_2 : List (S76)) (u231000 : Value), v7 = .int .i64 x7_2 ∧ Aside0 (sF55.l2 kq l0 x3_1 x7_2 x231000_2 = some r) ∧ Aside0 (kq ≤ k1) ∧ Aside0 (Kd.R Kd.string 9 w' w.heap.size (fun _ => True) u3 x3_1) ∧ Aside0 (Kd.R k76 76 w' w.heap.size (fun _ => True) u231000 x231000_2) ∧ Aside0 (w'.heap[gb218]? = some (.cells #[(.slice none 0 0)] 36 (0, 0))) ∧ Aside0 (w'.heap[gb230]? = some (.cells #[u231000] 36 (0, 0))) ∧ Aside0 (Below w.heap.size w w'))
  case atStart => exact ⟨(0), (y227), (.slice Ao16 y227.length co16), (by rfl), H', ⟨Nat.le_refl _⟩, ⟨by exact kM_ (kG_ (kT_ HO_3.out BK230.out (by decide))) (fun _ hk => trivial)⟩, ⟨by exact kM_ (kG_ (kT_ HO229.out BK230.out (by decide))) (fun _ hk => trivial)⟩, ⟨by exact br_ NB218_230.out (BK218.out)⟩, ⟨by refine bP_ (cs := #[.slice none 0 0]) ?_ 0 _ rfl; exact BK230.out⟩, ⟨by repeat with_reducible first | exact HB.out | apply bA_ | apply bN_ | apply bD_ | refine bS_ ?_ (Aside0.out ‹_›)⟩⟩
  clear H'
  try clear p2
  try clear q2
  try clear hx2
  try clear c5b0
  try clear c6b0
  try clear p6
  try clear c7b0
  try clear c8b0
  try clear c9b0
  try clear c9b1
  try clear c10b0
  try clear hcz19_0
  try clear hfz19_0
  try clear hx222_0
  try clear hx223_0
  try clear p2
  try clear p222
  try clear p223
  try clear q222
  try clear q223
  obtain ⟨x7_2, x231000_2, u231000, rfl, HA, HK2, HO_3, HO_231000, BK218, BK230, HB⟩ := hrel
  cases gk with
  | zero => exact absurd HA.out (by simp [sF55.l2])
  | succ k2 =>
   have H := HA.out
   clear HA
   simp only [sF55.l2] at H
   by_cases c20 : x7_2 < (x3_1.length : Int)
   rotate_left
   ·
    rw [if_neg c20] at H
    have c20b0 := dF_ c20
    clear c20
    obtain rfl := Option.some.inj H
    obtain ⟨Ao53, co53, eo53⟩ := kS_ HO_3.out
    subst eo53
    have hnb54 := NB230_218.out
    have hnc54 := NB218_230.out
    have hcz55_0 := c0_ BK230
    have hfz55_0 := bF_ BK230.out 0
    obtain ⟨Ao56, co56, eo56⟩ := kS_ HO_231000.out
    subst eo56
    have hcz57_0 := c0_ BK218
    have hfz57_0 := bF_ BK218.out 0
    go_wp2
    refine bodyPost_ret (results_cell_row rfl _ _ gb218 36 #[.slice Ao56 x231000_2.length co56] (0, 0) _ rfl (by refine bP_ (cs := #[.slice none 0 0]) ?_ 0 _ rfl; exact BK218.out) Tryz.underlying36 rfl (by kernel_rfl)) rfl ?_
    exact ⟨_, by rfl, by exact kM_ (kG_ (kT_ HO_231000.out BK218.out (by decide))) (fun _ hk => trivial), by repeat with_reducible first | exact HB.out | apply bA_ | apply bN_ | apply bD_ | refine bS_ ?_ (Aside0.out ‹_›)⟩
   rw [if_pos c20] at H
   have c20b0 := dT_ c20
   clear c20
   by_cases c21 : 0 ≤ x7_2
   rotate_left
   ·
    rw [if_neg c21] at H
    exact absurd H (by simp)
   rw [if_pos c21] at H
   have c21b0 := dT_ c21
   clear c21
   replace H := oB_.mp H
   obtain ⟨t232, A220, H⟩ := H
   try dsimp only at H
   have A22 := aM_ A220
   clear A220
   by_cases c23 : x7_2 > 0
   rotate_left
   ·
    rw [if_neg c23] at H
    have c23b0 := dF_ c23
    clear c23
    by_cases c42 : x231000_2.length < 5864062014805
    rotate_left
    ·
     rw [if_neg c42] at H
     exact absurd H (by simp)
    rw [if_pos c42] at H
    have LMc42 := aM_ c42
    clear c42
    obtain ⟨y238, hy238⟩ : ∃ y_ : List (S76), y_ = (x231000_2 ++ [(⟨(-1), (-1), t232⟩ : S76)]) := ⟨_, rfl⟩
    replace H : (sF55.l2 k2 l0 x3_1 (wrap64 (x7_2 + 1)) y238) = some r := by (try rw [hy238]); first | with_reducible exact H | with_reducible exact oS_ H | exact H
    have Ny238 := aM_ hy238
    clear hy238
    have H' := aM_ H
    clear H
    obtain ⟨Ao43, co43, eo43⟩ := kS_ HO_3.out
    subst eo43
    have p231 : 0 ≤ (x7_2 : Int) := oD_ ‹_›
    have q231 : x7_2 < (x3_1.length : Int) := oD_ ‹_›
    obtain ⟨ad231, e231, hx231_0⟩ := Kd.at_string (kR_ HO_3.out).2.2 x7_2 p231 q231
    cases e231
    replace p231 := eq_true p231
    replace q231 := eq_true q231
    go_wp2_with (first | (refine gs_ 48 Tryz.func28 #[.slice A0 l0.length c0, .string (rdOf eB_ x3_1 x7_2)] ?_; (with_reducible refine (sF53.calls k2 _ _ l0 (rdOf eB_ x3_1 x7_2) t232 _ ?side1 HC0.out A22.out).mono ?_); (case side1 => repeat (first | exact (k4_ HR0.out HB.out) | with_reducible first | apply cA_ | apply cN_ | apply cD_)); rintro e w' ⟨rfl, ⟨nd, rfl⟩⟩; refine ⟨_, rfl, ?_⟩; (try (rw [drewN_self wr]; generalize hq_ : World.drewN wr _ = wr; have n0_ : Aside0 (Kd.R k76 76 wr w.heap.size (fun _ => True) u231000 x231000_2) := ⟨by rw [← hq_]; exact (by (with_reducible repeat (first | apply k1_ | apply k2_ | apply k3_)); exact HO_231000.out)⟩; have n1_ : Aside0 (Kd.R Kd.string 9 wr w.heap.size (fun _ => True) (.slice (some ad231) x3_1.length co43) x3_1) := ⟨by rw [← hq_]; exact (by (with_reducible repeat (first | apply k1_ | apply k2_ | apply k3_)); exact HO_3.out)⟩; have n2_ : Aside0 (wr.heap[gb218]? = some (.cells #[.slice none 0 0] 36 (0, 0))) := ⟨by rw [← hq_]; exact (by (with_reducible repeat (first | refine b2_ ?_ _ | refine b1_ ?_ | refine b3_ ?_ _)); exact BK218.out)⟩; have n3_ : Aside0 (wr.heap[gb230]? = some (.cells #[u231000] 36 (0, 0))) := ⟨by rw [← hq_]; exact (by (with_reducible repeat (first | refine b2_ ?_ _ | refine b1_ ?_ | refine b3_ ?_ _)); exact BK230.out)⟩; have n4_ : Aside0 (Below w.heap.size w wr) := ⟨by rw [← hq_]; exact (by repeat with_reducible first | exact HB.out | apply bA_ | apply bN_ | apply bD_ | refine bS_ ?_ (Aside0.out ‹_›))⟩; clear HO_231000 HO_3 BK218 BK230 HB hq_; have HO_231000 := n0_; have HO_3 := n1_; have BK218 := n2_; have BK230 := n3_; have HB := n4_; clear n0_ n1_ n2_ n3_ n4_))) | (refine bx_ 9 #[.int .i64 0, .int .i64 0, .bool false] 76 ?_; intro gb233 hg w44 hbox hb; replace HO_3 := k9_ HO_3 hb; replace HO_231000 := aM_ (kB_ (Kd.R_elderB HO_231000.out gb233 (Nat.le_of_eq hg.symm)) hb); have BK233 := aM_ (hbox); have GW233 := gw_ hg HB; replace HB := b4_ HB hb; have NB218_233 := nb_ hg BK218; have NB233_218 := ns_ NB218_233; replace BK218 := b5_ BK218 hb; have NB230_233 := nb_ hg BK230; have NB233_230 := ns_ NB230_233; replace BK230 := b5_ BK230 hb; clear hb hbox hg; have hnb45 := NB233_218.out; have hnc45 := NB218_233.out; have hnb46 := NB233_230.out; have hnc46 := NB230_233.out; have hcz47_0 := c0_ BK233; have hcz47_1 := c1_ BK233; have hcz47_2 := c2_ BK233; have hfz47_0 := bF_ BK233.out 0; have hfz47_1 := bF_ BK233.out 1; have hfz47_2 := bF_ BK233.out 2; have hnb48 := NB230_218.out; have hnc48 := NB218_230.out; have hcz49_0 := c0_ BK230; have hfz49_0 := bF_ BK230.out 0) | ((with_reducible refine gate_builtin (b := .append) (xs := #[.tmp 69, .tmp 71]) rfl ?_); at_builtin; refine Kd.R_append k76 (w0 := w) w.heap.size rfl (.tmp 69) (.tmp 71) 34 76 (.agg #[(.int .i64 0), (.int .i64 0), (.bool false)]) 24 rfl Tryz.underlying34 info76 rfl (by decide) (by omega) u231000 x231000_2 (⟨(-1), (-1), t232⟩ : S76) [.int .i64 (-1), .int .i64 (-1), .bool t232] (fun k_ => k_ ≠ gb233) (fun _ => False) rfl (by (go_simp; done)) ?aP (fun _ hk => hk.elim) ?aF ?aO ?aB ?aS ?aL ?_; (case aP => exact k76_mkM _ _ _ (⟨(-1), (-1), t232⟩ : S76)); (case aB => exact (by repeat with_reducible first | exact HB.out | apply bA_ | apply bN_ | apply bD_ | refine bS_ ?_ (Aside0.out ‹_›))); (case aF => exact (fun k_ hk => Kd.freshB (g := gb233) (o := .cells #[.int .i64 (-1), .int .i64 (-1), .bool t232] 76 (0, 0)) (by refine bP_ (cs := #[.int .i64 (-1), .int .i64 (-1), .bool false]) ?_ 2 _ rfl; refine bP_ (cs := #[.int .i64 (-1), .int .i64 0, .bool false]) ?_ 1 _ rfl; refine bP_ (cs := #[.int .i64 0, .int .i64 0, .bool false]) ?_ 0 _ rfl; exact BK233.out) k_ hk)); (case aO => exact (by exact kM_ (kF_ (p := ⟨gb233, 2, none⟩) (kF_ (p := ⟨gb233, 1, none⟩) (kF_ (p := ⟨gb233, 0, none⟩) (kM_ HO_231000.out (fun k_ hk => (⟨hk, hk.2⟩ : _ ∧ k_ ≠ gb233))) (fun _ hk => hk.2) (.int .i64 (-1))) (fun _ hk => hk.2) (.int .i64 (-1))) (fun _ hk => hk.2) (.bool t232)) (fun _ hk => hk.1.2))); (case aS => exact (bZ_ (by repeat with_reducible first | exact HB.out | apply bA_ | apply bN_ | apply bD_ | refine bS_ ?_ (Aside0.out ‹_›)))); (case aL => have := LMc42.out; omega); intro v239 w50 ho hb hg hat; rw [← Ny238.out] at ho; have n0_ := aM_ (Kd.R_over' (by exact (kM_ (kG_ (kG_ (kG_ (kT_ HO_3.out BK233.out (by decide))))) (fun _ h_ => h_.1))) (Kd.R_typed (by exact (kM_ (kF_ (p := ⟨gb233, 2, none⟩) (kF_ (p := ⟨gb233, 1, none⟩) (kF_ (p := ⟨gb233, 0, none⟩) (kM_ HO_231000.out (fun k_ hk => (⟨hk, hk.2⟩ : _ ∧ k_ ≠ gb233))) (fun _ hk => hk.2) (.int .i64 (-1))) (fun _ hk => hk.2) (.int .i64 (-1))) (fun _ hk => hk.2) (.bool t232)) (fun _ h_ => h_.1)))) (by decide) hg); have n1_ := aM_ (blk_grown (g := gb218) (o := .cells #[.slice none 0 0] 36 (0, 0)) (by exact br_ NB218_233.out (br_ NB218_233.out (br_ NB218_233.out (BK218.out)))) hg (k6_ HO_231000.out BK218.out (by decide))); have n2_ := aM_ (blk_grown (g := gb230) (o := .cells #[u231000] 36 (0, 0)) (by exact br_ NB230_233.out (br_ NB230_233.out (br_ NB230_233.out (BK230.out)))) hg (k6_ HO_231000.out BK230.out (by decide))); have n3_ := aM_ (blk_grown (g := gb233) (o := .cells #[.int .i64 (-1), .int .i64 (-1), .bool t232] 76 (0, 0)) (by refine bP_ (cs := #[.int .i64 (-1), .int .i64 (-1), .bool false]) ?_ 2 _ rfl; refine bP_ (cs := #[.int .i64 (-1), .int .i64 0, .bool false]) ?_ 1 _ rfl; refine bP_ (cs := #[.int .i64 0, .int .i64 0, .bool false]) ?_ 0 _ rfl; exact BK233.out) hg (Kd.R_away HO_231000.out (fun _ hk => hk.2))); have n4_ := aM_ (hb); have n5_ := aM_ (ho); clear HO_3; clear BK218; clear BK230; clear BK233; clear HB; clear HO_231000; have HO_3 := n0_; have BK218 := n1_; have BK230 := n2_; have BK233 := n3_; have HB := n4_; have HO240 := n5_; clear n0_ n1_ n2_ n3_ n4_ n5_; clear ho hb hg hat; obtain ⟨Ao51, co51, eo51⟩ := kS_ HO240.out; subst eo51; have hcz52_0 := c0_ BK230; have hfz52_0 := bF_ BK230.out 0))
    go_roundg k2
    case measure => have := HK1.out; have := HK2.out; omega
    case rel => exact ⟨(wrap64 (x7_2 + 1)), (y238), (.slice Ao51 y238.length co51), (by rfl), H', ⟨by have := HK1.out; have := HK2.out; omega⟩, ⟨by exact kM_ (kG_ (kT_ HO_3.out BK230.out (by decide))) (fun _ hk => trivial)⟩, ⟨by exact kM_ (kG_ (kT_ HO240.out BK230.out (by decide))) (fun _ hk => trivial)⟩, ⟨by exact br_ NB218_230.out (BK218.out)⟩, ⟨by refine bP_ (cs := #[u231000]) ?_ 0 _ rfl; exact BK230.out⟩, ⟨by repeat with_reducible first | exact HB.out | apply bA_ | apply bN_ | apply bD_ | refine bS_ ?_ (Aside0.out ‹_›)⟩⟩
   rw [if_pos c23] at H
   have c23b0 := dT_ c23
   clear c23
   obtain ⟨ji24, hji24⟩ : ∃ j_ : Int, (wrap64 (((rdOf eB_ x3_1 x7_2).size : Int) - 1)) = j_ := ⟨_, rfl⟩
   replace H : (if 0 ≤ (ji24) then (if (ji24) < ((rdOf eB_ x3_1 x7_2).size : Int) then (if (ji24) ≤ ((rdOf eB_ x3_1 x7_2).size : Int) then ((sF57.f k2 x3_1 ((rdOf eB_ x3_1 x7_2).extract 0 ((ji24) : Int).toNat)).bind fun t234 => (if x231000_2.length < 5864062014805 then (sF55.l2 k2 l0 x3_1 (wrap64 (x7_2 + 1)) (x231000_2 ++ [(⟨((bt (rdOf eB_ x3_1 x7_2) (ji24)) - 97) % 256, t234, t232⟩ : S76)])) else (none))) else (none)) else (none)) else (none)) = some r := by first | (rw [hji24] at H; exact H) | (simp only [hji24] at H ⊢; exact H)
   (try rw [hji24] at A22)
   have hji24w : (IntKind.i64.wrap (((rdOf eB_ x3_1 x7_2).size : Int) - 1)) = ji24 := (i6_ _).trans hji24
   by_cases c25 : 0 ≤ (ji24)
   rotate_left
   ·
    rw [if_neg c25] at H
    exact absurd H (by simp)
   rw [if_pos c25] at H
   have c25b0 := dT_ c25
   clear c25
   by_cases c26 : (ji24) < ((rdOf eB_ x3_1 x7_2).size : Int)
   rotate_left
   ·
    rw [if_neg c26] at H
    exact absurd H (by simp)
   rw [if_pos c26] at H
   have c26b0 := dT_ c26
   clear c26
   have c28b0 := eq_true (oD_ ‹_› : 0 ≤ (ji24))
   by_cases c29 : (ji24) ≤ ((rdOf eB_ x3_1 x7_2).size : Int)
   rotate_left
   ·
    rw [if_neg c29] at H
    exact absurd H (by simp)
   rw [if_pos c29] at H
   have c29b0 := eq_true c29
   have c29b1 := dT_ c29
   clear c29
   replace H := oB_.mp H
   obtain ⟨t234, A300, H⟩ := H
   try dsimp only at H
   have A30 := aM_ A300
   clear A300
   by_cases c31 : x231000_2.length < 5864062014805
   rotate_left
   ·
    rw [if_neg c31] at H
    exact absurd H (by simp)
   rw [if_pos c31] at H
   have LMc31 := aM_ c31
   clear c31
   obtain ⟨y235, hy235⟩ : ∃ y_ : List (S76), y_ = (x231000_2 ++ [(⟨((bt (rdOf eB_ x3_1 x7_2) (ji24)) - 97) % 256, t234, t232⟩ : S76)]) := ⟨_, rfl⟩
   replace H : (sF55.l2 k2 l0 x3_1 (wrap64 (x7_2 + 1)) y235) = some r := by (try rw [hy235]); first | with_reducible exact H | with_reducible exact oS_ H | exact H
   have Ny235 := aM_ hy235
   clear hy235
   have H' := aM_ H
   clear H
   obtain ⟨Ao32, co32, eo32⟩ := kS_ HO_3.out
   subst eo32
   have p231 : 0 ≤ (x7_2 : Int) := oD_ ‹_›
   have q231 : x7_2 < (x3_1.length : Int) := oD_ ‹_›
   obtain ⟨ad231, e231, hx231_0⟩ := Kd.at_string (kR_ HO_3.out).2.2 x7_2 p231 q231
   cases e231
   replace p231 := eq_true p231
   replace q231 := eq_true q231
   go_wp2_with (first | (refine gs_ 48 Tryz.func28 #[.slice A0 l0.length c0, .string (rdOf eB_ x3_1 x7_2)] ?_; (with_reducible refine (sF53.calls k2 _ _ l0 (rdOf eB_ x3_1 x7_2) t232 _ ?side1 HC0.out A22.out).mono ?_); (case side1 => repeat (first | exact (k4_ HR0.out HB.out) | with_reducible first | apply cA_ | apply cN_ | apply cD_)); rintro e w' ⟨rfl, ⟨nd, rfl⟩⟩; refine ⟨_, rfl, ?_⟩; (try (rw [drewN_self wr]; generalize hq_ : World.drewN wr _ = wr; have n0_ : Aside0 (Kd.R k76 76 wr w.heap.size (fun _ => True) u231000 x231000_2) := ⟨by rw [← hq_]; exact (by (with_reducible repeat (first | apply k1_ | apply k2_ | apply k3_)); exact HO_231000.out)⟩; have n1_ : Aside0 (Kd.R Kd.string 9 wr w.heap.size (fun _ => True) (.slice (some ad231) x3_1.length co32) x3_1) := ⟨by rw [← hq_]; exact (by (with_reducible repeat (first | apply k1_ | apply k2_ | apply k3_)); exact HO_3.out)⟩; have n2_ : Aside0 (wr.heap[gb218]? = some (.cells #[.slice none 0 0] 36 (0, 0))) := ⟨by rw [← hq_]; exact (by (with_reducible repeat (first | refine b2_ ?_ _ | refine b1_ ?_ | refine b3_ ?_ _)); exact BK218.out)⟩; have n3_ : Aside0 (wr.heap[gb230]? = some (.cells #[u231000] 36 (0, 0))) := ⟨by rw [← hq_]; exact (by (with_reducible repeat (first | refine b2_ ?_ _ | refine b1_ ?_ | refine b3_ ?_ _)); exact BK230.out)⟩; have n4_ : Aside0 (Below w.heap.size w wr) := ⟨by rw [← hq_]; exact (by repeat with_reducible first | exact HB.out | apply bA_ | apply bN_ | apply bD_ | refine bS_ ?_ (Aside0.out ‹_›))⟩; clear HO_231000 HO_3 BK218 BK230 HB hq_; have HO_231000 := n0_; have HO_3 := n1_; have BK218 := n2_; have BK230 := n3_; have HB := n4_; clear n0_ n1_ n2_ n3_ n4_))) | (refine bx_ 9 #[.int .i64 0, .int .i64 0, .bool false] 76 ?_; intro gb233 hg w33 hbox hb; replace HO_3 := k9_ HO_3 hb; replace HO_231000 := aM_ (kB_ (Kd.R_elderB HO_231000.out gb233 (Nat.le_of_eq hg.symm)) hb); have BK233 := aM_ (hbox); have GW233 := gw_ hg HB; replace HB := b4_ HB hb; have NB218_233 := nb_ hg BK218; have NB233_218 := ns_ NB218_233; replace BK218 := b5_ BK218 hb; have NB230_233 := nb_ hg BK230; have NB233_230 := ns_ NB230_233; replace BK230 := b5_ BK230 hb; clear hb hbox hg; have hnb34 := NB233_218.out; have hnc34 := NB218_233.out; have hnb35 := NB233_230.out; have hnc35 := NB230_233.out; have hcz36_0 := c0_ BK233; have hcz36_1 := c1_ BK233; have hcz36_2 := c2_ BK233; have hfz36_0 := bF_ BK233.out 0; have hfz36_1 := bF_ BK233.out 1; have hfz36_2 := bF_ BK233.out 2; have p27 : 0 ≤ ((ji24) : Int) := oD_ ‹_›; have q27 : (ji24) < ((rdOf eB_ x3_1 x7_2).size : Int) := oD_ ‹_›; have hx27 := bt_at (rdOf eB_ x3_1 x7_2) (ji24); replace p27 := eq_true p27; replace q27 := eq_true q27) | (refine gs_ 66 Tryz.func77 #[.slice (some ad231) x3_1.length co32, .string ((rdOf eB_ x3_1 x7_2).extract 0 ((ji24) : Int).toNat)] ?_; (with_reducible refine (sF57.calls k2 _ _ x3_1 ((rdOf eB_ x3_1 x7_2).extract 0 ((ji24) : Int).toNat) t234 _ ?side1 ?side2 A30.out).mono ?_); (case side1 => refine (kR_ (e := 9) (base := w.heap.size) (ok := fun k_ => True) (n := x3_1.length) (c := co32) ?_).2.2; exact (by exact (kM_ (kG_ (kG_ (kG_ (kG_ (kT_ HO_3.out BK233.out (by decide)))))) (fun _ h_ => h_.1)))); (case side2 => exact (kR_ HO_3.out).2.1); rintro e w' ⟨rfl, ⟨nd, rfl⟩⟩; refine ⟨_, rfl, ?_⟩; have m0_ : Aside0 (Kd.R Kd.string 9 (((((w33.setCell ⟨gb233, 0, none⟩ (.int .i64 (-1))).setCell ⟨gb233, 1, none⟩ (.int .i64 (-1))).setCell ⟨gb233, 2, none⟩ (.bool t232)).setCell ⟨gb233, 0, none⟩ (.int .i64 (((bt (rdOf eB_ x3_1 x7_2) (ji24)) - 97) % 256))).drewN nd) w.heap.size (fun _ => True) (.slice (some ad231) x3_1.length co32) x3_1) := ⟨by (with_reducible repeat (first | apply k1_ | apply k2_ | apply k3_)); exact kM_ (kG_ (kG_ (kG_ (kG_ (kT_ HO_3.out BK233.out (by decide)))))) (fun _ _ => trivial)⟩; have m1_ : Aside0 (Kd.R k76 76 (((((w33.setCell ⟨gb233, 0, none⟩ (.int .i64 (-1))).setCell ⟨gb233, 1, none⟩ (.int .i64 (-1))).setCell ⟨gb233, 2, none⟩ (.bool t232)).setCell ⟨gb233, 0, none⟩ (.int .i64 (((bt (rdOf eB_ x3_1 x7_2) (ji24)) - 97) % 256))).drewN nd) w.heap.size (fun k_ => True ∧ k_ ≠ gb233) u231000 x231000_2) := ⟨by (with_reducible repeat (first | apply k1_ | apply k2_ | apply k3_)); exact kM_ (kF_ (p := ⟨gb233, 0, none⟩) (kF_ (p := ⟨gb233, 2, none⟩) (kF_ (p := ⟨gb233, 1, none⟩) (kF_ (p := ⟨gb233, 0, none⟩) (kM_ HO_231000.out (fun k_ hk => (⟨hk, hk.2⟩ : _ ∧ k_ ≠ gb233))) (fun _ hk => hk.2) (.int .i64 (-1))) (fun _ hk => hk.2) (.int .i64 (-1))) (fun _ hk => hk.2) (.bool t232)) (fun _ hk => hk.2) (.int .i64 (((bt (rdOf eB_ x3_1 x7_2) (ji24)) - 97) % 256))) (fun _ hk => ⟨trivial, hk.2⟩)⟩; have m2_ : Aside0 ((((((w33.setCell ⟨gb233, 0, none⟩ (.int .i64 (-1))).setCell ⟨gb233, 1, none⟩ (.int .i64 (-1))).setCell ⟨gb233, 2, none⟩ (.bool t232)).setCell ⟨gb233, 0, none⟩ (.int .i64 (((bt (rdOf eB_ x3_1 x7_2) (ji24)) - 97) % 256))).drewN nd).heap[gb218]? = some (.cells #[.slice none 0 0] 36 (0, 0))) := ⟨by (with_reducible repeat (first | refine b2_ ?_ _ | refine b1_ ?_ | refine b3_ ?_ _)); exact br_ NB218_233.out (br_ NB218_233.out (br_ NB218_233.out (br_ NB218_233.out (BK218.out))))⟩; have m3_ : Aside0 ((((((w33.setCell ⟨gb233, 0, none⟩ (.int .i64 (-1))).setCell ⟨gb233, 1, none⟩ (.int .i64 (-1))).setCell ⟨gb233, 2, none⟩ (.bool t232)).setCell ⟨gb233, 0, none⟩ (.int .i64 (((bt (rdOf eB_ x3_1 x7_2) (ji24)) - 97) % 256))).drewN nd).heap[gb230]? = some (.cells #[u231000] 36 (0, 0))) := ⟨by (with_reducible repeat (first | refine b2_ ?_ _ | refine b1_ ?_ | refine b3_ ?_ _)); exact br_ NB230_233.out (br_ NB230_233.out (br_ NB230_233.out (br_ NB230_233.out (BK230.out))))⟩; have m4_ : Aside0 ((((((w33.setCell ⟨gb233, 0, none⟩ (.int .i64 (-1))).setCell ⟨gb233, 1, none⟩ (.int .i64 (-1))).setCell ⟨gb233, 2, none⟩ (.bool t232)).setCell ⟨gb233, 0, none⟩ (.int .i64 (((bt (rdOf eB_ x3_1 x7_2) (ji24)) - 97) % 256))).drewN nd).heap[gb233]? = some (.cells #[.int .i64 (((bt (rdOf eB_ x3_1 x7_2) (ji24)) - 97) % 256), .int .i64 (-1), .bool t232] 76 (0, 0))) := ⟨by (with_reducible repeat (first | refine b2_ ?_ _ | refine b1_ ?_ | refine b3_ ?_ _)); refine bP_ (cs := #[.int .i64 (-1), .int .i64 (-1), .bool t232]) ?_ 0 _ rfl; refine bP_ (cs := #[.int .i64 (-1), .int .i64 (-1), .bool false]) ?_ 2 _ rfl; refine bP_ (cs := #[.int .i64 (-1), .int .i64 0, .bool false]) ?_ 1 _ rfl; refine bP_ (cs := #[.int .i64 0, .int .i64 0, .bool false]) ?_ 0 _ rfl; exact BK233.out⟩; have m5_ : Aside0 (Below w.heap.size w (((((w33.setCell ⟨gb233, 0, none⟩ (.int .i64 (-1))).setCell ⟨gb233, 1, none⟩ (.int .i64 (-1))).setCell ⟨gb233, 2, none⟩ (.bool t232)).setCell ⟨gb233, 0, none⟩ (.int .i64 (((bt (rdOf eB_ x3_1 x7_2) (ji24)) - 97) % 256))).drewN nd)) := ⟨by repeat with_reducible first | exact HB.out | apply bA_ | apply bN_ | apply bD_ | refine bS_ ?_ (Aside0.out ‹_›)⟩; clear HO_3 HO_231000 BK218 BK230 BK233 HB; generalize (((((w33.setCell ⟨gb233, 0, none⟩ (.int .i64 (-1))).setCell ⟨gb233, 1, none⟩ (.int .i64 (-1))).setCell ⟨gb233, 2, none⟩ (.bool t232)).setCell ⟨gb233, 0, none⟩ (.int .i64 (((bt (rdOf eB_ x3_1 x7_2) (ji24)) - 97) % 256))).drewN nd) = w339 at m0_ m1_ m2_ m3_ m4_ m5_ ⊢; have HO_3 := m0_; have HO_231000 := m1_; have BK218 := m2_; have BK230 := m3_; have BK233 := m4_; have HB := m5_; clear m0_ m1_ m2_ m3_ m4_ m5_; have hczz_0 := c0_ BK233; have hfzz_0 := bF_ BK233.out 0; have hczz_1 := c1_ BK233; have hfzz_1 := bF_ BK233.out 1; have hczz_2 := c2_ BK233; have hfzz_2 := bF_ BK233.out 2; have hnb37 := NB230_218.out; have hnc37 := NB218_230.out; have hcz38_0 := c0_ BK230; have hfz38_0 := bF_ BK230.out 0) | ((with_reducible refine gate_builtin (b := .append) (xs := #[.tmp 69, .tmp 71]) rfl ?_); at_builtin; refine Kd.R_append k76 (w0 := w) w.heap.size rfl (.tmp 69) (.tmp 71) 34 76 (.agg #[(.int .i64 0), (.int .i64 0), (.bool false)]) 24 rfl Tryz.underlying34 info76 rfl (by decide) (by omega) u231000 x231000_2 (⟨((bt (rdOf eB_ x3_1 x7_2) (ji24)) - 97) % 256, t234, t232⟩ : S76) [.int .i64 (((bt (rdOf eB_ x3_1 x7_2) (ji24)) - 97) % 256), .int .i64 t234, .bool t232] (fun k_ => k_ ≠ gb233) (fun _ => False) rfl (by (go_simp; done)) ?aP (fun _ hk => hk.elim) ?aF ?aO ?aB ?aS ?aL ?_; (case aP => exact k76_mkM _ _ _ (⟨((bt (rdOf eB_ x3_1 x7_2) (ji24)) - 97) % 256, t234, t232⟩ : S76)); (case aB => exact (by repeat with_reducible first | exact HB.out | apply bA_ | apply bN_ | apply bD_ | refine bS_ ?_ (Aside0.out ‹_›))); (case aF => exact (fun k_ hk => Kd.freshB (g := gb233) (o := .cells #[.int .i64 (((bt (rdOf eB_ x3_1 x7_2) (ji24)) - 97) % 256), .int .i64 t234, .bool t232] 76 (0, 0)) (by refine bP_ (cs := #[.int .i64 (((bt (rdOf eB_ x3_1 x7_2) (ji24)) - 97) % 256), .int .i64 (-1), .bool t232]) ?_ 1 _ rfl; exact BK233.out) k_ hk)); (case aO => exact (by exact kM_ (kF_ (p := ⟨gb233, 1, none⟩) (kM_ HO_231000.out (fun k_ hk => (⟨hk, hk.2⟩ : _ ∧ k_ ≠ gb233))) (fun _ hk => hk.2) (.int .i64 t234)) (fun _ hk => hk.1.2))); (case aS => exact (bZ_ (by repeat with_reducible first | exact HB.out | apply bA_ | apply bN_ | apply bD_ | refine bS_ ?_ (Aside0.out ‹_›)))); (case aL => have := LMc31.out; omega); intro v236 w39 ho hb hg hat; rw [← Ny235.out] at ho; have n0_ := aM_ (Kd.R_over' (by exact (kM_ (kG_ (kT_ HO_3.out BK233.out (by decide))) (fun _ h_ => h_.1))) (Kd.R_typed (by exact (kM_ (kF_ (p := ⟨gb233, 1, none⟩) (kM_ HO_231000.out (fun k_ hk => (⟨hk, hk.2⟩ : _ ∧ k_ ≠ gb233))) (fun _ hk => hk.2) (.int .i64 t234)) (fun _ h_ => h_.1)))) (by decide) hg); have n1_ := aM_ (blk_grown (g := gb218) (o := .cells #[.slice none 0 0] 36 (0, 0)) (by exact br_ NB218_233.out (BK218.out)) hg (k6_ HO_231000.out BK218.out (by decide))); have n2_ := aM_ (blk_grown (g := gb230) (o := .cells #[u231000] 36 (0, 0)) (by exact br_ NB230_233.out (BK230.out)) hg (k6_ HO_231000.out BK230.out (by decide))); have n3_ := aM_ (blk_grown (g := gb233) (o := .cells #[.int .i64 (((bt (rdOf eB_ x3_1 x7_2) (ji24)) - 97) % 256), .int .i64 t234, .bool t232] 76 (0, 0)) (by refine bP_ (cs := #[.int .i64 (((bt (rdOf eB_ x3_1 x7_2) (ji24)) - 97) % 256), .int .i64 (-1), .bool t232]) ?_ 1 _ rfl; exact BK233.out) hg (Kd.R_away HO_231000.out (fun _ hk => hk.2))); have n4_ := aM_ (hb); have n5_ := aM_ (ho); clear HO_3; clear BK218; clear BK230; clear BK233; clear HB; clear HO_231000; have HO_3 := n0_; have BK218 := n1_; have BK230 := n2_; have BK233 := n3_; have HB := n4_; have HO237 := n5_; clear n0_ n1_ n2_ n3_ n4_ n5_; clear ho hb hg hat; obtain ⟨Ao40, co40, eo40⟩ := kS_ HO237.out; subst eo40; have hcz41_0 := c0_ BK230; have hfz41_0 := bF_ BK230.out 0))
   go_roundg k2
   case measure => have := HK1.out; have := HK2.out; omega
   case rel => exact ⟨(wrap64 (x7_2 + 1)), (y235), (.slice Ao40 y235.length co40), (by rfl), H', ⟨by have := HK1.out; have := HK2.out; omega⟩, ⟨by exact kM_ (kG_ (kT_ HO_3.out BK230.out (by decide))) (fun _ hk => trivial)⟩, ⟨by exact kM_ (kG_ (kT_ HO237.out BK230.out (by decide))) (fun _ hk => trivial)⟩, ⟨by exact br_ NB218_230.out (BK218.out)⟩, ⟨by refine bP_ (cs := #[u231000]) ?_ 0 _ rfl; exact BK230.out⟩, ⟨by repeat with_reducible first | exact HB.out | apply bA_ | apply bN_ | apply bD_ | refine bS_ ?_ (Aside0.out ‹_›)⟩⟩
def sF67.l0 : Nat → List ByteArray → Int → List (S60) → Option ((List (S76)) × Bool)
 | 0, _, _, _ => none
 | k + 1, x4, x5, x246000 => if x5 < (x246000.length : Int) then (if 0 ≤ x5 then (if (rd_T60 x246000 x5).f2 = true then ((sF68.f k x246000 x5).bind fun t252 => (if x4.length < 8796093022208 then (sF67.l0 k (x4 ++ [t252]) (wrap64 (x5 + 1)) x246000) else (none))) else (sF67.l0 k x4 (wrap64 (x5 + 1)) x246000)) else (none)) else ((sF63.f k x4).bind fun bt256 => (if bt256.2 = true then ((sF55.f k bt256.1).bind fun t260 => ((sF69.f k t260).bind fun t264 => ((sF70.f k t264 x246000).bind fun t267 => (if t267 = true then (some (t260, true)) else (some (([] : List (S76)), false)))))) else (some (([] : List (S76)), false))))
def sF67.f (k : Nat) (l0_0 : List (S60)) : Option ((List (S76)) × Bool) := (sF51.f (l0_0.length : Int) 1 81).bind fun t250 => (if t250 = true then (sF67.l0 k (([] : List ByteArray)) 0 l0_0) else (some (([] : List (S76)), false)))
theorem sF67.mono_l : ∀ k, (∀ y0 y1 y2, LeO (sF67.l0 k y0 y1 y2) (sF67.l0 (k + 1) y0 y1 y2))
 | 0 => fun _ _ _ r h => by simp [sF67.l0] at h
 | k + 1 => by
  have ih0 := sF67.mono_l k
  intro y0 y1 y2
  unfold sF67.l0
  repeat' with_reducible first | exact ih0 _ _ _ | exact sF55.mono _ _ | exact sF63.mono _ _ | exact sF68.mono _ _ _ | exact sF69.mono _ _ | exact sF70.mono _ _ _ | exact l3_ _ | exact l0_ _ | refine l2_ ?_ ?_ | refine l1_ ?_ (fun _ => ?_)
theorem sF67.mono : ∀ a0 k, LeO (sF67.f k a0) (sF67.f (k + 1) a0) := by
 intro a0 k
 have ih0 := sF67.mono_l k
 unfold sF67.f
 repeat' with_reducible first | exact ih0 _ _ _ | exact sF55.mono _ _ | exact sF63.mono _ _ | exact sF68.mono _ _ _ | exact sF69.mono _ _ | exact sF70.mono _ _ _ | exact l3_ _ | exact l0_ _ | refine l2_ ?_ ?_ | refine l1_ ?_ (fun _ => ?_)
theorem sF67.calls (k : Nat) (A0_0 : Option Addr) (c0_0 : Nat) (l0_0 : List (S60)) (r1 : List (S76)) (r2 : Bool) (w : World) (hr0_0 : Kd.C k60 w A0_0 l0_0.length l0_0) (hc0_0 : l0_0.length ≤ c0_0) (h : sF67.f k l0_0 = some (r1, r2)) :
  Calls Tryz.prog 27 #[.agg #[.slice A0_0 l0_0.length c0_0]] w fun e w' => ∃ v0_ : Value, e = .returned (.tuple #[.agg #[v0_], .bool r2]) ∧ Kd.R k76 76 w' w.heap.size (fun _ => True) v0_ r1 ∧ Below w.heap.size w w' := by
 have hu30 := Tryz.underlying30
 have hu36 := Tryz.underlying36
 have HR0_0 := aM_ hr0_0
 have HC0_0 := aM_ hc0_0
 clear hr0_0 hc0_0
 have HB := aM_ (Below.refl w.heap.size w)
 have H : ((sF51.f (l0_0.length : Int) 1 81).bind fun t250 => (if t250 = true then (sF67.l0 k (([] : List ByteArray)) 0 l0_0) else (some (([] : List (S76)), false)))) = some (r1, r2) := h
 clear h
 obtain ⟨y247, hy247⟩ : ∃ y_ : List ByteArray, y_ = (([] : List ByteArray)) := ⟨_, rfl⟩
 replace H : ((sF51.f (l0_0.length : Int) 1 81).bind fun t250 => (if t250 = true then (sF67.l0 k y247 0 l0_0) else (some (([] : List (S76)), false)))) = some (r1, r2) := by (try rw [hy247]); first | with_reducible exact H | with_reducible exact oS_ H | exact H
 have Ny247 := aM_ hy247
 clear hy247
 replace H := oB_.mp H
 obtain ⟨t250, A20, H⟩ := H
 try dsimp only at H
 have A2 := aM_ A20
 clear A20
 by_cases c3 : t250 = true
 rotate_left
 ·
  replace c3 := Bool.eq_false_iff.mpr c3
  subst c3
  replace H : (some (([] : List (S76)), false)) = some (r1, r2) := by rw [if_neg (show ¬ (false = true) by decide)] at H; exact H
  simp only [Option.some.injEq, Prod.mk.injEq] at H
  obtain ⟨rfl, rfl⟩ := H
  go_enter Tryz.func27, Tryz.ntmps27
  go_wp2_with (first | (refine bx_ 1 #[.slice A0_0 l0_0.length c0_0] 30 ?_; intro gb245 hg w68 hbox hb; have BK245 := aM_ (hbox); have GW245 := gw_ hg HB; replace HB := b4_ HB hb; clear hb hbox hg) | (refine bx_ 2 #[.slice none 0 0] 36 ?_; intro gb246 hg w69 hbox hb; have BK246 := aM_ (hbox); have GW246 := gw_ hg HB; replace HB := b4_ HB hb; have NB245_246 := nb_ hg BK245; have NB246_245 := ns_ NB245_246; replace BK245 := b5_ BK245 hb; clear hb hbox hg) | ((with_reducible refine gD_ (N := 9) rfl ?_); refine Kd.R_lit Kd.string _ 9 ?hg (N := 9) ?hd (xs := ([] : List ByteArray)) (inner := []) (ok := fun _ => True) (okp := fun _ => True) ?hr ?hp (fun _ hk => hk) trivial (Below.refl _ _) (Nat.le_refl _) (by simp) ?_; (case hd => rfl); (case hg => rfl); (case hr => (go_simp; done)); (case hp => exact (Reps.none _ _)); intro v248 w70 ho71 hb hg_ hnew_; clear hg_ hnew_; (rw [← Ny247.out] at ho71); have HO249 := aM_ (k5_ ho71 (bZ_ HB.out)); replace BK245 := b5_ BK245 hb; replace BK246 := b5_ BK246 hb; replace HB := b4_ HB hb; clear hb ho71; have hnb72 := NB245_246.out; have hnc72 := NB246_245.out; have hcz73_0 := c0_ BK245; have hfz73_0 := bF_ BK245.out 0) | (refine gs_ 13 Tryz.func54 #[.int .i64 (l0_0.length : Int), .int .i64 1, .int .i64 81] ?_; (with_reducible refine (sF51.calls (l0_0.length : Int) 1 81 false _ A2.out).mono ?_); rintro e w' ⟨rfl, ⟨nd, rfl⟩⟩; refine ⟨_, rfl, ?_⟩; (try (rw [drewN_self w70]; generalize hq_ : World.drewN w70 _ = w70; have n0_ : Aside0 (Kd.R Kd.string 9 w70 w.heap.size (fun _ => True) v248 y247) := ⟨by rw [← hq_]; exact (by (with_reducible repeat (first | apply k1_ | apply k2_ | apply k3_)); exact HO249.out)⟩; have n1_ : Aside0 (w70.heap[gb245]? = some (.cells #[.slice A0_0 l0_0.length c0_0] 30 (0, 0))) := ⟨by rw [← hq_]; exact (by (with_reducible repeat (first | refine b2_ ?_ _ | refine b1_ ?_ | refine b3_ ?_ _)); exact BK245.out)⟩; have n2_ : Aside0 (w70.heap[gb246]? = some (.cells #[.slice none 0 0] 36 (0, 0))) := ⟨by rw [← hq_]; exact (by (with_reducible repeat (first | refine b2_ ?_ _ | refine b1_ ?_ | refine b3_ ?_ _)); exact BK246.out)⟩; have n3_ : Aside0 (Below w.heap.size w w70) := ⟨by rw [← hq_]; exact (by repeat with_reducible first | exact HB.out | apply bA_ | apply bN_ | apply bD_ | refine bS_ ?_ (Aside0.out ‹_›))⟩; clear HO249 BK245 BK246 HB hq_; have HO249 := n0_; have BK245 := n1_; have BK246 := n2_; have HB := n3_; clear n0_ n1_ n2_ n3_)); have hcz74_0 := c0_ BK246; have hfz74_0 := bF_ BK246.out 0))
  refine bodyPost_ret (results_ct rfl _ _ gb246 36 #[.slice none 0 0] (0, 0) _ rfl (by refine bP_ (cs := #[.slice none 0 0]) ?_ 0 _ rfl; exact BK246.out) Tryz.underlying36 rfl (by kernel_rfl)) rfl ?_
  exact ⟨_, by rfl, by exact Kd.R_nil _ _ _ _ _, by repeat with_reducible first | exact HB.out | apply bA_ | apply bN_ | apply bD_ | refine bS_ ?_ (Aside0.out ‹_›)⟩
 subst c3
 rw [if_pos rfl] at H
 have H' := aM_ H
 clear H
 go_enter Tryz.func27, Tryz.ntmps27
 go_wp2_with (first | (refine bx_ 1 #[.slice A0_0 l0_0.length c0_0] 30 ?_; intro gb245 hg w4 hbox hb; have BK245 := aM_ (hbox); have GW245 := gw_ hg HB; replace HB := b4_ HB hb; clear hb hbox hg) | (refine bx_ 2 #[.slice none 0 0] 36 ?_; intro gb246 hg w5 hbox hb; have BK246 := aM_ (hbox); have GW246 := gw_ hg HB; replace HB := b4_ HB hb; have NB245_246 := nb_ hg BK245; have NB246_245 := ns_ NB245_246; replace BK245 := b5_ BK245 hb; clear hb hbox hg) | ((with_reducible refine gD_ (N := 9) rfl ?_); refine Kd.R_lit Kd.string _ 9 ?hg (N := 9) ?hd (xs := ([] : List ByteArray)) (inner := []) (ok := fun _ => True) (okp := fun _ => True) ?hr ?hp (fun _ hk => hk) trivial (Below.refl _ _) (Nat.le_refl _) (by simp) ?_; (case hd => rfl); (case hg => rfl); (case hr => (go_simp; done)); (case hp => exact (Reps.none _ _)); intro v248 w6 ho7 hb hg_ hnew_; clear hg_ hnew_; (rw [← Ny247.out] at ho7); have HO249 := aM_ (k5_ ho7 (bZ_ HB.out)); replace BK245 := b5_ BK245 hb; replace BK246 := b5_ BK246 hb; replace HB := b4_ HB hb; clear hb ho7; have hnb8 := NB245_246.out; have hnc8 := NB246_245.out; have hcz9_0 := c0_ BK245; have hfz9_0 := bF_ BK245.out 0) | (refine gs_ 13 Tryz.func54 #[.int .i64 (l0_0.length : Int), .int .i64 1, .int .i64 81] ?_; (with_reducible refine (sF51.calls (l0_0.length : Int) 1 81 true _ A2.out).mono ?_); rintro e w' ⟨rfl, ⟨nd, rfl⟩⟩; refine ⟨_, rfl, ?_⟩))
 go_loopg [4, 5] k (fun kq v4 v5 w' => ∃ (x4_1 : List ByteArray) (x5_1 : Int), v5 = .int .i64 x5_1 ∧ Aside0 (sF67.l0 kq x4_1 x5_1 l0_0 = some (r1, r2)) ∧ Aside0 (kq ≤ k) ∧ Aside0 (Kd.R Kd.string 9 w' w.heap.size (fun _ => True) v4 x4_1) ∧ Aside0 (w'.heap[gb245]? = some (.cells #[(.slice A0_0 l0_0.length c0_0)] 30 (0, 0))) ∧ Aside0 (w'.heap[gb246]? = some (.cells #[(.slice none 0 0)] 36 (0, 0))) ∧ Aside0 (Below w.heap.size w w'))
 case atStart => exact ⟨(y247), (0), (by rfl), H', ⟨Nat.le_refl _⟩, ⟨by (with_reducible repeat (first | apply k1_ | apply k2_ | apply k3_)); exact HO249.out⟩, ⟨by (with_reducible repeat (first | refine b2_ ?_ _ | refine b1_ ?_ | refine b3_ ?_ _)); exact BK245.out⟩, ⟨by (with_reducible repeat (first | refine b2_ ?_ _ | refine b1_ ?_ | refine b3_ ?_ _)); exact BK246.out⟩, ⟨by repeat with_reducible first | exact HB.out | apply bA_ | apply bN_ | apply bD_ | refine bS_ ?_ (Aside0.out ‹_›)⟩⟩
 clear H'
 try clear p2
 try clear hcz9_0
 try clear hfz9_0
 obtain ⟨x4_1, x5_1, rfl, HA, HK1, HO_4, BK245, BK246, HB⟩ := hrel
 cases gk with
 | zero => exact absurd HA.out (by simp [sF67.l0])
 | succ k1 =>
  have H := HA.out
  clear HA
  simp only [sF67.l0] at H
  by_cases c10 : x5_1 < (l0_0.length : Int)
  ·
   rw [if_pos c10] at H
   have c10b0 := dT_ c10
   clear c10
   by_cases c11 : 0 ≤ x5_1
   rotate_left
   ·
    rw [if_neg c11] at H
    exact absurd H (by simp)
   rw [if_pos c11] at H
   have c11b0 := dT_ c11
   clear c11
   obtain ⟨bq12, hbq12⟩ : ∃ b_ : Bool, b_ = ((rd_T60 l0_0 x5_1).f2) := ⟨_, rfl⟩
   replace H : (if bq12 = true then ((sF68.f k1 l0_0 x5_1).bind fun t252 => (if x4_1.length < 8796093022208 then (sF67.l0 k1 (x4_1 ++ [t252]) (wrap64 (x5_1 + 1)) l0_0) else (none))) else (sF67.l0 k1 x4_1 (wrap64 (x5_1 + 1)) l0_0)) = some (r1, r2) := by rw [← hbq12] at H; exact H
   have Nbq12 := aM_ hbq12
   clear hbq12
   by_cases c13 : bq12 = true
   rotate_left
   ·
    replace c13 := Bool.eq_false_iff.mpr c13
    subst c13
    replace H : (sF67.l0 k1 x4_1 (wrap64 (x5_1 + 1)) l0_0) = some (r1, r2) := by rw [if_neg (show ¬ (false = true) by decide)] at H; exact H
    have H' := aM_ H
    clear H
    have hnb20 := NB245_246.out
    have hnc20 := NB246_245.out
    have hcz21_0 := c0_ BK245
    have hfz21_0 := bF_ BK245.out 0
    have p251 : 0 ≤ (x5_1 : Int) := oD_ ‹_›
    have q251 : x5_1 < (l0_0.length : Int) := oD_ ‹_›
    obtain ⟨ad251, e251, hx251_0, hx251_1, hx251_2⟩ := at_T60 HR0_0.out x5_1 p251 q251
    (try rw [← Nbq12.out] at hx251_2)
    cases e251
    replace hx251_0 := cb_ HB hx251_0
    replace hx251_1 := cb_ HB hx251_1
    replace hx251_2 := cb_ HB hx251_2
    replace p251 := eq_true p251
    replace q251 := eq_true q251
    go_wp2
    go_roundg k1
    case measure => have := HK1.out; omega
    case rel => exact ⟨(x4_1), (wrap64 (x5_1 + 1)), (by rfl), H', ⟨by have := HK1.out; omega⟩, ⟨HO_4.out⟩, ⟨BK245.out⟩, ⟨BK246.out⟩, ⟨HB.out⟩⟩
   subst c13
   rw [if_pos rfl] at H
   replace H := oB_.mp H
   obtain ⟨t252, A140, H⟩ := H
   try dsimp only at H
   have A14 := aM_ A140
   clear A140
   by_cases c15 : x4_1.length < 8796093022208
   rotate_left
   ·
    rw [if_neg c15] at H
    exact absurd H (by simp)
   rw [if_pos c15] at H
   have LMc15 := aM_ c15
   clear c15
   obtain ⟨y253, hy253⟩ : ∃ y_ : List ByteArray, y_ = (x4_1 ++ [t252]) := ⟨_, rfl⟩
   replace H : (sF67.l0 k1 y253 (wrap64 (x5_1 + 1)) l0_0) = some (r1, r2) := by (try rw [hy253]); first | with_reducible exact H | with_reducible exact oS_ H | exact H
   have Ny253 := aM_ hy253
   clear hy253
   have H' := aM_ H
   clear H
   have hnb16 := NB245_246.out
   have hnc16 := NB246_245.out
   have hcz17_0 := c0_ BK245
   have hfz17_0 := bF_ BK245.out 0
   have p251 : 0 ≤ (x5_1 : Int) := oD_ ‹_›
   have q251 : x5_1 < (l0_0.length : Int) := oD_ ‹_›
   obtain ⟨ad251, e251, hx251_0, hx251_1, hx251_2⟩ := at_T60 HR0_0.out x5_1 p251 q251
   (try rw [← Nbq12.out] at hx251_2)
   cases e251
   replace hx251_0 := cb_ HB hx251_0
   replace hx251_1 := cb_ HB hx251_1
   replace hx251_2 := cb_ HB hx251_2
   replace p251 := eq_true p251
   replace q251 := eq_true q251
   go_wp2_with (first | (refine gs_ 32 Tryz.func31 #[.agg #[.slice (some ad251) l0_0.length c0_0], .int .i64 x5_1] ?_; (with_reducible refine (sF68.calls k1 _ _ l0_0 x5_1 t252 _ ?side1 HC0_0.out A14.out).mono ?_); (case side1 => repeat (first | exact (k4_ HR0_0.out HB.out) | with_reducible first | apply cA_ | apply cN_ | apply cD_)); rintro e w18 ⟨rfl, hb⟩; refine ⟨_, rfl, ?_⟩; replace HO_4 := k9_ HO_4 hb; replace BK245 := b5_ BK245 hb; replace BK246 := b5_ BK246 hb; replace HB := b4_ HB hb; (try clear hb)) | ((with_reducible refine gate_builtin (b := .append) (xs := #[.tmp 29, .tmp 33]) rfl ?_); at_builtin; refine Kd.R_append Kd.string (w0 := w) w.heap.size rfl (.tmp 29) (.tmp 33) 49 9 (.string ⟨#[]⟩) 16 rfl Tryz.underlying49 info9 rfl (by decide) (by omega) u4 x4_1 t252 [.string t252] (fun _ => True) (fun _ => False) rfl rfl ?aP (fun _ hk => hk.elim) ?aF ?aO ?aB ?aS ?aL ?_; (case aP => exact rfl); (case aB => exact HB.out); (case aF => exact (fun _ _ => trivial)); (case aO => exact HO_4.out); (case aS => exact (bZ_ HB.out)); (case aL => have := LMc15.out; omega); intro v254 w19 ho hb hg hat; rw [← Ny253.out] at ho; have n0_ := aM_ (blk_grown (g := gb245) (o := .cells #[.slice (some ad251) l0_0.length c0_0] 30 (0, 0)) BK245.out hg (k6_ HO_4.out BK245.out (by decide))); have n1_ := aM_ (blk_grown (g := gb246) (o := .cells #[.slice none 0 0] 36 (0, 0)) BK246.out hg (k6_ HO_4.out BK246.out (by decide))); have n2_ := aM_ (hb); have n3_ := aM_ (ho); clear BK245; clear BK246; clear HB; clear HO_4; have BK245 := n0_; have BK246 := n1_; have HB := n2_; have HO255 := n3_; clear n0_ n1_ n2_ n3_; clear ho hb hg hat))
   go_roundg k1
   case measure => have := HK1.out; omega
   case rel => exact ⟨(y253), (wrap64 (x5_1 + 1)), (by rfl), H', ⟨by have := HK1.out; omega⟩, ⟨HO255.out⟩, ⟨BK245.out⟩, ⟨BK246.out⟩, ⟨HB.out⟩⟩
  rw [if_neg c10] at H
  have c10b0 := dF_ c10
  clear c10
  replace H := oB_.mp H
  obtain ⟨⟨t256, t257⟩, A220, H⟩ := H
  try dsimp only at H
  have A22 := aM_ A220
  clear A220
  by_cases c23 : t257 = true
  rotate_left
  ·
   replace c23 := Bool.eq_false_iff.mpr c23
   subst c23
   replace H : (some (([] : List (S76)), false)) = some (r1, r2) := by rw [if_neg (show ¬ (false = true) by decide)] at H; exact H
   simp only [Option.some.injEq, Prod.mk.injEq] at H
   obtain ⟨rfl, rfl⟩ := H
   have hnb63 := NB245_246.out
   have hnc63 := NB246_245.out
   have hcz64_0 := c0_ BK245
   have hfz64_0 := bF_ BK245.out 0
   obtain ⟨Ao65, co65, eo65⟩ := kS_ HO_4.out
   subst eo65
   go_wp2_with (first | (refine gs_ 37 Tryz.func55 #[.slice Ao65 x4_1.length co65] ?_; (with_reducible refine (sF63.calls k1 _ _ x4_1 t256 false _ ?side1 ?side2 A22.out).mono ?_); (case side1 => repeat (first | exact (kR_ HO_4.out).2.2 | with_reducible first | apply cA_ | apply cN_ | apply cD_)); (case side2 => exact (kR_ HO_4.out).2.1); rintro e w66 ⟨v258, rfl, ho0, hb⟩; refine ⟨_, rfl, ?_⟩; have HO259 := aM_ (k5_ (Kd.R_new' ho0 (Kd.R_lt HO_4.out)) (bZ_ HB.out)); replace HO_4 := aM_ (Kd.R_elder' HO_4.out (Kd.R_base ho0) hb); replace BK245 := b5_ BK245 hb; replace BK246 := b5_ BK246 hb; replace HB := b4_ HB hb; (try clear hb); (try clear ho0); have hcz67_0 := c0_ BK246; have hfz67_0 := bF_ BK246.out 0))
   refine bodyPost_ret (results_ct rfl _ _ gb246 36 #[.slice none 0 0] (0, 0) _ rfl (by refine bP_ (cs := #[.slice none 0 0]) ?_ 0 _ rfl; exact BK246.out) Tryz.underlying36 rfl (by kernel_rfl)) rfl ?_
   exact ⟨_, by rfl, by exact Kd.R_nil _ _ _ _ _, by repeat with_reducible first | exact HB.out | apply bA_ | apply bN_ | apply bD_ | refine bS_ ?_ (Aside0.out ‹_›)⟩
  subst c23
  rw [if_pos rfl] at H
  replace H := oB_.mp H
  obtain ⟨t260, A240, H⟩ := H
  try dsimp only at H
  have A24 := aM_ A240
  clear A240
  replace H := oB_.mp H
  obtain ⟨t264, A250, H⟩ := H
  try dsimp only at H
  have A25 := aM_ A250
  clear A250
  replace H := oB_.mp H
  obtain ⟨t267, A260, H⟩ := H
  try dsimp only at H
  have A26 := aM_ A260
  clear A260
  by_cases c27 : t267 = true
  ·
   subst c27
   rw [if_pos rfl] at H
   simp only [Option.some.injEq, Prod.mk.injEq] at H
   obtain ⟨rfl, rfl⟩ := H
   have hnb28 := NB245_246.out
   have hnc28 := NB246_245.out
   have hcz29_0 := c0_ BK245
   have hfz29_0 := bF_ BK245.out 0
   obtain ⟨Ao30, co30, eo30⟩ := kS_ HO_4.out
   subst eo30
   try go_wp2_with (first | (refine gs_ 37 Tryz.func55 #[.slice Ao30 x4_1.length co30] ?_; (with_reducible refine (sF63.calls k1 _ _ x4_1 t256 true _ ?side1 ?side2 A22.out).mono ?_); (case side1 => repeat (first | exact (kR_ HO_4.out).2.2 | with_reducible first | apply cA_ | apply cN_ | apply cD_)); (case side2 => exact (kR_ HO_4.out).2.1); rintro e w31 ⟨v258, rfl, ho0, hb⟩; refine ⟨_, rfl, ?_⟩; have HO259 := aM_ (k5_ (Kd.R_new' ho0 (Kd.R_lt HO_4.out)) (bZ_ HB.out)); replace HO_4 := aM_ (Kd.R_elder' HO_4.out (Kd.R_base ho0) hb); replace BK245 := b5_ BK245 hb; replace BK246 := b5_ BK246 hb; replace HB := b4_ HB hb; (try clear hb); (try clear ho0); obtain ⟨Ao32, co32, eo32⟩ := kS_ HO259.out; subst eo32) | (refine gs_ 44 Tryz.func56 #[.slice Ao32 t256.length co32] ?_; (with_reducible refine (sF55.calls k1 _ _ t256 t260 _ ?side1 ?side2 A24.out).mono ?_); (case side1 => repeat (first | exact (kR_ HO259.out).2.2 | with_reducible first | apply cA_ | apply cN_ | apply cD_)); (case side2 => exact (kR_ HO259.out).2.1); rintro e w33 ⟨v261, rfl, ho0, hb⟩; refine ⟨_, rfl, ?_⟩; replace HO_4 := k9_ HO_4 hb; replace HO259 := k9_ HO259 hb; have HO262 := aM_ (k5_ ho0 (bZ_ HB.out)); replace BK245 := b5_ BK245 hb; replace BK246 := b5_ BK246 hb; replace HB := b4_ HB hb; (try clear hb); (try clear ho0)) | (refine bx_ 8 #[.slice none 0 0] 36 ?_; intro gb263 hg w34 hbox hb; replace HO_4 := k9_ HO_4 hb; replace HO259 := k9_ HO259 hb; replace HO262 := k9_ HO262 hb; have BK263 := aM_ (hbox); have GW263 := gw_ hg HB; replace HB := b4_ HB hb; have NB245_263 := nb_ hg BK245; have NB263_245 := ns_ NB245_263; replace BK245 := b5_ BK245 hb; have NB246_263 := nb_ hg BK246; have NB263_246 := ns_ NB246_263; replace BK246 := b5_ BK246 hb; clear hb hbox hg; obtain ⟨Ao35, co35, eo35⟩ := kS_ HO262.out; subst eo35; have hnb36 := NB263_245.out; have hnc36 := NB245_263.out; have hnb37 := NB263_246.out; have hnc37 := NB246_263.out; have hcz38_0 := c0_ BK263; have hfz38_0 := bF_ BK263.out 0))
   generalize hW_ : (w34.setCell ⟨gb263, 0, none⟩ (.slice Ao35 t260.length co35)) = w39
   have n0_ : Aside0 (Kd.R Kd.string 9 w39 w.heap.size (fun k_ => some k_ ≠ (.slice Ao32 t256.length co32 : Value).ownBlock) (.slice Ao30 x4_1.length co30) x4_1) := ⟨by subst hW_; exact kM_ (kG_ (kT_ HO_4.out BK263.out (by decide))) (fun _ hk => hk.1.2)⟩
   have n1_ : Aside0 (Kd.R Kd.string 9 w39 w.heap.size (fun k_ => some k_ ≠ (.slice Ao30 x4_1.length co30 : Value).ownBlock) (.slice Ao32 t256.length co32) t256) := ⟨by subst hW_; exact kM_ (kG_ (kT_ HO259.out BK263.out (by decide))) (fun _ hk => hk.1.2)⟩
   have n2_ : Aside0 (Kd.R k76 76 w39 w.heap.size (fun _ => True) (.slice Ao35 t260.length co35) t260) := ⟨by subst hW_; exact kM_ (kG_ (kT_ HO262.out BK263.out (by decide))) (fun _ hk => trivial)⟩
   have n3_ : Aside0 (w39.heap[gb245]? = some (.cells #[.slice A0_0 l0_0.length c0_0] 30 (0, 0))) := ⟨by subst hW_; exact br_ NB245_263.out (BK245.out)⟩
   have n4_ : Aside0 (w39.heap[gb246]? = some (.cells #[.slice none 0 0] 36 (0, 0))) := ⟨by subst hW_; exact br_ NB246_263.out (BK246.out)⟩
   have n5_ : Aside0 (w39.heap[gb263]? = some (.cells #[.slice Ao35 t260.length co35] 36 (0, 0))) := ⟨by subst hW_; refine bP_ (cs := #[.slice none 0 0]) ?_ 0 _ rfl; exact BK263.out⟩
   have n6_ : Aside0 (Below w.heap.size w w39) := ⟨by subst hW_; repeat with_reducible first | exact HB.out | apply bA_ | apply bN_ | apply bD_ | refine bS_ ?_ (Aside0.out ‹_›)⟩
   (try clear HO_4)
   (try clear HO259)
   (try clear HO262)
   (try clear BK245)
   (try clear BK246)
   (try clear BK263)
   (try clear HB)
   clear hW_
   have HO_4 := n0_
   have HO259 := n1_
   have HO262 := n2_
   have BK245 := n3_
   have BK246 := n4_
   have BK263 := n5_
   have HB := n6_
   clear n0_ n1_ n2_ n3_ n4_ n5_ n6_
   have n0_ := aM_ (k3_ HO_4.out)
   have n1_ := aM_ (k3_ HO259.out)
   have n2_ := aM_ (k3_ HO262.out)
   have n3_ := aM_ (b1_ BK245.out)
   have n4_ := aM_ (b1_ BK246.out)
   have n5_ := aM_ (b1_ BK263.out)
   have n6_ := aM_ (bD_ HB.out)
   clear HO_4
   clear HO259
   clear HO262
   clear BK245
   clear BK246
   clear BK263
   clear HB
   have HO_4 := n0_
   have HO259 := n1_
   have HO262 := n2_
   have BK245 := n3_
   have BK246 := n4_
   have BK263 := n5_
   have HB := n6_
   clear n0_ n1_ n2_ n3_ n4_ n5_ n6_
   refine start_ (n := 5) (S := fun w' => w'.cell? ⟨gb263, 0, none⟩ = some (.slice Ao35 t260.length co35) ∧ w'.cell? ⟨gb245, 0, none⟩ = some (.slice A0_0 l0_0.length c0_0)) (ds := []) #[fy, fy, fy, fy, fy] (by kernel_rfl) rfl rfl ⟨(bC_ BK263.out 0).trans rfl, (bC_ BK245.out 0).trans rfl⟩ (fun hHeld => ?_)
   generalize w39.drew = w40 at HO_4 HO259 HO262 BK245 BK246 BK263 HB hHeld ⊢
   refine take_ (i := 0) (N := some 45) (v := ?_) (a' := ?_) #[ty, fy, fy, fy, fy] rfl rfl (by kernel_rfl) (fun _ _ _ h => h) (Or.inl ⟨by rfl, ?_⟩) hHeld ?_ ?_; rotate_left; (rintro w' ⟨s0, s1⟩; go_simp; with_reducible rfl); rotate_left; (simp only [Act.put, sA_, sB_, sC_, i6_, i3_]; rfl)
   refine take_ (i := 2) (N := some 47) (v := ?_) (a' := ?_) #[ty, fy, ty, fy, fy] rfl rfl (by kernel_rfl) (fun _ _ _ h => h) (Or.inl ⟨by rfl, ?_⟩) hHeld ?_ ?_; rotate_left; (rintro w' ⟨s0, s1⟩; go_simp; with_reducible rfl); rotate_left; (simp only [Act.put, sA_, sB_, sC_, i6_, i3_]; rfl)
   refine one_ (i := 1) (N := some 46) #[ty, ty, ty, fy, fy] rfl rfl (by kernel_rfl) (by decide) (fun K hK => ?_)
   refine goes_ Tryz.func47 (by kernel_rfl) rfl #[.agg #[.slice Ao35 t260.length co35]] (by rfl) rfl rfl (by (try simp only [sD_, sE_, sF_]); rfl) ?_
   with_reducible refine (sF69.calls k1 _ _ t260 t264 _ ?side1 ?side2 A25.out).mono ?_
   (case side1 => repeat (first | exact (kR_ HO262.out).2.2 | with_reducible first | apply cA_ | apply cN_ | apply cD_))
   (case side2 => exact (kR_ HO262.out).2.1)
   rintro e w41 ⟨v265, rfl, ho0, hb⟩
   refine ⟨_, rfl, ?_⟩
   have n0_ := k9_ HO_4 hb
   have n1_ := k9_ HO259 hb
   have n2_ := k9_ HO262 hb
   have n3_ := aM_ (k5_ ho0 (bZ_ HB.out))
   have n4_ := b5_ BK245 hb
   have n5_ := b5_ BK246 hb
   have n6_ := b5_ BK263 hb
   have n7_ := b4_ HB hb
   clear HO_4
   clear HO259
   clear HO262
   clear BK245
   clear BK246
   clear BK263
   clear HB
   have HO_4 := n0_
   have HO259 := n1_
   have HO262 := n2_
   have HO266 := n3_
   have BK245 := n4_
   have BK246 := n5_
   have BK263 := n6_
   have HB := n7_
   clear n0_ n1_ n2_ n3_ n4_ n5_ n6_ n7_
   (try clear hb)
   (try clear ho0)
   obtain ⟨Ao42, co42, eo42⟩ := kS_ HO266.out
   (subst eo42)
   refine hK.out _ _ ⟨(bC_ BK263.out 0).trans rfl, (bC_ BK245.out 0).trans rfl⟩ (fun hHeld => ?_)
   clear hK K
   refine norm_ (by show Act.put _ (some 46) _ = _; simp only [Act.put, sA_, sB_, sC_, i6_, i3_]; rfl) ?_
   refine one_ (i := 3) (N := some 48) #[ty, ty, ty, ty, fy] rfl rfl (by kernel_rfl) (by decide) (fun K hK => ?_)
   refine goes_ Tryz.func57 (by kernel_rfl) rfl #[.agg #[.slice Ao42 t264.length co42], .agg #[.slice A0_0 l0_0.length c0_0]] (by rfl) rfl rfl (by (try simp only [sD_, sE_, sF_]); rfl) ?_
   with_reducible refine (sF70.calls k1 _ _ t264 _ _ l0_0 true _ ?side1 ?side2 ?side3 ?side4 A26.out).mono ?_
   (case side1 => repeat (first | exact (kR_ HO266.out).2.2 | with_reducible first | apply cA_ | apply cN_ | apply cD_))
   (case side2 => exact (kR_ HO266.out).2.1)
   (case side3 => repeat (first | exact (k4_ HR0_0.out HB.out) | with_reducible first | apply cA_ | apply cN_ | apply cD_))
   (case side4 => exact HC0_0.out)
   rintro e w43 ⟨rfl, hb⟩
   refine ⟨_, rfl, ?_⟩
   have n0_ := k9_ HO_4 hb
   have n1_ := k9_ HO259 hb
   have n2_ := k9_ HO262 hb
   have n3_ := k9_ HO266 hb
   have n4_ := b5_ BK245 hb
   have n5_ := b5_ BK246 hb
   have n6_ := b5_ BK263 hb
   have n7_ := b4_ HB hb
   clear HO_4
   clear HO259
   clear HO262
   clear HO266
   clear BK245
   clear BK246
   clear BK263
   clear HB
   have HO_4 := n0_
   have HO259 := n1_
   have HO262 := n2_
   have HO266 := n3_
   have BK245 := n4_
   have BK246 := n5_
   have BK263 := n6_
   have HB := n7_
   clear n0_ n1_ n2_ n3_ n4_ n5_ n6_ n7_
   (try clear hb)
   refine hK.out _ _ ⟨(bC_ BK263.out 0).trans rfl, (bC_ BK245.out 0).trans rfl⟩ (fun hHeld => ?_)
   clear hK K
   refine norm_ (by show Act.put _ (some 48) _ = _; simp only [Act.put, sA_, sB_, sC_, i6_, i3_]; rfl) ?_
   refine pure_ (i := 4) (N := some 49) (v := ?_) (a' := ?_) #[ty, ty, ty, ty, ty] rfl rfl (by kernel_rfl) (fun _ _ _ h => h) (Or.inl ⟨by rfl, ?_⟩) ?_ ?_; rotate_left; (intro w'; go_simp; with_reducible rfl); rotate_left; (simp only [Act.put, sA_, sB_, sC_, i6_, i3_]; rfl)
   refine done_ (by kernel_rfl) ?_
   have hcz44_0 := c0_ BK263
   have hfz44_0 := bF_ BK263.out 0
   have hcz45_0 := c0_ BK246
   have hfz45_0 := bF_ BK246.out 0
   try go_wp2
   refine bodyPost_ret (results_ct rfl _ _ gb246 36 #[.slice Ao35 t260.length co35] (0, 0) _ rfl (by refine bP_ (cs := #[.slice none 0 0]) ?_ 0 _ rfl; exact BK246.out) Tryz.underlying36 rfl (by kernel_rfl)) rfl ?_
   exact ⟨_, by rfl, by exact kM_ (kG_ (kT_ HO262.out BK246.out (by decide))) (fun _ hk => trivial), by repeat with_reducible first | exact HB.out | apply bA_ | apply bN_ | apply bD_ | refine bS_ ?_ (Aside0.out ‹_›)⟩
  replace c27 := Bool.eq_false_iff.mpr c27
  subst c27
  replace H : (some (([] : List (S76)), false)) = some (r1, r2) := by rw [if_neg (show ¬ (false = true) by decide)] at H; exact H
  simp only [Option.some.injEq, Prod.mk.injEq] at H
  obtain ⟨rfl, rfl⟩ := H
  have hnb46 := NB245_246.out
  have hnc46 := NB246_245.out
  have hcz47_0 := c0_ BK245
  have hfz47_0 := bF_ BK245.out 0
  obtain ⟨Ao48, co48, eo48⟩ := kS_ HO_4.out
  subst eo48
  try go_wp2_with (first | (refine gs_ 37 Tryz.func55 #[.slice Ao48 x4_1.length co48] ?_; (with_reducible refine (sF63.calls k1 _ _ x4_1 t256 true _ ?side1 ?side2 A22.out).mono ?_); (case side1 => repeat (first | exact (kR_ HO_4.out).2.2 | with_reducible first | apply cA_ | apply cN_ | apply cD_)); (case side2 => exact (kR_ HO_4.out).2.1); rintro e w49 ⟨v258, rfl, ho0, hb⟩; refine ⟨_, rfl, ?_⟩; have HO259 := aM_ (k5_ (Kd.R_new' ho0 (Kd.R_lt HO_4.out)) (bZ_ HB.out)); replace HO_4 := aM_ (Kd.R_elder' HO_4.out (Kd.R_base ho0) hb); replace BK245 := b5_ BK245 hb; replace BK246 := b5_ BK246 hb; replace HB := b4_ HB hb; (try clear hb); (try clear ho0); obtain ⟨Ao50, co50, eo50⟩ := kS_ HO259.out; subst eo50) | (refine gs_ 44 Tryz.func56 #[.slice Ao50 t256.length co50] ?_; (with_reducible refine (sF55.calls k1 _ _ t256 t260 _ ?side1 ?side2 A24.out).mono ?_); (case side1 => repeat (first | exact (kR_ HO259.out).2.2 | with_reducible first | apply cA_ | apply cN_ | apply cD_)); (case side2 => exact (kR_ HO259.out).2.1); rintro e w51 ⟨v261, rfl, ho0, hb⟩; refine ⟨_, rfl, ?_⟩; replace HO_4 := k9_ HO_4 hb; replace HO259 := k9_ HO259 hb; have HO262 := aM_ (k5_ ho0 (bZ_ HB.out)); replace BK245 := b5_ BK245 hb; replace BK246 := b5_ BK246 hb; replace HB := b4_ HB hb; (try clear hb); (try clear ho0)) | (refine bx_ 8 #[.slice none 0 0] 36 ?_; intro gb263 hg w52 hbox hb; replace HO_4 := k9_ HO_4 hb; replace HO259 := k9_ HO259 hb; replace HO262 := k9_ HO262 hb; have BK263 := aM_ (hbox); have GW263 := gw_ hg HB; replace HB := b4_ HB hb; have NB245_263 := nb_ hg BK245; have NB263_245 := ns_ NB245_263; replace BK245 := b5_ BK245 hb; have NB246_263 := nb_ hg BK246; have NB263_246 := ns_ NB246_263; replace BK246 := b5_ BK246 hb; clear hb hbox hg; obtain ⟨Ao53, co53, eo53⟩ := kS_ HO262.out; subst eo53; have hnb54 := NB263_245.out; have hnc54 := NB245_263.out; have hnb55 := NB263_246.out; have hnc55 := NB246_263.out; have hcz56_0 := c0_ BK263; have hfz56_0 := bF_ BK263.out 0))
  generalize hW_ : (w52.setCell ⟨gb263, 0, none⟩ (.slice Ao53 t260.length co53)) = w57
  have n0_ : Aside0 (Kd.R Kd.string 9 w57 w.heap.size (fun k_ => some k_ ≠ (.slice Ao50 t256.length co50 : Value).ownBlock) (.slice Ao48 x4_1.length co48) x4_1) := ⟨by subst hW_; exact kM_ (kG_ (kT_ HO_4.out BK263.out (by decide))) (fun _ hk => hk.1.2)⟩
  have n1_ : Aside0 (Kd.R Kd.string 9 w57 w.heap.size (fun k_ => some k_ ≠ (.slice Ao48 x4_1.length co48 : Value).ownBlock) (.slice Ao50 t256.length co50) t256) := ⟨by subst hW_; exact kM_ (kG_ (kT_ HO259.out BK263.out (by decide))) (fun _ hk => hk.1.2)⟩
  have n2_ : Aside0 (Kd.R k76 76 w57 w.heap.size (fun _ => True) (.slice Ao53 t260.length co53) t260) := ⟨by subst hW_; exact kM_ (kG_ (kT_ HO262.out BK263.out (by decide))) (fun _ hk => trivial)⟩
  have n3_ : Aside0 (w57.heap[gb245]? = some (.cells #[.slice A0_0 l0_0.length c0_0] 30 (0, 0))) := ⟨by subst hW_; exact br_ NB245_263.out (BK245.out)⟩
  have n4_ : Aside0 (w57.heap[gb246]? = some (.cells #[.slice none 0 0] 36 (0, 0))) := ⟨by subst hW_; exact br_ NB246_263.out (BK246.out)⟩
  have n5_ : Aside0 (w57.heap[gb263]? = some (.cells #[.slice Ao53 t260.length co53] 36 (0, 0))) := ⟨by subst hW_; refine bP_ (cs := #[.slice none 0 0]) ?_ 0 _ rfl; exact BK263.out⟩
  have n6_ : Aside0 (Below w.heap.size w w57) := ⟨by subst hW_; repeat with_reducible first | exact HB.out | apply bA_ | apply bN_ | apply bD_ | refine bS_ ?_ (Aside0.out ‹_›)⟩
  (try clear HO_4)
  (try clear HO259)
  (try clear HO262)
  (try clear BK245)
  (try clear BK246)
  (try clear BK263)
  (try clear HB)
  clear hW_
  have HO_4 := n0_
  have HO259 := n1_
  have HO262 := n2_
  have BK245 := n3_
  have BK246 := n4_
  have BK263 := n5_
  have HB := n6_
  clear n0_ n1_ n2_ n3_ n4_ n5_ n6_
  have n0_ := aM_ (k3_ HO_4.out)
  have n1_ := aM_ (k3_ HO259.out)
  have n2_ := aM_ (k3_ HO262.out)
  have n3_ := aM_ (b1_ BK245.out)
  have n4_ := aM_ (b1_ BK246.out)
  have n5_ := aM_ (b1_ BK263.out)
  have n6_ := aM_ (bD_ HB.out)
  clear HO_4
  clear HO259
  clear HO262
  clear BK245
  clear BK246
  clear BK263
  clear HB
  have HO_4 := n0_
  have HO259 := n1_
  have HO262 := n2_
  have BK245 := n3_
  have BK246 := n4_
  have BK263 := n5_
  have HB := n6_
  clear n0_ n1_ n2_ n3_ n4_ n5_ n6_
  refine start_ (n := 5) (S := fun w' => w'.cell? ⟨gb263, 0, none⟩ = some (.slice Ao53 t260.length co53) ∧ w'.cell? ⟨gb245, 0, none⟩ = some (.slice A0_0 l0_0.length c0_0)) (ds := []) #[fy, fy, fy, fy, fy] (by kernel_rfl) rfl rfl ⟨(bC_ BK263.out 0).trans rfl, (bC_ BK245.out 0).trans rfl⟩ (fun hHeld => ?_)
  generalize w57.drew = w58 at HO_4 HO259 HO262 BK245 BK246 BK263 HB hHeld ⊢
  refine take_ (i := 0) (N := some 45) (v := ?_) (a' := ?_) #[ty, fy, fy, fy, fy] rfl rfl (by kernel_rfl) (fun _ _ _ h => h) (Or.inl ⟨by rfl, ?_⟩) hHeld ?_ ?_; rotate_left; (rintro w' ⟨s0, s1⟩; go_simp; with_reducible rfl); rotate_left; (simp only [Act.put, sA_, sB_, sC_, i6_, i3_]; rfl)
  refine take_ (i := 2) (N := some 47) (v := ?_) (a' := ?_) #[ty, fy, ty, fy, fy] rfl rfl (by kernel_rfl) (fun _ _ _ h => h) (Or.inl ⟨by rfl, ?_⟩) hHeld ?_ ?_; rotate_left; (rintro w' ⟨s0, s1⟩; go_simp; with_reducible rfl); rotate_left; (simp only [Act.put, sA_, sB_, sC_, i6_, i3_]; rfl)
  refine one_ (i := 1) (N := some 46) #[ty, ty, ty, fy, fy] rfl rfl (by kernel_rfl) (by decide) (fun K hK => ?_)
  refine goes_ Tryz.func47 (by kernel_rfl) rfl #[.agg #[.slice Ao53 t260.length co53]] (by rfl) rfl rfl (by (try simp only [sD_, sE_, sF_]); rfl) ?_
  with_reducible refine (sF69.calls k1 _ _ t260 t264 _ ?side1 ?side2 A25.out).mono ?_
  (case side1 => repeat (first | exact (kR_ HO262.out).2.2 | with_reducible first | apply cA_ | apply cN_ | apply cD_))
  (case side2 => exact (kR_ HO262.out).2.1)
  rintro e w59 ⟨v265, rfl, ho0, hb⟩
  refine ⟨_, rfl, ?_⟩
  have n0_ := k9_ HO_4 hb
  have n1_ := k9_ HO259 hb
  have n2_ := k9_ HO262 hb
  have n3_ := aM_ (k5_ ho0 (bZ_ HB.out))
  have n4_ := b5_ BK245 hb
  have n5_ := b5_ BK246 hb
  have n6_ := b5_ BK263 hb
  have n7_ := b4_ HB hb
  clear HO_4
  clear HO259
  clear HO262
  clear BK245
  clear BK246
  clear BK263
  clear HB
  have HO_4 := n0_
  have HO259 := n1_
  have HO262 := n2_
  have HO266 := n3_
  have BK245 := n4_
  have BK246 := n5_
  have BK263 := n6_
  have HB := n7_
  clear n0_ n1_ n2_ n3_ n4_ n5_ n6_ n7_
  (try clear hb)
  (try clear ho0)
  obtain ⟨Ao60, co60, eo60⟩ := kS_ HO266.out
  (subst eo60)
  refine hK.out _ _ ⟨(bC_ BK263.out 0).trans rfl, (bC_ BK245.out 0).trans rfl⟩ (fun hHeld => ?_)
  clear hK K
  refine norm_ (by show Act.put _ (some 46) _ = _; simp only [Act.put, sA_, sB_, sC_, i6_, i3_]; rfl) ?_
  refine one_ (i := 3) (N := some 48) #[ty, ty, ty, ty, fy] rfl rfl (by kernel_rfl) (by decide) (fun K hK => ?_)
  refine goes_ Tryz.func57 (by kernel_rfl) rfl #[.agg #[.slice Ao60 t264.length co60], .agg #[.slice A0_0 l0_0.length c0_0]] (by rfl) rfl rfl (by (try simp only [sD_, sE_, sF_]); rfl) ?_
  with_reducible refine (sF70.calls k1 _ _ t264 _ _ l0_0 false _ ?side1 ?side2 ?side3 ?side4 A26.out).mono ?_
  (case side1 => repeat (first | exact (kR_ HO266.out).2.2 | with_reducible first | apply cA_ | apply cN_ | apply cD_))
  (case side2 => exact (kR_ HO266.out).2.1)
  (case side3 => repeat (first | exact (k4_ HR0_0.out HB.out) | with_reducible first | apply cA_ | apply cN_ | apply cD_))
  (case side4 => exact HC0_0.out)
  rintro e w61 ⟨rfl, hb⟩
  refine ⟨_, rfl, ?_⟩
  have n0_ := k9_ HO_4 hb
  have n1_ := k9_ HO259 hb
  have n2_ := k9_ HO262 hb
  have n3_ := k9_ HO266 hb
  have n4_ := b5_ BK245 hb
  have n5_ := b5_ BK246 hb
  have n6_ := b5_ BK263 hb
  have n7_ := b4_ HB hb
  clear HO_4
  clear HO259
  clear HO262
  clear HO266
  clear BK245
  clear BK246
  clear BK263
  clear HB
  have HO_4 := n0_
  have HO259 := n1_
  have HO262 := n2_
  have HO266 := n3_
  have BK245 := n4_
  have BK246 := n5_
  have BK263 := n6_
  have HB := n7_
  clear n0_ n1_ n2_ n3_ n4_ n5_ n6_ n7_
  (try clear hb)
  refine hK.out _ _ ⟨(bC_ BK263.out 0).trans rfl, (bC_ BK245.out 0).trans rfl⟩ (fun hHeld => ?_)
  clear hK K
  refine norm_ (by show Act.put _ (some 48) _ = _; simp only [Act.put, sA_, sB_, sC_, i6_, i3_]; rfl) ?_
  refine pure_ (i := 4) (N := some 49) (v := ?_) (a' := ?_) #[ty, ty, ty, ty, ty] rfl rfl (by kernel_rfl) (fun _ _ _ h => h) (Or.inl ⟨by rfl, ?_⟩) ?_ ?_; rotate_left; (intro w'; go_simp; with_reducible rfl); rotate_left; (simp only [Act.put, sA_, sB_, sC_, i6_, i3_]; rfl)
  refine done_ (by kernel_rfl) ?_
  have hcz62_0 := c0_ BK246
  have hfz62_0 := bF_ BK246.out 0
  try go_wp2
  refine bodyPost_ret (results_ct rfl _ _ gb246 36 #[.slice none 0 0] (0, 0) _ rfl (by refine bP_ (cs := #[.slice none 0 0]) ?_ 0 _ rfl; exact BK246.out) Tryz.underlying36 rfl (by kernel_rfl)) rfl ?_
  exact ⟨_, by rfl, by exact Kd.R_nil _ _ _ _ _, by repeat with_reducible first | exact HB.out | apply bA_ | apply bN_ | apply bD_ | refine bS_ ?_ (Aside0.out ‹_›)⟩
def sF64.f (k : Nat) (l0_0 : List (S76)) : Option (Bool) := (sF51.f (l0_0.length : Int) 1 481).bind fun t648 => (if t648 = true then ((sF66.f k l0_0).bind fun t649 => ((sF63.f k t649).bind fun bt652 => (if bt652.2 = true then ((sF55.f k bt652.1).bind fun t656 => ((sF62.f k t656 l0_0).bind fun t659 => (some t659))) else (some false)))) else (some false))
theorem sF64.mono : ∀ a0 k, LeO (sF64.f k a0) (sF64.f (k + 1) a0) := by
 intro a0 k
 unfold sF64.f
 repeat' with_reducible first | exact sF55.mono _ _ | exact sF62.mono _ _ _ | exact sF63.mono _ _ | exact sF66.mono _ _ | exact l3_ _ | exact l0_ _ | refine l2_ ?_ ?_ | refine l1_ ?_ (fun _ => ?_)
def sF64.T4 : Bool × List (List Nat × List Nat) := (true, [([], []), ([0], [0]), ([1], [1]), ([2, 1, 1], [1, 2]), ([1], [1]), ([3, 4, 3, 1], [1, 3, 4]), ([1, 5], [1, 5]), ([6, 5, 0, 1, 2, 3, 4, 5, 6], [6])])
def sF64.B4 : List Nat := [0, 1, 3, 7, 3, 31, 63, 127]
theorem sF64.tab4 : rtab .any (opsOf Tryz.f72 4) = sF64.T4 := by kernel_rfl
theorem sF64.bits4 : waitsOk sF64.T4.2 sF64.B4 = true := by kernel_rfl
theorem sF64.calls (k : Nat) (A0_0 : Option Addr) (c0_0 : Nat) (l0_0 : List (S76)) (r : Bool) (w : World) (hr0_0 : Kd.C k76 w A0_0 l0_0.length l0_0) (hc0_0 : l0_0.length ≤ c0_0) (h : sF64.f k l0_0 = some r) :
  Calls Tryz.prog 72 #[.agg #[.slice A0_0 l0_0.length c0_0]] w fun e w' => e = .returned (.bool r) ∧ Below w.heap.size w w' := by
 have hu36 := Tryz.underlying36
 have HR0_0 := aM_ hr0_0
 have HC0_0 := aM_ hc0_0
 clear hr0_0 hc0_0
 have HB := aM_ (Below.refl w.heap.size w)
 have H : ((sF51.f (l0_0.length : Int) 1 481).bind fun t648 => (if t648 = true then ((sF66.f k l0_0).bind fun t649 => ((sF63.f k t649).bind fun bt652 => (if bt652.2 = true then ((sF55.f k bt652.1).bind fun t656 => ((sF62.f k t656 l0_0).bind fun t659 => (some t659))) else (some false)))) else (some false))) = some r := h
 clear h
 replace H := oB_.mp H
 obtain ⟨t648, A20, H⟩ := H
 try dsimp only at H
 have A2 := aM_ A20
 clear A20
 by_cases c3 : t648 = true
 rotate_left
 ·
  replace c3 := Bool.eq_false_iff.mpr c3
  subst c3
  replace H : (some false) = some r := by rw [if_neg (show ¬ (false = true) by decide)] at H; exact H
  obtain rfl := Option.some.inj H
  go_enter Tryz.func72, Tryz.ntmps72
  go_wp2_with (first | (refine bx_ 1 #[.slice A0_0 l0_0.length c0_0] 36 ?_; intro gb647 hg w25 hbox hb; have BK647 := aM_ (hbox); have GW647 := gw_ hg HB; replace HB := b4_ HB hb; clear hb hbox hg; have hcz26_0 := c0_ BK647; have hfz26_0 := bF_ BK647.out 0) | (refine gs_ 8 Tryz.func54 #[.int .i64 (l0_0.length : Int), .int .i64 1, .int .i64 481] ?_; (with_reducible refine (sF51.calls (l0_0.length : Int) 1 481 false _ A2.out).mono ?_); rintro e w' ⟨rfl, ⟨nd, rfl⟩⟩; refine ⟨_, rfl, ?_⟩))
  go_ret
  exact ⟨by rfl, by repeat with_reducible first | exact HB.out | apply bA_ | apply bN_ | apply bD_ | refine bS_ ?_ GW647.out⟩
 subst c3
 rw [if_pos rfl] at H
 replace H := oB_.mp H
 obtain ⟨t649, A40, H⟩ := H
 try dsimp only at H
 have A4 := aM_ A40
 clear A40
 replace H := oB_.mp H
 obtain ⟨⟨t652, t653⟩, A50, H⟩ := H
 try dsimp only at H
 have A5 := aM_ A50
 clear A50
 by_cases c6 : t653 = true
 rotate_left
 ·
  replace c6 := Bool.eq_false_iff.mpr c6
  subst c6
  replace H : (some false) = some r := by rw [if_neg (show ¬ (false = true) by decide)] at H; exact H
  obtain rfl := Option.some.inj H
  go_enter Tryz.func72, Tryz.ntmps72
  try go_wp2_with (first | (refine bx_ 1 #[.slice A0_0 l0_0.length c0_0] 36 ?_; intro gb647 hg w19 hbox hb; have BK647 := aM_ (hbox); have GW647 := gw_ hg HB; replace HB := b4_ HB hb; clear hb hbox hg; have hcz20_0 := c0_ BK647; have hfz20_0 := bF_ BK647.out 0) | (refine gs_ 8 Tryz.func54 #[.int .i64 (l0_0.length : Int), .int .i64 1, .int .i64 481] ?_; (with_reducible refine (sF51.calls (l0_0.length : Int) 1 481 true _ A2.out).mono ?_); rintro e w' ⟨rfl, ⟨nd, rfl⟩⟩; refine ⟨_, rfl, ?_⟩) | (refine gs_ 12 Tryz.func29 #[.agg #[.slice A0_0 l0_0.length c0_0]] ?_; (with_reducible refine (sF66.calls k _ _ l0_0 t649 _ ?side1 HC0_0.out A4.out).mono ?_); (case side1 => repeat (first | exact (k4_ HR0_0.out (by repeat with_reducible first | exact HB.out | apply bA_ | apply bN_ | apply bD_ | refine bS_ ?_ GW647.out)) | with_reducible first | apply cA_ | apply cN_ | apply cD_)); rintro e w21 ⟨v650, rfl, ho0, hb⟩; refine ⟨_, rfl, ?_⟩; have HO651 := aM_ (k5_ ho0 (bZ_ (by repeat with_reducible first | exact HB.out | apply bA_ | apply bN_ | apply bD_ | refine bS_ ?_ GW647.out))); replace BK647 := aM_ (bB_ (g := gb647) (o := .cells #[.slice A0_0 l0_0.length c0_0] 36 (0, 0)) (by (with_reducible repeat (first | refine b2_ ?_ _ | refine b1_ ?_ | refine b3_ ?_ _)); exact BK647.out) hb); replace HB := aM_ (bT_ (by repeat with_reducible first | exact HB.out | apply bA_ | apply bN_ | apply bD_ | refine bS_ ?_ GW647.out) hb); (try clear hb); (try clear ho0); obtain ⟨Ao22, co22, eo22⟩ := kS_ HO651.out; subst eo22) | (refine gs_ 13 Tryz.func55 #[.slice Ao22 t649.length co22] ?_; (with_reducible refine (sF63.calls k _ _ t649 t652 false _ ?side1 ?side2 A5.out).mono ?_); (case side1 => repeat (first | exact (kR_ HO651.out).2.2 | with_reducible first | apply cA_ | apply cN_ | apply cD_)); (case side2 => exact (kR_ HO651.out).2.1); rintro e w23 ⟨v654, rfl, ho0, hb⟩; refine ⟨_, rfl, ?_⟩; have HO655 := aM_ (k5_ (Kd.R_new' ho0 (Kd.R_lt HO651.out)) (bZ_ HB.out)); replace HO651 := aM_ (Kd.R_elder' HO651.out (Kd.R_base ho0) hb); replace BK647 := b5_ BK647 hb; replace HB := b4_ HB hb; (try clear hb); (try clear ho0)))
  have n0_ := aM_ (k3_ HO651.out)
  have n1_ := aM_ (k3_ HO655.out)
  have n2_ := aM_ (b1_ BK647.out)
  have n3_ := aM_ (bD_ HB.out)
  clear HO651
  clear HO655
  clear BK647
  clear HB
  have HO651 := n0_
  have HO655 := n1_
  have BK647 := n2_
  have HB := n3_
  clear n0_ n1_ n2_ n3_
  refine start_ (n := 8) (S := fun w' => True) (ds := []) #[fy, fy, fy, fy, fy, fy, fy, fy] (by kernel_rfl) rfl rfl trivial (fun hHeld => ?_); refine with_tabW sF64.tab4 sF64.bits4 (fun HT_ HW_ => ?_)
  generalize w23.drew = w24 at HO651 HO655 BK647 HB hHeld ⊢
  refine pu_ HT_ 0 16 #[ty, fy, fy, fy, fy, fy, fy, fy] ?_
  refine pu_ HT_ 1 17 #[ty, ty, fy, fy, fy, fy, fy, fy] ?_
  refine pure_ (i := 2) (N := some 18) (v := undef) (a' := ?_) #[ty, ty, ty, fy, fy, fy, fy, fy] rfl rfl (aO_ HT_.out (by kernel_rfl)) (fun _ _ _ h => h) (Or.inr ⟨by rfl, rfl⟩) ?_ ?_
  rotate_left
  ·
   simp only [Act.put, sA_, sB_, sC_, i6_, i3_]
   rfl
  refine pure_ (i := 3) (N := some 19) (v := undef) (a' := ?_) #[ty, ty, ty, ty, fy, fy, fy, fy] rfl rfl (aO_ HT_.out (by kernel_rfl)) (fun _ _ _ h => h) (Or.inr ⟨by rfl, rfl⟩) ?_ ?_
  rotate_left
  ·
   simp only [Act.put, sA_, sB_, sC_, i6_, i3_]
   rfl
  refine pure_ (i := 4) (N := some 20) (v := undef) (a' := ?_) #[ty, ty, ty, ty, ty, fy, fy, fy] rfl rfl (aO_ HT_.out (by kernel_rfl)) (fun _ _ _ h => h) (Or.inr ⟨by rfl, rfl⟩) ?_ ?_
  rotate_left
  ·
   simp only [Act.put, sA_, sB_, sC_, i6_, i3_]
   rfl
  refine pure_ (i := 5) (N := some 21) (v := undef) (a' := ?_) #[ty, ty, ty, ty, ty, ty, fy, fy] rfl rfl (aO_ HT_.out (by kernel_rfl)) (fun _ _ _ h => h) (Or.inr ⟨by rfl, rfl⟩) ?_ ?_
  rotate_left
  ·
   simp only [Act.put, sA_, sB_, sC_, i6_, i3_]
   rfl
  refine pu_ HT_ 6 22 #[ty, ty, ty, ty, ty, ty, ty, fy] ?_
  refine pu_ HT_ 7 2 #[ty, ty, ty, ty, ty, ty, ty, ty] ?_
  refine done_ (done_of HT_.out (by kernel_rfl)) ?_
  try go_wp2
  go_ret
  exact ⟨by rfl, by exact HB.out⟩
 subst c6
 rw [if_pos rfl] at H
 replace H := oB_.mp H
 obtain ⟨t656, A70, H⟩ := H
 try dsimp only at H
 have A7 := aM_ A70
 clear A70
 replace H := oB_.mp H
 obtain ⟨t659, A80, H⟩ := H
 try dsimp only at H
 have A8 := aM_ A80
 clear A80
 obtain rfl := Option.some.inj H
 go_enter Tryz.func72, Tryz.ntmps72
 try go_wp2_with (first | (refine bx_ 1 #[.slice A0_0 l0_0.length c0_0] 36 ?_; intro gb647 hg w9 hbox hb; have BK647 := aM_ (hbox); have GW647 := gw_ hg HB; replace HB := b4_ HB hb; clear hb hbox hg; have hcz10_0 := c0_ BK647; have hfz10_0 := bF_ BK647.out 0) | (refine gs_ 8 Tryz.func54 #[.int .i64 (l0_0.length : Int), .int .i64 1, .int .i64 481] ?_; (with_reducible refine (sF51.calls (l0_0.length : Int) 1 481 true _ A2.out).mono ?_); rintro e w' ⟨rfl, ⟨nd, rfl⟩⟩; refine ⟨_, rfl, ?_⟩) | (refine gs_ 12 Tryz.func29 #[.agg #[.slice A0_0 l0_0.length c0_0]] ?_; (with_reducible refine (sF66.calls k _ _ l0_0 t649 _ ?side1 HC0_0.out A4.out).mono ?_); (case side1 => repeat (first | exact (k4_ HR0_0.out (by repeat with_reducible first | exact HB.out | apply bA_ | apply bN_ | apply bD_ | refine bS_ ?_ GW647.out)) | with_reducible first | apply cA_ | apply cN_ | apply cD_)); rintro e w11 ⟨v650, rfl, ho0, hb⟩; refine ⟨_, rfl, ?_⟩; have HO651 := aM_ (k5_ ho0 (bZ_ (by repeat with_reducible first | exact HB.out | apply bA_ | apply bN_ | apply bD_ | refine bS_ ?_ GW647.out))); replace BK647 := aM_ (bB_ (g := gb647) (o := .cells #[.slice A0_0 l0_0.length c0_0] 36 (0, 0)) (by (with_reducible repeat (first | refine b2_ ?_ _ | refine b1_ ?_ | refine b3_ ?_ _)); exact BK647.out) hb); replace HB := aM_ (bT_ (by repeat with_reducible first | exact HB.out | apply bA_ | apply bN_ | apply bD_ | refine bS_ ?_ GW647.out) hb); (try clear hb); (try clear ho0); obtain ⟨Ao12, co12, eo12⟩ := kS_ HO651.out; subst eo12) | (refine gs_ 13 Tryz.func55 #[.slice Ao12 t649.length co12] ?_; (with_reducible refine (sF63.calls k _ _ t649 t652 true _ ?side1 ?side2 A5.out).mono ?_); (case side1 => repeat (first | exact (kR_ HO651.out).2.2 | with_reducible first | apply cA_ | apply cN_ | apply cD_)); (case side2 => exact (kR_ HO651.out).2.1); rintro e w13 ⟨v654, rfl, ho0, hb⟩; refine ⟨_, rfl, ?_⟩; have HO655 := aM_ (k5_ (Kd.R_new' ho0 (Kd.R_lt HO651.out)) (bZ_ HB.out)); replace HO651 := aM_ (Kd.R_elder' HO651.out (Kd.R_base ho0) hb); replace BK647 := b5_ BK647 hb; replace HB := b4_ HB hb; (try clear hb); (try clear ho0)))
 have n0_ := aM_ (k3_ HO651.out)
 have n1_ := aM_ (k3_ HO655.out)
 have n2_ := aM_ (b1_ BK647.out)
 have n3_ := aM_ (bD_ HB.out)
 clear HO651
 clear HO655
 clear BK647
 clear HB
 have HO651 := n0_
 have HO655 := n1_
 have BK647 := n2_
 have HB := n3_
 clear n0_ n1_ n2_ n3_
 obtain ⟨Ao15, co15, eo15⟩ := kS_ HO655.out
 (subst eo15)
 refine start_ (n := 8) (S := fun w' => w'.cell? ⟨gb647, 0, none⟩ = some (.slice A0_0 l0_0.length c0_0)) (ds := []) #[fy, fy, fy, fy, fy, fy, fy, fy] (by kernel_rfl) rfl rfl ((bC_ BK647.out 0).trans rfl) (fun hHeld => ?_); refine with_tabW sF64.tab4 sF64.bits4 (fun HT_ HW_ => ?_)
 generalize w13.drew = w14 at HO651 HO655 BK647 HB hHeld ⊢
 refine pu_ HT_ 0 16 #[ty, fy, fy, fy, fy, fy, fy, fy] ?_
 refine pu_ HT_ 1 17 #[ty, ty, fy, fy, fy, fy, fy, fy] ?_
 refine pu_ HT_ 2 18 #[ty, ty, ty, fy, fy, fy, fy, fy] ?_
 refine take_ (i := 4) (N := some 20) (v := ?_) (a' := ?_) #[ty, ty, ty, fy, ty, fy, fy, fy] rfl rfl (tW_ HT_.out HW_.out (by kernel_rfl)) (fun _ _ _ h => h) (Or.inl ⟨by rfl, ?_⟩) hHeld ?_ ?_; rotate_left; (intro w' s0; go_simp; with_reducible rfl); rotate_left; (simp only [Act.put, sA_, sB_, sC_, i6_, i3_]; rfl)
 refine one_ (i := 3) (N := some 19) #[ty, ty, ty, ty, ty, fy, fy, fy] rfl rfl (one_of HT_.out (by kernel_rfl)) (by decide) (fun K hK => ?_)
 refine goes_ Tryz.func56 (by kernel_rfl) rfl #[.slice Ao15 t652.length co15] (by rfl) rfl rfl (by (try simp only [sD_, sE_, sF_]); rfl) ?_
 with_reducible refine (sF55.calls k _ _ t652 t656 _ ?side1 ?side2 A7.out).mono ?_
 (case side1 => repeat (first | exact (kR_ HO655.out).2.2 | with_reducible first | apply cA_ | apply cN_ | apply cD_))
 (case side2 => exact (kR_ HO655.out).2.1)
 rintro e w16 ⟨v657, rfl, ho0, hb⟩
 refine ⟨_, rfl, ?_⟩
 have n0_ := k9_ HO651 hb
 have n1_ := k9_ HO655 hb
 have n2_ := aM_ (k5_ ho0 (bZ_ HB.out))
 have n3_ := b5_ BK647 hb
 have n4_ := b4_ HB hb
 clear HO651
 clear HO655
 clear BK647
 clear HB
 have HO651 := n0_
 have HO655 := n1_
 have HO658 := n2_
 have BK647 := n3_
 have HB := n4_
 clear n0_ n1_ n2_ n3_ n4_
 (try clear hb)
 (try clear ho0)
 obtain ⟨Ao17, co17, eo17⟩ := kS_ HO658.out
 (subst eo17)
 refine hK.out _ _ ((bC_ BK647.out 0).trans rfl) (fun hHeld => ?_)
 clear hK K
 refine norm_ (by show Act.put _ (some 19) _ = _; simp only [Act.put, sA_, sB_, sC_, i6_, i3_]; rfl) ?_
 refine one_ (i := 5) (N := some 21) #[ty, ty, ty, ty, ty, ty, fy, fy] rfl rfl (one_of HT_.out (by kernel_rfl)) (by decide) (fun K hK => ?_)
 refine goes_ Tryz.func89 (by kernel_rfl) rfl #[.agg #[.slice Ao17 t656.length co17], .agg #[.slice A0_0 l0_0.length c0_0]] (by rfl) rfl rfl (by (try simp only [sD_, sE_, sF_]); rfl) ?_
 with_reducible refine (sF62.calls k _ _ t656 _ _ l0_0 t659 _ ?side1 ?side2 ?side3 ?side4 A8.out).mono ?_
 (case side1 => repeat (first | exact (kR_ HO658.out).2.2 | with_reducible first | apply cA_ | apply cN_ | apply cD_))
 (case side2 => exact (kR_ HO658.out).2.1)
 (case side3 => repeat (first | exact (k4_ HR0_0.out HB.out) | with_reducible first | apply cA_ | apply cN_ | apply cD_))
 (case side4 => exact HC0_0.out)
 rintro e w18 ⟨rfl, hb⟩
 refine ⟨_, rfl, ?_⟩
 have n0_ := k9_ HO651 hb
 have n1_ := k9_ HO655 hb
 have n2_ := k9_ HO658 hb
 have n3_ := b5_ BK647 hb
 have n4_ := b4_ HB hb
 clear HO651
 clear HO655
 clear HO658
 clear BK647
 clear HB
 have HO651 := n0_
 have HO655 := n1_
 have HO658 := n2_
 have BK647 := n3_
 have HB := n4_
 clear n0_ n1_ n2_ n3_ n4_
 (try clear hb)
 refine hK.out _ _ ((bC_ BK647.out 0).trans rfl) (fun hHeld => ?_)
 clear hK K
 refine norm_ (by show Act.put _ (some 21) _ = _; simp only [Act.put, sA_, sB_, sC_, i6_, i3_]; rfl) ?_
 refine pu_ HT_ 6 22 #[ty, ty, ty, ty, ty, ty, ty, fy] ?_
 refine pu_ HT_ 7 2 #[ty, ty, ty, ty, ty, ty, ty, ty] ?_
 refine done_ (done_of HT_.out (by kernel_rfl)) ?_
 try go_wp2
 go_ret
 exact ⟨by rfl, by exact HB.out⟩
def sF50.j0 : Nat → ByteArray → Bool → List (S76) → Option ((List (S76)) × Bool)
 | 0, _, _, _ => none
 | k + 1, x1, x15, x796000 => if x15 = true then (some (([] : List (S76)), false)) else ((sF66.f k x796000).bind fun t799 => ((sF57.f k t799 x1).bind fun t802 => (if t802 < 0 then (some (([] : List (S76)), false)) else (if 0 ≤ t802 then (if t802 ≤ (t799.length : Int) then ((sF56.f (t799.take (t802 : Int).toNat)).bind fun t807 => (if 0 ≤ (wrap64 (t802 + 1)) then (if (wrap64 (t802 + 1)) ≤ (t799.length : Int) then ((some (t799.drop ((wrap64 (t802 + 1)) : Int).toNat : List ByteArray)).bind fun y810 => (if t807.length + y810.length < 8796093022208 then ((sF55.f k (t807 ++ y810)).bind fun t817 => (some (t817, true))) else (none))) else (none)) else (none))) else (none)) else (none)))))
def sF50.f (k : Nat) (l0_0 : List (S76)) (a1 : ByteArray) : Option ((List (S76)) × Bool) := (sF64.f k l0_0).bind fun t797 => (if t797 = true then ((sF65.f k a1).bind fun t798 => (sF50.j0 k a1 (!t798) l0_0)) else (sF50.j0 k a1 true l0_0))
theorem sF50.mono_l : ∀ k, (∀ y0 y1 y2, LeO (sF50.j0 k y0 y1 y2) (sF50.j0 (k + 1) y0 y1 y2))
 | 0 => fun _ _ _ r h => by simp [sF50.j0] at h
 | k + 1 => by
  have ih0 := sF50.mono_l k
  intro y0 y1 y2
  unfold sF50.j0
  repeat' with_reducible first | exact ih0 _ _ _ | exact sF55.mono _ _ | exact sF57.mono _ _ _ | exact sF64.mono _ _ | exact sF65.mono _ _ | exact sF66.mono _ _ | exact l3_ _ | exact l0_ _ | refine l2_ ?_ ?_ | refine l1_ ?_ (fun _ => ?_)
theorem sF50.mono : ∀ a0 a1 k, LeO (sF50.f k a0 a1) (sF50.f (k + 1) a0 a1) := by
 intro a0 a1 k
 have ih0 := sF50.mono_l k
 unfold sF50.f
 repeat' with_reducible first | exact ih0 _ _ _ | exact sF55.mono _ _ | exact sF57.mono _ _ _ | exact sF64.mono _ _ | exact sF65.mono _ _ | exact sF66.mono _ _ | exact l3_ _ | exact l0_ _ | refine l2_ ?_ ?_ | refine l1_ ?_ (fun _ => ?_)
def sF50.T7 : Bool × List (List Nat × List Nat) := (true, [([], []), ([], []), ([0, 1], [0, 1]), ([2], [2]), ([], []), ([], []), ([5], [5]), ([4, 6], [4, 6]), ([3, 7, 3], [3, 7]), ([8, 8], [8]), ([9, 9, 0, 1, 2, 3, 4, 5, 6, 7, 8, 9], [9]), ([10, 0, 1, 2, 3, 4, 5, 6, 7, 8, 9, 10], [])])
def sF50.B7 : List Nat := [0, 0, 3, 7, 0, 0, 32, 112, 255, 511, 1023, 2047]
theorem sF50.tab7 : rtab .any (opsOf Tryz.f51 7) = sF50.T7 := by kernel_rfl
theorem sF50.bits7 : waitsOk sF50.T7.2 sF50.B7 = true := by kernel_rfl
theorem sF50.calls (k : Nat) (A0_0 : Option Addr) (c0_0 : Nat) (l0_0 : List (S76)) (a1 : ByteArray) (r1 : List (S76)) (r2 : Bool) (w : World) (hr0_0 : Kd.C k76 w A0_0 l0_0.length l0_0) (hc0_0 : l0_0.length ≤ c0_0) (h : sF50.f k l0_0 a1 = some (r1, r2)) :
  Calls Tryz.prog 51 #[.agg #[.slice A0_0 l0_0.length c0_0], .string a1] w fun e w' => ∃ v0_ : Value, e = .returned (.tuple #[.agg #[v0_], .bool r2]) ∧ Kd.R k76 76 w' w.heap.size (fun _ => True) v0_ r1 ∧ Below w.heap.size w w' := by
 have hu36 := Tryz.underlying36
 have HR0_0 := aM_ hr0_0
 have HC0_0 := aM_ hc0_0
 clear hr0_0 hc0_0
 have HB := aM_ (Below.refl w.heap.size w)
 have H : ((sF64.f k l0_0).bind fun t797 => (if t797 = true then ((sF65.f k a1).bind fun t798 => (sF50.j0 k a1 (!t798) l0_0)) else (sF50.j0 k a1 true l0_0))) = some (r1, r2) := h
 clear h
 have HC3 := aM_ H
 clear H
 go_enter Tryz.func51, Tryz.ntmps51
 go_upto_region 1 with (first | (refine bx_ 2 #[.slice A0_0 l0_0.length c0_0] 36 ?_; intro gb795 hg w4 hbox hb; have BK795 := aM_ (hbox); have GW795 := gw_ hg HB; replace HB := b4_ HB hb; clear hb hbox hg) | (refine bx_ 4 #[.slice none 0 0] 36 ?_; intro gb796 hg w5 hbox hb; have BK796 := aM_ (hbox); have GW796 := gw_ hg HB; replace HB := b4_ HB hb; have NB795_796 := nb_ hg BK795; have NB796_795 := ns_ NB795_796; replace BK795 := b5_ BK795 hb; clear hb hbox hg))
 (try simp only [Act.put, sA_, sB_, sC_])
 go_cut [15] (fun v15 wc => ∃ (kq : Nat) (x15_2 : Bool), v15 = .bool x15_2 ∧ Aside0 (sF50.j0 kq a1 x15_2 l0_0 = some (r1, r2)) ∧ Aside0 (kq ≤ k) ∧ Aside0 (wc.heap[gb795]? = some (.cells #[(.slice A0_0 l0_0.length c0_0)] 36 (0, 0))) ∧ Aside0 (wc.heap[gb796]? = some (.cells #[(.slice none 0 0)] 36 (0, 0))) ∧ Aside0 (Below w.heap.size w wc))
 case first =>
  have H := HC3.out
  clear HC3
  replace H := oB_.mp H
  obtain ⟨t797, A60, H⟩ := H
  try dsimp only at H
  have A6 := aM_ A60
  clear A60
  by_cases c7 : t797 = true
  ·
   subst c7
   rw [if_pos rfl] at H
   replace H := oB_.mp H
   obtain ⟨t798, A80, H⟩ := H
   try dsimp only at H
   have A8 := aM_ A80
   clear A80
   have H' := aM_ H
   clear H
   have hnb9 := NB795_796.out
   have hnc9 := NB796_795.out
   have hcz10_0 := c0_ BK795
   have hfz10_0 := bF_ BK795.out 0
   go_wp2_with (first | (refine gs_ 9 Tryz.func72 #[.agg #[.slice A0_0 l0_0.length c0_0]] ?_; (with_reducible refine (sF64.calls k _ _ l0_0 true _ ?side1 HC0_0.out A6.out).mono ?_); (case side1 => repeat (first | exact (k4_ HR0_0.out HB.out) | with_reducible first | apply cA_ | apply cN_ | apply cD_)); rintro e w11 ⟨rfl, hb⟩; refine ⟨_, rfl, ?_⟩; replace BK795 := b5_ BK795 hb; replace BK796 := b5_ BK796 hb; replace HB := b4_ HB hb; (try clear hb)) | (go_at_call 59; (with_reducible refine (sF65.calls k a1 t798 _ A8.out).mono ?_); rintro e w' ⟨rfl, ⟨nd, rfl⟩⟩))
   go_meet
   case rel => exact ⟨_, (!t798), (by rfl), H', ⟨by omega⟩, ⟨by (with_reducible repeat (first | refine b2_ ?_ _ | refine b1_ ?_ | refine b3_ ?_ _)); exact BK795.out⟩, ⟨by (with_reducible repeat (first | refine b2_ ?_ _ | refine b1_ ?_ | refine b3_ ?_ _)); exact BK796.out⟩, ⟨by repeat with_reducible first | exact HB.out | apply bA_ | apply bN_ | apply bD_ | refine bS_ ?_ (Aside0.out ‹_›)⟩⟩
  replace c7 := Bool.eq_false_iff.mpr c7
  subst c7
  replace H : (sF50.j0 k a1 true l0_0) = some (r1, r2) := by rw [if_neg (show ¬ (false = true) by decide)] at H; exact H
  have H' := aM_ H
  clear H
  have hnb12 := NB795_796.out
  have hnc12 := NB796_795.out
  have hcz13_0 := c0_ BK795
  have hfz13_0 := bF_ BK795.out 0
  go_wp2_with (first | (refine gs_ 9 Tryz.func72 #[.agg #[.slice A0_0 l0_0.length c0_0]] ?_; (with_reducible refine (sF64.calls k _ _ l0_0 false _ ?side1 HC0_0.out A6.out).mono ?_); (case side1 => repeat (first | exact (k4_ HR0_0.out HB.out) | with_reducible first | apply cA_ | apply cN_ | apply cD_)); rintro e w14 ⟨rfl, hb⟩; refine ⟨_, rfl, ?_⟩; replace BK795 := b5_ BK795 hb; replace BK796 := b5_ BK796 hb; replace HB := b4_ HB hb; (try clear hb)))
  go_meet
  case rel => exact ⟨_, (true), (by rfl), H', ⟨by omega⟩, ⟨BK795.out⟩, ⟨BK796.out⟩, ⟨HB.out⟩⟩
 clear HC3
 try clear p2
 try clear hcz10_0
 try clear hcz13_0
 try clear hfz10_0
 try clear hfz13_0
 obtain ⟨kq, x15_2, rfl, HA, HJ2, BK795, BK796, HB⟩ := hcut
 cases kq with
 | zero => exact absurd HA.out (by simp [sF50.j0])
 | succ kj2 =>
  have H := HA.out
  clear HA
  simp only [sF50.j0] at H
  by_cases c15 : x15_2 = true
  ·
   subst c15
   rw [if_pos rfl] at H
   simp only [Option.some.injEq, Prod.mk.injEq] at H
   obtain ⟨rfl, rfl⟩ := H
   have hnb16 := NB796_795.out
   have hnc16 := NB795_796.out
   have hcz17_0 := c0_ BK796
   have hfz17_0 := bF_ BK796.out 0
   go_wp2
   refine bodyPost_ret (results_ct rfl _ _ gb796 36 #[.slice none 0 0] (0, 0) _ rfl (by refine bP_ (cs := #[.slice none 0 0]) ?_ 0 _ rfl; exact BK796.out) Tryz.underlying36 rfl (by kernel_rfl)) rfl ?_
   exact ⟨_, by rfl, by exact Kd.R_nil _ _ _ _ _, by repeat with_reducible first | exact HB.out | apply bA_ | apply bN_ | apply bD_ | refine bS_ ?_ (Aside0.out ‹_›)⟩
  replace c15 := Bool.eq_false_iff.mpr c15
  subst c15
  replace H : ((sF66.f kj2 l0_0).bind fun t799 => ((sF57.f kj2 t799 a1).bind fun t802 => (if t802 < 0 then (some (([] : List (S76)), false)) else (if 0 ≤ t802 then (if t802 ≤ (t799.length : Int) then ((sF56.f (t799.take (t802 : Int).toNat)).bind fun t807 => (if 0 ≤ (wrap64 (t802 + 1)) then (if (wrap64 (t802 + 1)) ≤ (t799.length : Int) then ((some (t799.drop ((wrap64 (t802 + 1)) : Int).toNat : List ByteArray)).bind fun y810 => (if t807.length + y810.length < 8796093022208 then ((sF55.f kj2 (t807 ++ y810)).bind fun t817 => (some (t817, true))) else (none))) else (none)) else (none))) else (none)) else (none))))) = some (r1, r2) := by rw [if_neg (show ¬ (false = true) by decide)] at H; exact H
  replace H := oB_.mp H
  obtain ⟨t799, A180, H⟩ := H
  try dsimp only at H
  have A18 := aM_ A180
  clear A180
  replace H := oB_.mp H
  obtain ⟨t802, A190, H⟩ := H
  try dsimp only at H
  have A19 := aM_ A190
  clear A190
  by_cases c20 : t802 < 0
  ·
   rw [if_pos c20] at H
   have c20b0 := dT_ c20
   clear c20
   simp only [Option.some.injEq, Prod.mk.injEq] at H
   obtain ⟨rfl, rfl⟩ := H
   have hnb21 := NB795_796.out
   have hnc21 := NB796_795.out
   have hcz22_0 := c0_ BK795
   have hfz22_0 := bF_ BK795.out 0
   go_wp2_with (first | (refine gs_ 18 Tryz.func29 #[.agg #[.slice A0_0 l0_0.length c0_0]] ?_; (with_reducible refine (sF66.calls kj2 _ _ l0_0 t799 _ ?side1 HC0_0.out A18.out).mono ?_); (case side1 => repeat (first | exact (k4_ HR0_0.out HB.out) | with_reducible first | apply cA_ | apply cN_ | apply cD_)); rintro e w23 ⟨v800, rfl, ho0, hb⟩; refine ⟨_, rfl, ?_⟩; have HO801 := aM_ (k5_ ho0 (bZ_ HB.out)); replace BK795 := b5_ BK795 hb; replace BK796 := b5_ BK796 hb; replace HB := b4_ HB hb; (try clear hb); (try clear ho0); obtain ⟨Ao24, co24, eo24⟩ := kS_ HO801.out; subst eo24) | (refine gs_ 21 Tryz.func77 #[.slice Ao24 t799.length co24, .string a1] ?_; (with_reducible refine (sF57.calls kj2 _ _ t799 a1 t802 _ ?side1 ?side2 A19.out).mono ?_); (case side1 => repeat (first | exact (kR_ HO801.out).2.2 | with_reducible first | apply cA_ | apply cN_ | apply cD_)); (case side2 => exact (kR_ HO801.out).2.1); rintro e w' ⟨rfl, ⟨nd, rfl⟩⟩; refine ⟨_, rfl, ?_⟩; (try (rw [drewN_self w23]; generalize hq_ : World.drewN w23 _ = w23; have n0_ : Aside0 (Kd.R Kd.string 9 w23 w.heap.size (fun _ => True) (.slice Ao24 t799.length co24) t799) := ⟨by rw [← hq_]; exact (by (with_reducible repeat (first | apply k1_ | apply k2_ | apply k3_)); exact HO801.out)⟩; have n1_ : Aside0 (w23.heap[gb795]? = some (.cells #[.slice A0_0 l0_0.length c0_0] 36 (0, 0))) := ⟨by rw [← hq_]; exact (by (with_reducible repeat (first | refine b2_ ?_ _ | refine b1_ ?_ | refine b3_ ?_ _)); exact BK795.out)⟩; have n2_ : Aside0 (w23.heap[gb796]? = some (.cells #[.slice none 0 0] 36 (0, 0))) := ⟨by rw [← hq_]; exact (by (with_reducible repeat (first | refine b2_ ?_ _ | refine b1_ ?_ | refine b3_ ?_ _)); exact BK796.out)⟩; have n3_ : Aside0 (Below w.heap.size w w23) := ⟨by rw [← hq_]; exact (by repeat with_reducible first | exact HB.out | apply bA_ | apply bN_ | apply bD_ | refine bS_ ?_ (Aside0.out ‹_›))⟩; clear HO801 BK795 BK796 HB hq_; have HO801 := n0_; have BK795 := n1_; have BK796 := n2_; have HB := n3_; clear n0_ n1_ n2_ n3_)); have hcz25_0 := c0_ BK796; have hfz25_0 := bF_ BK796.out 0))
   refine bodyPost_ret (results_ct rfl _ _ gb796 36 #[.slice none 0 0] (0, 0) _ rfl (by refine bP_ (cs := #[.slice none 0 0]) ?_ 0 _ rfl; exact BK796.out) Tryz.underlying36 rfl (by kernel_rfl)) rfl ?_
   exact ⟨_, by rfl, by exact Kd.R_nil _ _ _ _ _, by repeat with_reducible first | exact HB.out | apply bA_ | apply bN_ | apply bD_ | refine bS_ ?_ (Aside0.out ‹_›)⟩
  rw [if_neg c20] at H
  have c20b0 := dF_ c20
  clear c20
  by_cases c26 : 0 ≤ t802
  rotate_left
  ·
   rw [if_neg c26] at H
   exact absurd H (by simp)
  rw [if_pos c26] at H
  have c26b0 := eq_true c26
  have c26b1 := dT_ c26
  clear c26
  by_cases c27 : t802 ≤ (t799.length : Int)
  rotate_left
  ·
   rw [if_neg c27] at H
   exact absurd H (by simp)
  rw [if_pos c27] at H
  have c27b0 := eq_true c27
  have c27b1 := dT_ c27
  clear c27
  obtain ⟨y803, hy803⟩ : ∃ y_ : List ByteArray, y_ = (t799.take (t802 : Int).toNat) := ⟨_, rfl⟩
  replace H : ((sF56.f y803).bind fun t807 => (if 0 ≤ (wrap64 (t802 + 1)) then (if (wrap64 (t802 + 1)) ≤ (t799.length : Int) then ((some (t799.drop ((wrap64 (t802 + 1)) : Int).toNat : List ByteArray)).bind fun y810 => (if t807.length + y810.length < 8796093022208 then ((sF55.f kj2 (t807 ++ y810)).bind fun t817 => (some (t817, true))) else (none))) else (none)) else (none))) = some (r1, r2) := by (try rw [hy803]); first | with_reducible exact H | with_reducible exact oS_ H | exact H
  have Ny803 := aM_ hy803
  clear hy803
  replace H := oB_.mp H
  obtain ⟨t807, A280, H⟩ := H
  try dsimp only at H
  have A28 := aM_ A280
  clear A280
  obtain ⟨ji29, hji29⟩ : ∃ j_ : Int, (wrap64 (t802 + 1)) = j_ := ⟨_, rfl⟩
  replace H : (if 0 ≤ (ji29) then (if (ji29) ≤ (t799.length : Int) then ((some (t799.drop ((ji29) : Int).toNat : List ByteArray)).bind fun y810 => (if t807.length + y810.length < 8796093022208 then ((sF55.f kj2 (t807 ++ y810)).bind fun t817 => (some (t817, true))) else (none))) else (none)) else (none)) = some (r1, r2) := by first | (rw [hji29] at H; exact H) | (simp only [hji29] at H ⊢; exact H)
  (try rw [hji29] at A18)
  (try rw [hji29] at A19)
  (try rw [hji29] at A28)
  have hji29w : (IntKind.i64.wrap (t802 + 1)) = ji29 := (i6_ _).trans hji29
  by_cases c30 : 0 ≤ (ji29)
  rotate_left
  ·
   rw [if_neg c30] at H
   exact absurd H (by simp)
  rw [if_pos c30] at H
  have c30b0 := eq_true c30
  have c30b1 := dT_ c30
  clear c30
  by_cases c31 : (ji29) ≤ (t799.length : Int)
  rotate_left
  ·
   rw [if_neg c31] at H
   exact absurd H (by simp)
  rw [if_pos c31] at H
  have c31b0 := eq_true c31
  have c31b1 := dT_ c31
  clear c31
  obtain ⟨y810, hy810⟩ : ∃ y_ : List ByteArray, y_ = (t799.drop ((ji29) : Int).toNat) := ⟨_, rfl⟩
  replace H : (if t807.length + y810.length < 8796093022208 then ((sF55.f kj2 (t807 ++ y810)).bind fun t817 => (some (t817, true))) else (none)) = some (r1, r2) := by (try rw [hy810]); first | with_reducible exact H | with_reducible exact oS_ H | exact H
  have Ny810 := aM_ hy810
  clear hy810
  by_cases c32 : t807.length + y810.length < 8796093022208
  rotate_left
  ·
   rw [if_neg c32] at H
   exact absurd H (by simp)
  rw [if_pos c32] at H
  have LMc32 := aM_ c32
  clear c32
  obtain ⟨y814, hy814⟩ : ∃ y_ : List ByteArray, y_ = (t807 ++ y810) := ⟨_, rfl⟩
  replace H : ((sF55.f kj2 y814).bind fun t817 => (some (t817, true))) = some (r1, r2) := by (try rw [hy814]); first | with_reducible exact H | with_reducible exact oS_ H | exact H
  have Ny814 := aM_ hy814
  clear hy814
  replace H := oB_.mp H
  obtain ⟨t817, A330, H⟩ := H
  try dsimp only at H
  have A33 := aM_ A330
  clear A330
  simp only [Option.some.injEq, Prod.mk.injEq] at H
  obtain ⟨rfl, rfl⟩ := H
  have hnb34 := NB795_796.out
  have hnc34 := NB796_795.out
  have hcz35_0 := c0_ BK795
  have hfz35_0 := bF_ BK795.out 0
  try go_wp2_with (first | (refine gs_ 18 Tryz.func29 #[.agg #[.slice A0_0 l0_0.length c0_0]] ?_; (with_reducible refine (sF66.calls kj2 _ _ l0_0 t799 _ ?side1 HC0_0.out A18.out).mono ?_); (case side1 => repeat (first | exact (k4_ HR0_0.out HB.out) | with_reducible first | apply cA_ | apply cN_ | apply cD_)); rintro e w36 ⟨v800, rfl, ho0, hb⟩; refine ⟨_, rfl, ?_⟩; have HO801 := aM_ (k5_ ho0 (bZ_ HB.out)); replace BK795 := b5_ BK795 hb; replace BK796 := b5_ BK796 hb; replace HB := b4_ HB hb; (try clear hb); (try clear ho0); obtain ⟨Ao37, co37, eo37⟩ := kS_ HO801.out; subst eo37) | (refine gs_ 21 Tryz.func77 #[.slice Ao37 t799.length co37, .string a1] ?_; (with_reducible refine (sF57.calls kj2 _ _ t799 a1 t802 _ ?side1 ?side2 A19.out).mono ?_); (case side1 => repeat (first | exact (kR_ HO801.out).2.2 | with_reducible first | apply cA_ | apply cN_ | apply cD_)); (case side2 => exact (kR_ HO801.out).2.1); rintro e w' ⟨rfl, ⟨nd, rfl⟩⟩; refine ⟨_, rfl, ?_⟩; (try (rw [drewN_self w36]; generalize hq_ : World.drewN w36 _ = w36; have n0_ : Aside0 (Kd.R Kd.string 9 w36 w.heap.size (fun _ => True) (.slice Ao37 t799.length co37) t799) := ⟨by rw [← hq_]; exact (by (with_reducible repeat (first | apply k1_ | apply k2_ | apply k3_)); exact HO801.out)⟩; have n1_ : Aside0 (w36.heap[gb795]? = some (.cells #[.slice A0_0 l0_0.length c0_0] 36 (0, 0))) := ⟨by rw [← hq_]; exact (by (with_reducible repeat (first | refine b2_ ?_ _ | refine b1_ ?_ | refine b3_ ?_ _)); exact BK795.out)⟩; have n2_ : Aside0 (w36.heap[gb796]? = some (.cells #[.slice none 0 0] 36 (0, 0))) := ⟨by rw [← hq_]; exact (by (with_reducible repeat (first | refine b2_ ?_ _ | refine b1_ ?_ | refine b3_ ?_ _)); exact BK796.out)⟩; have n3_ : Aside0 (Below w.heap.size w w36) := ⟨by rw [← hq_]; exact (by repeat with_reducible first | exact HB.out | apply bA_ | apply bN_ | apply bD_ | refine bS_ ?_ (Aside0.out ‹_›))⟩; clear HO801 BK795 BK796 HB hq_; have HO801 := n0_; have BK795 := n1_; have BK796 := n2_; have HB := n3_; clear n0_ n1_ n2_ n3_))))
  have n0_ := aM_ (k3_ HO801.out)
  have n1_ := aM_ (b1_ BK795.out)
  have n2_ := aM_ (b1_ BK796.out)
  have n3_ := aM_ (bD_ HB.out)
  clear HO801
  clear BK795
  clear BK796
  clear HB
  have HO801 := n0_
  have BK795 := n1_
  have BK796 := n2_
  have HB := n3_
  clear n0_ n1_ n2_ n3_
  have q39 : (t802 : Int) ≤ ((t799.length : Int) : Int) := oD_ ‹_›
  obtain ⟨i039, hi039, _, hsz39, _⟩ := info_parts info9
  have hroom39 : t799.length ≤ co37 := (kR_ HO801.out).2.1
  have hC39 : Kd.C Kd.string _ Ao37 t799.length t799 := (kR_ HO801.out).2.2
  have hcut39 := cut_to (P := Tryz.prog) 49 9 .i64 Tryz.underlying49 hi039 Ao37 t799.length co37 t802 (oD_ ‹_›) q39 hroom39
  have hr39 := Kd.C_take (m := (t802 : Int).toNat) hC39 (by omega)
  have hy39 : y803.length = (t802 : Int).toNat := (by rw [Ny803.out, List.length_take]; omega)
  rw [← Ny803.out] at hr39
  rw [← hy39] at hcut39
  have HR806 := aM_ hr39
  have HC806 := aM_ (show y803.length ≤ co37 from by omega)
  clear hr39 hC39 hroom39 hi039 hsz39
  have KY39 := aM_ hy39
  clear hy39
  have KL39 := aM_ (show (t802 : Int).toNat ≤ t799.length from by omega)
  replace q39 := eq_true q39
  have q40 : ((ji29) : Int) ≤ ((t799.length : Int) : Int) := oD_ ‹_›
  obtain ⟨i040, hi040, _, hsz40, _⟩ := info_parts info9
  have hroom40 : t799.length ≤ co37 := (kR_ HO801.out).2.1
  have hC40 : Kd.C Kd.string _ Ao37 t799.length t799 := (kR_ HO801.out).2.2
  have q040 : (0 : Int) ≤ ((ji29) : Int) := oD_ ‹_›
  have hcut40 := cut_from (P := Tryz.prog) 49 9 .i64 Tryz.underlying49 hi040 1 hsz40 Ao37 t799.length co37 (ji29) q040 q40
  have hr40 := Kd.C_drop (m := ((ji29) : Int).toNat) (c := co37) hC40 (by omega) hroom40
  obtain ⟨A40, hA40⟩ : ∃ A1, A1 = (if co37 = ((ji29) : Int).toNat then Ao37 else (Ao37 : Option Addr).map (·.add (((ji29) : Int).toNat * 1))) := ⟨_, rfl⟩
  obtain ⟨c40, hc40⟩ : ∃ c1, c1 = co37 - ((ji29) : Int).toNat := ⟨_, rfl⟩
  have hy40 : y810.length = t799.length - ((ji29) : Int).toNat := (by rw [Ny810.out, List.length_drop] <;> omega)
  rw [show (t799).drop ((ji29) : Int).toNat = y810 from Ny810.out.symm] at hr40
  replace hr40 : Kd.C Kd.string _ A40 y810.length y810 := (by rw [hA40]; exact hr40)
  rw [← hy40, ← hA40, ← hc40] at hcut40
  have HR813 := aM_ hr40
  have HC813 := aM_ (show y810.length ≤ c40 from by rw [hy40, hc40]; exact Nat.sub_le_sub_right hroom40 _)
  clear hr40 hC40 hroom40 hi040 hsz40 hc40
  have KY40 := aM_ hy40
  have KA40 := aM_ hA40
  clear hy40 hA40
  have KL40 := aM_ (show ((ji29) : Int).toNat ≤ t799.length from by omega)
  replace q40 := eq_true q40
  refine start_ (n := 12) (S := fun w' => True) (ds := []) #[fy, fy, fy, fy, fy, fy, fy, fy, fy, fy, fy, fy] (by kernel_rfl) rfl rfl trivial (fun hHeld => ?_); refine with_tabW sF50.tab7 sF50.bits7 (fun HT_ HW_ => ?_)
  generalize w36.drew = w38 at HO801 BK795 BK796 HB HR806 HR813 hHeld ⊢
  refine pu_ HT_ 0 25 #[ty, fy, fy, fy, fy, fy, fy, fy, fy, fy, fy, fy] ?_
  refine pu_ HT_ 1 26 #[ty, ty, fy, fy, fy, fy, fy, fy, fy, fy, fy, fy] ?_
  refine pu_ HT_ 2 27 #[ty, ty, ty, fy, fy, fy, fy, fy, fy, fy, fy, fy] ?_
  refine pu_ HT_ 4 29 #[ty, ty, ty, fy, ty, fy, fy, fy, fy, fy, fy, fy] ?_
  refine pu_ HT_ 5 30 #[ty, ty, ty, fy, ty, ty, fy, fy, fy, fy, fy, fy] ?_
  refine pu_ HT_ 6 31 #[ty, ty, ty, fy, ty, ty, ty, fy, fy, fy, fy, fy] ?_
  refine pu_ HT_ 7 32 #[ty, ty, ty, fy, ty, ty, ty, ty, fy, fy, fy, fy] ?_
  refine one_ (i := 3) (N := some 28) #[ty, ty, ty, ty, ty, ty, ty, ty, fy, fy, fy, fy] rfl rfl (one_of HT_.out (by kernel_rfl)) (by decide) (fun K hK => ?_)
  refine goes_ Tryz.func78 (by kernel_rfl) rfl #[.slice Ao37 y803.length co37] (by rfl) rfl rfl (by (try simp only [sD_, sE_, sF_]); rfl) ?_
  with_reducible refine (sF56.calls _ _ y803 t807 _ ?side1 ?side2 A28.out).mono ?_
  (case side1 => repeat (first | exact (by repeat (first | (with_reducible exact HR806.out) | (with_reducible refine Kd.C_alloc ?_ _) | (with_reducible refine Kd.C_drewN ?_ _) | (with_reducible refine Kd.C_drew ?_) | exact HR806.out)) | with_reducible first | apply cA_ | apply cN_ | apply cD_))
  (case side2 => exact HC806.out)
  rintro e w41 ⟨v808, rfl, ho0, hb⟩
  refine ⟨_, rfl, ?_⟩
  have n0_ := aM_ (Kd.R_elder' HO801.out (Kd.R_base ho0) hb)
  have n1_ := aM_ (k5_ (Kd.R_new' ho0 (Kd.R_lt HO801.out)) (bZ_ HB.out))
  have n2_ := b5_ BK795 hb
  have n3_ := b5_ BK796 hb
  have n4_ := aM_ (k4_ (by repeat (first | (with_reducible exact HR806.out) | (with_reducible refine Kd.C_alloc ?_ _) | (with_reducible refine Kd.C_drewN ?_ _) | (with_reducible refine Kd.C_drew ?_) | exact HR806.out)) hb)
  have n5_ := aM_ (k4_ (by repeat (first | (with_reducible exact HR813.out) | (with_reducible refine Kd.C_alloc ?_ _) | (with_reducible refine Kd.C_drewN ?_ _) | (with_reducible refine Kd.C_drew ?_) | exact HR813.out)) hb)
  have n6_ := b4_ HB hb
  clear HO801
  clear BK795
  clear BK796
  clear HR806
  clear HR813
  clear HB
  have HO801 := n0_
  have HO809 := n1_
  have BK795 := n2_
  have BK796 := n3_
  have HR806 := n4_
  have HR813 := n5_
  have HB := n6_
  clear n0_ n1_ n2_ n3_ n4_ n5_ n6_
  (try clear hb)
  (try clear ho0)
  refine hK.out _ _ trivial (fun hHeld => ?_)
  clear hK K
  refine norm_ (by show Act.put _ (some 28) _ = _; simp only [Act.put, sA_, sB_, sC_, i6_, i3_]; rfl) ?_
  refine one_ (i := 8) (N := some 33) #[ty, ty, ty, ty, ty, ty, ty, ty, ty, fy, fy, fy] rfl rfl (one_of HT_.out (by kernel_rfl)) (by decide) (fun K hK => ?_)
  refine Kd.R_append_rows_step Kd.string (w0 := w) w.heap.size (by rfl) (.tmp 28) (.tmp 32) 49 9 (.string ⟨#[]⟩) 16 rfl Tryz.underlying49 info9 rfl (by decide) (by omega) v808 t807 y810 _ _ _ (fun k_ => some k_ ≠ (.slice Ao37 t799.length co37 : Value).ownBlock) (fun _ => False) rfl rfl ?aO ?aR (fun _ _ h => h) (fun _ h => h.elim) ?aF ?aB ?aS ?aL ?_
  (case aR => repeat (first | exact (by repeat (first | (with_reducible exact HR813.out) | (with_reducible refine Kd.C_alloc ?_ _) | (with_reducible refine Kd.C_drewN ?_ _) | (with_reducible refine Kd.C_drew ?_) | exact HR813.out)) | with_reducible first | apply cA_ | apply cN_ | apply cD_))
  (case aB => exact HB.out)
  (case aF => exact (fun k_ hk => Kd.fresh' (Kd.R_lt HO801.out) k_ hk))
  (case aO => exact (by exact kM_ HO809.out (fun _ hk => hk.2)))
  (case aS => exact (bZ_ HB.out))
  (case aL => have := LMc32.out; omega)
  intro v815 w42 ho hb hg hat
  rw [← Ny814.out] at ho
  have n0_ := aM_ (blk_grown (g := gb795) (o := .cells #[.slice A0_0 l0_0.length c0_0] 36 (0, 0)) BK795.out hg (k6_ HO809.out BK795.out (by decide)))
  have n1_ := aM_ (blk_grown (g := gb796) (o := .cells #[.slice none 0 0] 36 (0, 0)) BK796.out hg (k6_ HO809.out BK796.out (by decide)))
  have n2_ := aM_ (Kd.R_after (ok := (fun _ => True)) HO801.out hg hat)
  have n3_ := aM_ (hb)
  have n4_ := aM_ ((show Kd.C Kd.string w42 Ao37 y803.length y803 from by rw [Ny803.out]; exact Kd.C_take (m := (t802 : Int).toNat) ((kR_ (Kd.R_after (ok := (fun _ => True)) HO801.out hg hat)).2.2) KL39.out))
  have n5_ := aM_ ((show Kd.C Kd.string w42 A40 y810.length y810 from by rw [Ny810.out, KA40.out]; exact Kd.C_drop (m := ((ji29) : Int).toNat) (c := co37) ((kR_ (Kd.R_after (ok := (fun _ => True)) HO801.out hg hat)).2.2) KL40.out ((kR_ (Kd.R_after (ok := (fun _ => True)) HO801.out hg hat)).2.1)))
  have n6_ := aM_ (ho)
  clear BK795
  clear BK796
  clear HO801
  clear HB
  clear HR806
  clear HR813
  clear HO809
  have BK795 := n0_
  have BK796 := n1_
  have HO801 := n2_
  have HB := n3_
  have HR806 := n4_
  have HR813 := n5_
  have HO816 := n6_
  clear n0_ n1_ n2_ n3_ n4_ n5_ n6_
  clear ho hb hg hat
  obtain ⟨Ao43, co43, eo43⟩ := kS_ HO816.out
  (subst eo43)
  refine hK.out _ _ trivial (fun hHeld => ?_)
  clear hK K
  refine norm_ (by show Act.put _ (some 33) _ = _; simp only [Act.put, sA_, sB_, sC_, i6_, i3_]; rfl) ?_
  refine one_ (i := 9) (N := some 34) #[ty, ty, ty, ty, ty, ty, ty, ty, ty, ty, fy, fy] rfl rfl (one_of HT_.out (by kernel_rfl)) (by decide) (fun K hK => ?_)
  refine goes_ Tryz.func56 (by kernel_rfl) rfl #[.slice Ao43 y814.length co43] (by rfl) rfl rfl (by (try simp only [sD_, sE_, sF_]); rfl) ?_
  with_reducible refine (sF55.calls kj2 _ _ y814 t817 _ ?side1 ?side2 A33.out).mono ?_
  (case side1 => repeat (first | exact (kR_ HO816.out).2.2 | with_reducible first | apply cA_ | apply cN_ | apply cD_))
  (case side2 => exact (kR_ HO816.out).2.1)
  rintro e w44 ⟨v818, rfl, ho0, hb⟩
  refine ⟨_, rfl, ?_⟩
  have n0_ := k9_ HO801 hb
  have n1_ := k9_ HO816 hb
  have n2_ := aM_ (k5_ ho0 (bZ_ HB.out))
  have n3_ := b5_ BK795 hb
  have n4_ := b5_ BK796 hb
  have n5_ := aM_ (k4_ (by repeat (first | (with_reducible exact HR806.out) | (with_reducible refine Kd.C_alloc ?_ _) | (with_reducible refine Kd.C_drewN ?_ _) | (with_reducible refine Kd.C_drew ?_) | exact HR806.out)) hb)
  have n6_ := aM_ (k4_ (by repeat (first | (with_reducible exact HR813.out) | (with_reducible refine Kd.C_alloc ?_ _) | (with_reducible refine Kd.C_drewN ?_ _) | (with_reducible refine Kd.C_drew ?_) | exact HR813.out)) hb)
  have n7_ := b4_ HB hb
  clear HO801
  clear HO816
  clear BK795
  clear BK796
  clear HR806
  clear HR813
  clear HB
  have HO801 := n0_
  have HO816 := n1_
  have HO819 := n2_
  have BK795 := n3_
  have BK796 := n4_
  have HR806 := n5_
  have HR813 := n6_
  have HB := n7_
  clear n0_ n1_ n2_ n3_ n4_ n5_ n6_ n7_
  (try clear hb)
  (try clear ho0)
  obtain ⟨Ao45, co45, eo45⟩ := kS_ HO819.out
  (subst eo45)
  refine hK.out _ _ trivial (fun hHeld => ?_)
  clear hK K
  refine norm_ (by show Act.put _ (some 34) _ = _; simp only [Act.put, sA_, sB_, sC_, i6_, i3_]; rfl) ?_
  refine one_ (i := 10) (N := none) #[ty, ty, ty, ty, ty, ty, ty, ty, ty, ty, ty, fy] rfl rfl (one_of HT_.out (by kernel_rfl)) (by decide) (fun K hK => ?_)
  have hs46 : w44.cell? ⟨gb796, 0, none⟩ = some (.slice none 0 0) := (bC_ BK796.out 0).trans rfl
  have hfs46 := bF_ BK796.out 0
  have hns46_0 := NB795_796.out
  have hms46_0 := NB796_795.out
  refine skip_ (w1 := ?_) (by rfl) rfl ?_ ?_
  rotate_left
  ·
   go_simp
   rfl
  refine hK.out _ _ trivial (fun hHeld => ?_)
  clear hK K
  refine pu_ HT_ 11 5 #[ty, ty, ty, ty, ty, ty, ty, ty, ty, ty, ty, ty] ?_
  refine done_ (done_of HT_.out (by kernel_rfl)) ?_
  try go_wp2
  refine bodyPost_ret (results_ct rfl _ _ gb796 36 #[.slice Ao45 t817.length co45] (0, 0) _ rfl (by refine bP_ (cs := #[.slice none 0 0]) ?_ 0 _ rfl; exact BK796.out) Tryz.underlying36 rfl (by kernel_rfl)) rfl ?_
  exact ⟨_, by rfl, by exact kM_ (kG_ (kT_ HO819.out BK796.out (by decide))) (fun _ hk => trivial), by repeat with_reducible first | exact HB.out | apply bA_ | apply bN_ | apply bD_ | refine bS_ ?_ (Aside0.out ‹_›)⟩
def sF49.f (k : Nat) (l0_0 : List (S60)) (a1 : ByteArray) : Option ((List (S60)) × Int × Bool) := (sF67.f k l0_0).bind fun bt822 => (if bt822.2 = true then ((sF50.f k bt822.1 a1).bind fun bt827 => (if bt827.2 = true then ((sF69.f k bt827.1).bind fun t832 => (some (t832, wrap64 ((l0_0.length : Int) - (t832.length : Int)), true))) else (some (([] : List (S60)), 0, false)))) else (some (([] : List (S60)), 0, false)))
theorem sF49.mono : ∀ a0 a1 k, LeO (sF49.f k a0 a1) (sF49.f (k + 1) a0 a1) := by
 intro a0 a1 k
 unfold sF49.f
 repeat' with_reducible first | exact sF50.mono _ _ _ | exact sF67.mono _ _ | exact sF69.mono _ _ | exact l3_ _ | exact l0_ _ | refine l2_ ?_ ?_ | refine l1_ ?_ (fun _ => ?_)
def sF49.T8 : Bool × List (List Nat × List Nat) := (true, [([], []), ([], []), ([1], [1]), ([2], [2]), ([], []), ([4], [4]), ([5], [5]), ([3, 6], [3, 6]), ([0, 0], [0]), ([7, 8, 0, 1, 2, 3, 4, 5, 6, 7, 8], [7]), ([9, 0, 1, 2, 3, 4, 5, 6, 7, 8, 9], [])])
def sF49.B8 : List Nat := [0, 0, 2, 6, 0, 16, 48, 126, 1, 511, 1023]
theorem sF49.tab8 : rtab .any (opsOf Tryz.f24 8) = sF49.T8 := by kernel_rfl
theorem sF49.bits8 : waitsOk sF49.T8.2 sF49.B8 = true := by kernel_rfl
theorem sF49.calls (k : Nat) (A0_0 : Option Addr) (c0_0 : Nat) (l0_0 : List (S60)) (a1 : ByteArray) (r1 : List (S60)) (r2 : Int) (r3 : Bool) (w : World) (hr0_0 : Kd.C k60 w A0_0 l0_0.length l0_0) (hc0_0 : l0_0.length ≤ c0_0) (h : sF49.f k l0_0 a1 = some (r1, r2, r3)) :
  Calls Tryz.prog 24 #[.agg #[.slice A0_0 l0_0.length c0_0], .string a1] w fun e w' => ∃ v0_ : Value, e = .returned (.tuple #[.agg #[v0_], .int .i64 r2, .bool r3]) ∧ Kd.R k60 60 w' w.heap.size (fun _ => True) v0_ r1 ∧ Below w.heap.size w w' := by
 have hu30 := Tryz.underlying30
 have hu36 := Tryz.underlying36
 have HR0_0 := aM_ hr0_0
 have HC0_0 := aM_ hc0_0
 clear hr0_0 hc0_0
 have HB := aM_ (Below.refl w.heap.size w)
 have H : ((sF67.f k l0_0).bind fun bt822 => (if bt822.2 = true then ((sF50.f k bt822.1 a1).bind fun bt827 => (if bt827.2 = true then ((sF69.f k bt827.1).bind fun t832 => (some (t832, wrap64 ((l0_0.length : Int) - (t832.length : Int)), true))) else (some (([] : List (S60)), 0, false)))) else (some (([] : List (S60)), 0, false)))) = some (r1, r2, r3) := h
 clear h
 replace H := oB_.mp H
 obtain ⟨⟨t822, t825⟩, A30, H⟩ := H
 try dsimp only at H
 have A3 := aM_ A30
 clear A30
 by_cases c4 : t825 = true
 rotate_left
 ·
  replace c4 := Bool.eq_false_iff.mpr c4
  subst c4
  replace H : (some (([] : List (S60)), 0, false)) = some (r1, r2, r3) := by rw [if_neg (show ¬ (false = true) by decide)] at H; exact H
  simp only [Option.some.injEq, Prod.mk.injEq] at H
  obtain ⟨rfl, rfl, rfl⟩ := H
  go_enter Tryz.func24, Tryz.ntmps24
  go_wp2_with (first | (refine bx_ 2 #[.slice A0_0 l0_0.length c0_0] 30 ?_; intro gb820 hg w54 hbox hb; have BK820 := aM_ (hbox); have GW820 := gw_ hg HB; replace HB := b4_ HB hb; clear hb hbox hg) | (refine bx_ 4 #[.slice none 0 0] 30 ?_; intro gb821 hg w55 hbox hb; have BK821 := aM_ (hbox); have GW821 := gw_ hg HB; replace HB := b4_ HB hb; have NB820_821 := nb_ hg BK820; have NB821_820 := ns_ NB820_821; replace BK820 := b5_ BK820 hb; clear hb hbox hg; have hnb56 := NB820_821.out; have hnc56 := NB821_820.out; have hcz57_0 := c0_ BK820; have hfz57_0 := bF_ BK820.out 0) | (refine gs_ 13 Tryz.func27 #[.agg #[.slice A0_0 l0_0.length c0_0]] ?_; (with_reducible refine (sF67.calls k _ _ l0_0 t822 false _ ?side1 HC0_0.out A3.out).mono ?_); (case side1 => repeat (first | exact (k4_ HR0_0.out HB.out) | with_reducible first | apply cA_ | apply cN_ | apply cD_)); rintro e w58 ⟨v823, rfl, ho0, hb⟩; refine ⟨_, rfl, ?_⟩; have HO824 := aM_ (k5_ ho0 (bZ_ HB.out)); replace BK820 := b5_ BK820 hb; replace BK821 := b5_ BK821 hb; replace HB := b4_ HB hb; (try clear hb); (try clear ho0)) | (refine bx_ 7 #[.slice none 0 0] 36 ?_; intro gb826 hg w59 hbox hb; replace HO824 := k9_ HO824 hb; have BK826 := aM_ (hbox); have GW826 := gw_ hg HB; replace HB := b4_ HB hb; have NB820_826 := nb_ hg BK820; have NB826_820 := ns_ NB820_826; replace BK820 := b5_ BK820 hb; have NB821_826 := nb_ hg BK821; have NB826_821 := ns_ NB821_826; replace BK821 := b5_ BK821 hb; clear hb hbox hg; obtain ⟨Ao60, co60, eo60⟩ := kS_ HO824.out; subst eo60; have hnb61 := NB826_820.out; have hnc61 := NB820_826.out; have hnb62 := NB826_821.out; have hnc62 := NB821_826.out; have hcz63_0 := c0_ BK826; have hfz63_0 := bF_ BK826.out 0; have hcz64_0 := c0_ BK821; have hfz64_0 := bF_ BK821.out 0))
  refine bodyPost_ret (results_ctt rfl _ _ gb821 30 #[.slice none 0 0] (0, 0) _ rfl (by refine bP_ (cs := #[.slice none 0 0]) ?_ 0 _ rfl; exact br_ NB821_826.out (BK821.out)) Tryz.underlying30 rfl (by kernel_rfl)) rfl ?_
  exact ⟨_, by rfl, by exact Kd.R_nil _ _ _ _ _, by repeat with_reducible first | exact HB.out | apply bA_ | apply bN_ | apply bD_ | refine bS_ ?_ (Aside0.out ‹_›)⟩
 subst c4
 rw [if_pos rfl] at H
 replace H := oB_.mp H
 obtain ⟨⟨t827, t830⟩, A50, H⟩ := H
 try dsimp only at H
 have A5 := aM_ A50
 clear A50
 by_cases c6 : t830 = true
 rotate_left
 ·
  replace c6 := Bool.eq_false_iff.mpr c6
  subst c6
  replace H : (some (([] : List (S60)), 0, false)) = some (r1, r2, r3) := by rw [if_neg (show ¬ (false = true) by decide)] at H; exact H
  simp only [Option.some.injEq, Prod.mk.injEq] at H
  obtain ⟨rfl, rfl, rfl⟩ := H
  go_enter Tryz.func24, Tryz.ntmps24
  go_wp2_with (first | (refine bx_ 2 #[.slice A0_0 l0_0.length c0_0] 30 ?_; intro gb820 hg w36 hbox hb; have BK820 := aM_ (hbox); have GW820 := gw_ hg HB; replace HB := b4_ HB hb; clear hb hbox hg) | (refine bx_ 4 #[.slice none 0 0] 30 ?_; intro gb821 hg w37 hbox hb; have BK821 := aM_ (hbox); have GW821 := gw_ hg HB; replace HB := b4_ HB hb; have NB820_821 := nb_ hg BK820; have NB821_820 := ns_ NB820_821; replace BK820 := b5_ BK820 hb; clear hb hbox hg; have hnb38 := NB820_821.out; have hnc38 := NB821_820.out; have hcz39_0 := c0_ BK820; have hfz39_0 := bF_ BK820.out 0) | (refine gs_ 13 Tryz.func27 #[.agg #[.slice A0_0 l0_0.length c0_0]] ?_; (with_reducible refine (sF67.calls k _ _ l0_0 t822 true _ ?side1 HC0_0.out A3.out).mono ?_); (case side1 => repeat (first | exact (k4_ HR0_0.out HB.out) | with_reducible first | apply cA_ | apply cN_ | apply cD_)); rintro e w40 ⟨v823, rfl, ho0, hb⟩; refine ⟨_, rfl, ?_⟩; have HO824 := aM_ (k5_ ho0 (bZ_ HB.out)); replace BK820 := b5_ BK820 hb; replace BK821 := b5_ BK821 hb; replace HB := b4_ HB hb; (try clear hb); (try clear ho0)) | (refine bx_ 7 #[.slice none 0 0] 36 ?_; intro gb826 hg w41 hbox hb; replace HO824 := k9_ HO824 hb; have BK826 := aM_ (hbox); have GW826 := gw_ hg HB; replace HB := b4_ HB hb; have NB820_826 := nb_ hg BK820; have NB826_820 := ns_ NB820_826; replace BK820 := b5_ BK820 hb; have NB821_826 := nb_ hg BK821; have NB826_821 := ns_ NB821_826; replace BK821 := b5_ BK821 hb; clear hb hbox hg; obtain ⟨Ao42, co42, eo42⟩ := kS_ HO824.out; subst eo42; have hnb43 := NB826_820.out; have hnc43 := NB820_826.out; have hnb44 := NB826_821.out; have hnc44 := NB821_826.out; have hcz45_0 := c0_ BK826; have hfz45_0 := bF_ BK826.out 0) | (refine gs_ 22 Tryz.func51 #[.agg #[.slice Ao42 t822.length co42], .string a1] ?_; (with_reducible refine (sF50.calls k _ _ t822 a1 t827 false _ ?side1 ?side2 A5.out).mono ?_); (case side1 => refine (kR_ (e := 76) (base := w.heap.size) (ok := fun k_ => True) (n := t822.length) (c := co42) ?_).2.2; exact (by exact (kM_ (kG_ (kT_ HO824.out BK826.out (by decide))) (fun _ h_ => h_.1)))); (case side2 => exact (kR_ HO824.out).2.1); rintro e w46 ⟨v828, rfl, ho0, hb⟩; refine ⟨_, rfl, ?_⟩; have HO829 := aM_ (k5_ (Kd.R_new' ho0 (Kd.R_lt (by exact (kM_ (kG_ (kT_ HO824.out BK826.out (by decide))) (fun _ h_ => h_.1))))) (bZ_ (by repeat with_reducible first | exact HB.out | apply bA_ | apply bN_ | apply bD_ | refine bS_ ?_ (Aside0.out ‹_›)))); replace HO824 := aM_ (Kd.R_elder' (by exact (kM_ (kG_ (kT_ HO824.out BK826.out (by decide))) (fun _ h_ => h_.1))) (Kd.R_base ho0) hb); replace BK820 := aM_ (bB_ (g := gb820) (o := .cells #[.slice A0_0 l0_0.length c0_0] 30 (0, 0)) (by exact br_ NB820_826.out (BK820.out)) hb); replace BK821 := aM_ (bB_ (g := gb821) (o := .cells #[.slice none 0 0] 30 (0, 0)) (by exact br_ NB821_826.out (BK821.out)) hb); replace BK826 := aM_ (bB_ (g := gb826) (o := .cells #[.slice Ao42 t822.length co42] 36 (0, 0)) (by refine bP_ (cs := #[.slice none 0 0]) ?_ 0 _ rfl; exact BK826.out) hb); replace HB := aM_ (bT_ (by repeat with_reducible first | exact HB.out | apply bA_ | apply bN_ | apply bD_ | refine bS_ ?_ (Aside0.out ‹_›)) hb); (try clear hb); (try clear ho0)) | (refine bx_ 9 #[.slice none 0 0] 36 ?_; intro gb831 hg w47 hbox hb; replace HO824 := k9_ HO824 hb; replace HO829 := k9_ HO829 hb; have BK831 := aM_ (hbox); have GW831 := gw_ hg HB; replace HB := b4_ HB hb; have NB820_831 := nb_ hg BK820; have NB831_820 := ns_ NB820_831; replace BK820 := b5_ BK820 hb; have NB821_831 := nb_ hg BK821; have NB831_821 := ns_ NB821_831; replace BK821 := b5_ BK821 hb; have NB826_831 := nb_ hg BK826; have NB831_826 := ns_ NB826_831; replace BK826 := b5_ BK826 hb; clear hb hbox hg; obtain ⟨Ao48, co48, eo48⟩ := kS_ HO829.out; subst eo48; have hnb49 := NB831_820.out; have hnc49 := NB820_831.out; have hnb50 := NB831_821.out; have hnc50 := NB821_831.out; have hnb51 := NB831_826.out; have hnc51 := NB826_831.out; have hcz52_0 := c0_ BK831; have hfz52_0 := bF_ BK831.out 0; have hcz53_0 := c0_ BK821; have hfz53_0 := bF_ BK821.out 0))
  refine bodyPost_ret (results_ctt rfl _ _ gb821 30 #[.slice none 0 0] (0, 0) _ rfl (by refine bP_ (cs := #[.slice none 0 0]) ?_ 0 _ rfl; exact br_ NB821_831.out (BK821.out)) Tryz.underlying30 rfl (by kernel_rfl)) rfl ?_
  exact ⟨_, by rfl, by exact Kd.R_nil _ _ _ _ _, by repeat with_reducible first | exact HB.out | apply bA_ | apply bN_ | apply bD_ | refine bS_ ?_ (Aside0.out ‹_›)⟩
 subst c6
 rw [if_pos rfl] at H
 replace H := oB_.mp H
 obtain ⟨t832, A70, H⟩ := H
 try dsimp only at H
 have A7 := aM_ A70
 clear A70
 simp only [Option.some.injEq, Prod.mk.injEq] at H
 obtain ⟨rfl, rfl, rfl⟩ := H
 go_enter Tryz.func24, Tryz.ntmps24
 try go_wp2_with (first | (refine bx_ 2 #[.slice A0_0 l0_0.length c0_0] 30 ?_; intro gb820 hg w8 hbox hb; have BK820 := aM_ (hbox); have GW820 := gw_ hg HB; replace HB := b4_ HB hb; clear hb hbox hg) | (refine bx_ 4 #[.slice none 0 0] 30 ?_; intro gb821 hg w9 hbox hb; have BK821 := aM_ (hbox); have GW821 := gw_ hg HB; replace HB := b4_ HB hb; have NB820_821 := nb_ hg BK820; have NB821_820 := ns_ NB820_821; replace BK820 := b5_ BK820 hb; clear hb hbox hg; have hnb10 := NB820_821.out; have hnc10 := NB821_820.out; have hcz11_0 := c0_ BK820; have hfz11_0 := bF_ BK820.out 0) | (refine gs_ 13 Tryz.func27 #[.agg #[.slice A0_0 l0_0.length c0_0]] ?_; (with_reducible refine (sF67.calls k _ _ l0_0 t822 true _ ?side1 HC0_0.out A3.out).mono ?_); (case side1 => repeat (first | exact (k4_ HR0_0.out HB.out) | with_reducible first | apply cA_ | apply cN_ | apply cD_)); rintro e w12 ⟨v823, rfl, ho0, hb⟩; refine ⟨_, rfl, ?_⟩; have HO824 := aM_ (k5_ ho0 (bZ_ HB.out)); replace BK820 := b5_ BK820 hb; replace BK821 := b5_ BK821 hb; replace HB := b4_ HB hb; (try clear hb); (try clear ho0)) | (refine bx_ 7 #[.slice none 0 0] 36 ?_; intro gb826 hg w13 hbox hb; replace HO824 := k9_ HO824 hb; have BK826 := aM_ (hbox); have GW826 := gw_ hg HB; replace HB := b4_ HB hb; have NB820_826 := nb_ hg BK820; have NB826_820 := ns_ NB820_826; replace BK820 := b5_ BK820 hb; have NB821_826 := nb_ hg BK821; have NB826_821 := ns_ NB821_826; replace BK821 := b5_ BK821 hb; clear hb hbox hg; obtain ⟨Ao14, co14, eo14⟩ := kS_ HO824.out; subst eo14; have hnb15 := NB826_820.out; have hnc15 := NB820_826.out; have hnb16 := NB826_821.out; have hnc16 := NB821_826.out; have hcz17_0 := c0_ BK826; have hfz17_0 := bF_ BK826.out 0) | (refine gs_ 22 Tryz.func51 #[.agg #[.slice Ao14 t822.length co14], .string a1] ?_; (with_reducible refine (sF50.calls k _ _ t822 a1 t827 true _ ?side1 ?side2 A5.out).mono ?_); (case side1 => refine (kR_ (e := 76) (base := w.heap.size) (ok := fun k_ => True) (n := t822.length) (c := co14) ?_).2.2; exact (by exact (kM_ (kG_ (kT_ HO824.out BK826.out (by decide))) (fun _ h_ => h_.1)))); (case side2 => exact (kR_ HO824.out).2.1); rintro e w18 ⟨v828, rfl, ho0, hb⟩; refine ⟨_, rfl, ?_⟩; have HO829 := aM_ (k5_ (Kd.R_new' ho0 (Kd.R_lt (by exact (kM_ (kG_ (kT_ HO824.out BK826.out (by decide))) (fun _ h_ => h_.1))))) (bZ_ (by repeat with_reducible first | exact HB.out | apply bA_ | apply bN_ | apply bD_ | refine bS_ ?_ (Aside0.out ‹_›)))); replace HO824 := aM_ (Kd.R_elder' (by exact (kM_ (kG_ (kT_ HO824.out BK826.out (by decide))) (fun _ h_ => h_.1))) (Kd.R_base ho0) hb); replace BK820 := aM_ (bB_ (g := gb820) (o := .cells #[.slice A0_0 l0_0.length c0_0] 30 (0, 0)) (by exact br_ NB820_826.out (BK820.out)) hb); replace BK821 := aM_ (bB_ (g := gb821) (o := .cells #[.slice none 0 0] 30 (0, 0)) (by exact br_ NB821_826.out (BK821.out)) hb); replace BK826 := aM_ (bB_ (g := gb826) (o := .cells #[.slice Ao14 t822.length co14] 36 (0, 0)) (by refine bP_ (cs := #[.slice none 0 0]) ?_ 0 _ rfl; exact BK826.out) hb); replace HB := aM_ (bT_ (by repeat with_reducible first | exact HB.out | apply bA_ | apply bN_ | apply bD_ | refine bS_ ?_ (Aside0.out ‹_›)) hb); (try clear hb); (try clear ho0)) | (refine bx_ 9 #[.slice none 0 0] 36 ?_; intro gb831 hg w19 hbox hb; replace HO824 := k9_ HO824 hb; replace HO829 := k9_ HO829 hb; have BK831 := aM_ (hbox); have GW831 := gw_ hg HB; replace HB := b4_ HB hb; have NB820_831 := nb_ hg BK820; have NB831_820 := ns_ NB820_831; replace BK820 := b5_ BK820 hb; have NB821_831 := nb_ hg BK821; have NB831_821 := ns_ NB821_831; replace BK821 := b5_ BK821 hb; have NB826_831 := nb_ hg BK826; have NB831_826 := ns_ NB826_831; replace BK826 := b5_ BK826 hb; clear hb hbox hg; obtain ⟨Ao20, co20, eo20⟩ := kS_ HO829.out; subst eo20; have hnb21 := NB831_820.out; have hnc21 := NB820_831.out; have hnb22 := NB831_821.out; have hnc22 := NB821_831.out; have hnb23 := NB831_826.out; have hnc23 := NB826_831.out; have hcz24_0 := c0_ BK831; have hfz24_0 := bF_ BK831.out 0) | (refine gs_ 29 Tryz.func47 #[.agg #[.slice Ao20 t827.length co20]] ?_; (with_reducible refine (sF69.calls k _ _ t827 t832 _ ?side1 ?side2 A7.out).mono ?_); (case side1 => refine (kR_ (e := 76) (base := w.heap.size) (ok := fun k_ => (True ∧ some k_ ≠ (.slice Ao14 t822.length co14 : Value).ownBlock)) (n := t827.length) (c := co20) ?_).2.2; exact (by exact (kM_ (kG_ (kT_ HO829.out BK831.out (by decide))) (fun _ h_ => h_.1)))); (case side2 => exact (kR_ HO829.out).2.1); rintro e w25 ⟨v833, rfl, ho0, hb⟩; refine ⟨_, rfl, ?_⟩; replace HO824 := aM_ (kB_ (by exact (kM_ (kG_ (kT_ HO824.out BK831.out (by decide))) (fun _ h_ => h_.1))) hb); replace HO829 := aM_ (kB_ (by exact (kM_ (kG_ (kT_ HO829.out BK831.out (by decide))) (fun _ h_ => h_.1))) hb); have HO834 := aM_ (k5_ ho0 (bZ_ (by repeat with_reducible first | exact HB.out | apply bA_ | apply bN_ | apply bD_ | refine bS_ ?_ (Aside0.out ‹_›)))); replace BK820 := aM_ (bB_ (g := gb820) (o := .cells #[.slice A0_0 l0_0.length c0_0] 30 (0, 0)) (by exact br_ NB820_831.out (BK820.out)) hb); replace BK821 := aM_ (bB_ (g := gb821) (o := .cells #[.slice none 0 0] 30 (0, 0)) (by exact br_ NB821_831.out (BK821.out)) hb); replace BK826 := aM_ (bB_ (g := gb826) (o := .cells #[.slice Ao14 t822.length co14] 36 (0, 0)) (by exact br_ NB826_831.out (BK826.out)) hb); replace BK831 := aM_ (bB_ (g := gb831) (o := .cells #[.slice Ao20 t827.length co20] 36 (0, 0)) (by refine bP_ (cs := #[.slice none 0 0]) ?_ 0 _ rfl; exact BK831.out) hb); replace HB := aM_ (bT_ (by repeat with_reducible first | exact HB.out | apply bA_ | apply bN_ | apply bD_ | refine bS_ ?_ (Aside0.out ‹_›)) hb); (try clear hb); (try clear ho0)) | (refine bx_ 10 #[.slice none 0 0] 30 ?_; intro gb835 hg w26 hbox hb; replace HO824 := k9_ HO824 hb; replace HO829 := k9_ HO829 hb; replace HO834 := k9_ HO834 hb; have BK835 := aM_ (hbox); have GW835 := gw_ hg HB; replace HB := b4_ HB hb; have NB820_835 := nb_ hg BK820; have NB835_820 := ns_ NB820_835; replace BK820 := b5_ BK820 hb; have NB821_835 := nb_ hg BK821; have NB835_821 := ns_ NB821_835; replace BK821 := b5_ BK821 hb; have NB826_835 := nb_ hg BK826; have NB835_826 := ns_ NB826_835; replace BK826 := b5_ BK826 hb; have NB831_835 := nb_ hg BK831; have NB835_831 := ns_ NB831_835; replace BK831 := b5_ BK831 hb; clear hb hbox hg; obtain ⟨Ao27, co27, eo27⟩ := kS_ HO834.out; subst eo27; have hnb28 := NB835_820.out; have hnc28 := NB820_835.out; have hnb29 := NB835_821.out; have hnc29 := NB821_835.out; have hnb30 := NB835_826.out; have hnc30 := NB826_835.out; have hnb31 := NB835_831.out; have hnc31 := NB831_835.out; have hcz32_0 := c0_ BK835; have hfz32_0 := bF_ BK835.out 0))
 generalize hW_ : (w26.setCell ⟨gb835, 0, none⟩ (.slice Ao27 t832.length co27)) = w33
 have n0_ : Aside0 (Kd.R k76 76 w33 w.heap.size (fun k_ => some k_ ≠ (.slice Ao20 t827.length co20 : Value).ownBlock) (.slice Ao14 t822.length co14) t822) := ⟨by subst hW_; exact kM_ (kG_ (kT_ HO824.out BK835.out (by decide))) (fun _ hk => hk.1.2)⟩
 have n1_ : Aside0 (Kd.R k76 76 w33 w.heap.size (fun k_ => some k_ ≠ (.slice Ao14 t822.length co14 : Value).ownBlock) (.slice Ao20 t827.length co20) t827) := ⟨by subst hW_; exact kM_ (kG_ (kT_ HO829.out BK835.out (by decide))) (fun _ hk => hk.1.2)⟩
 have n2_ : Aside0 (Kd.R k60 60 w33 w.heap.size (fun _ => True) (.slice Ao27 t832.length co27) t832) := ⟨by subst hW_; exact kM_ (kG_ (kT_ HO834.out BK835.out (by decide))) (fun _ hk => trivial)⟩
 have n3_ : Aside0 (w33.heap[gb820]? = some (.cells #[.slice A0_0 l0_0.length c0_0] 30 (0, 0))) := ⟨by subst hW_; exact br_ NB820_835.out (BK820.out)⟩
 have n4_ : Aside0 (w33.heap[gb821]? = some (.cells #[.slice none 0 0] 30 (0, 0))) := ⟨by subst hW_; exact br_ NB821_835.out (BK821.out)⟩
 have n5_ : Aside0 (w33.heap[gb826]? = some (.cells #[.slice Ao14 t822.length co14] 36 (0, 0))) := ⟨by subst hW_; exact br_ NB826_835.out (BK826.out)⟩
 have n6_ : Aside0 (w33.heap[gb831]? = some (.cells #[.slice Ao20 t827.length co20] 36 (0, 0))) := ⟨by subst hW_; exact br_ NB831_835.out (BK831.out)⟩
 have n7_ : Aside0 (w33.heap[gb835]? = some (.cells #[.slice Ao27 t832.length co27] 30 (0, 0))) := ⟨by subst hW_; refine bP_ (cs := #[.slice none 0 0]) ?_ 0 _ rfl; exact BK835.out⟩
 have n8_ : Aside0 (Below w.heap.size w w33) := ⟨by subst hW_; repeat with_reducible first | exact HB.out | apply bA_ | apply bN_ | apply bD_ | refine bS_ ?_ (Aside0.out ‹_›)⟩
 (try clear HO824)
 (try clear HO829)
 (try clear HO834)
 (try clear BK820)
 (try clear BK821)
 (try clear BK826)
 (try clear BK831)
 (try clear BK835)
 (try clear HB)
 clear hW_
 have HO824 := n0_
 have HO829 := n1_
 have HO834 := n2_
 have BK820 := n3_
 have BK821 := n4_
 have BK826 := n5_
 have BK831 := n6_
 have BK835 := n7_
 have HB := n8_
 clear n0_ n1_ n2_ n3_ n4_ n5_ n6_ n7_ n8_
 have n0_ := aM_ (k3_ HO824.out)
 have n1_ := aM_ (k3_ HO829.out)
 have n2_ := aM_ (k3_ HO834.out)
 have n3_ := aM_ (b1_ BK820.out)
 have n4_ := aM_ (b1_ BK821.out)
 have n5_ := aM_ (b1_ BK826.out)
 have n6_ := aM_ (b1_ BK831.out)
 have n7_ := aM_ (b1_ BK835.out)
 have n8_ := aM_ (bD_ HB.out)
 clear HO824
 clear HO829
 clear HO834
 clear BK820
 clear BK821
 clear BK826
 clear BK831
 clear BK835
 clear HB
 have HO824 := n0_
 have HO829 := n1_
 have HO834 := n2_
 have BK820 := n3_
 have BK821 := n4_
 have BK826 := n5_
 have BK831 := n6_
 have BK835 := n7_
 have HB := n8_
 clear n0_ n1_ n2_ n3_ n4_ n5_ n6_ n7_ n8_
 refine start_ (n := 11) (S := fun w' => w'.cell? ⟨gb835, 0, none⟩ = some (.slice Ao27 t832.length co27) ∧ w'.cell? ⟨gb820, 0, none⟩ = some (.slice A0_0 l0_0.length c0_0)) (ds := []) #[fy, fy, fy, fy, fy, fy, fy, fy, fy, fy, fy] (by kernel_rfl) rfl rfl ⟨(bC_ BK835.out 0).trans rfl, (bC_ BK820.out 0).trans rfl⟩ (fun hHeld => ?_); refine with_tabW sF49.tab8 sF49.bits8 (fun HT_ HW_ => ?_)
 generalize w33.drew = w34 at HO824 HO829 HO834 BK820 BK821 BK826 BK831 BK835 HB hHeld ⊢
 refine pu_ HT_ 1 31 #[fy, ty, fy, fy, fy, fy, fy, fy, fy, fy, fy] ?_
 refine pu_ HT_ 4 34 #[fy, ty, fy, fy, ty, fy, fy, fy, fy, fy, fy] ?_
 refine tk_ HT_ HW_ 0 30 #[ty, ty, fy, fy, ty, fy, fy, fy, fy, fy, fy] hHeld ?_ (hr := by rintro w' ⟨s0, s1⟩; go_simp; with_reducible rfl)
 refine tk_ HT_ HW_ 2 32 #[ty, ty, ty, fy, ty, fy, fy, fy, fy, fy, fy] hHeld ?_ (hr := by rintro w' ⟨s0, s1⟩; go_simp; with_reducible rfl)
 refine pu_ HT_ 3 33 #[ty, ty, ty, ty, ty, fy, fy, fy, fy, fy, fy] ?_
 refine tk_ HT_ HW_ 5 35 #[ty, ty, ty, ty, ty, ty, fy, fy, fy, fy, fy] hHeld ?_ (hr := by rintro w' ⟨s0, s1⟩; go_simp; with_reducible rfl)
 refine pu_ HT_ 6 36 #[ty, ty, ty, ty, ty, ty, ty, fy, fy, fy, fy] ?_
 refine pu_ HT_ 7 37 #[ty, ty, ty, ty, ty, ty, ty, ty, fy, fy, fy] ?_
 refine one_ (i := 8) (N := none) #[ty, ty, ty, ty, ty, ty, ty, ty, ty, fy, fy] rfl rfl (one_of HT_.out (by kernel_rfl)) (by decide) (fun K hK => ?_)
 have hs35 : w34.cell? ⟨gb821, 0, none⟩ = some (.slice none 0 0) := (bC_ BK821.out 0).trans rfl
 have hfs35 := bF_ BK821.out 0
 have hns35_0 := NB820_821.out
 have hns35_2 := NB826_821.out
 have hns35_3 := NB831_821.out
 have hns35_4 := NB835_821.out
 have hms35_0 := NB821_820.out
 have hms35_2 := NB821_826.out
 have hms35_3 := NB821_831.out
 have hms35_4 := NB821_835.out
 refine skip_ (w1 := ?_) (by rfl) rfl ?_ ?_
 rotate_left
 ·
  go_simp
  rfl
 refine hK.out _ _ ⟨((cF_ (p := ⟨gb821, _, none⟩) NB835_821.out _).trans (hHeld.1)), ((cF_ (p := ⟨gb821, _, none⟩) NB820_821.out _).trans (hHeld.2))⟩ (fun hHeld => ?_)
 clear hK K
 refine pu_ HT_ 9 5 #[ty, ty, ty, ty, ty, ty, ty, ty, ty, ty, fy] ?_
 refine pu_ HT_ 10 6 #[ty, ty, ty, ty, ty, ty, ty, ty, ty, ty, ty] ?_
 refine done_ (done_of HT_.out (by kernel_rfl)) ?_
 try go_wp2
 refine bodyPost_ret (results_ctt rfl _ _ gb821 30 #[.slice Ao27 t832.length co27] (0, 0) _ rfl (by refine bP_ (cs := #[.slice none 0 0]) ?_ 0 _ rfl; exact BK821.out) Tryz.underlying30 rfl (by kernel_rfl)) rfl ?_
 exact ⟨_, by rfl, by exact kM_ (kG_ (kT_ HO834.out BK821.out (by decide))) (fun _ hk => trivial), by repeat with_reducible first | exact HB.out | apply bA_ | apply bN_ | apply bD_ | refine bS_ ?_ (Aside0.out ‹_›)⟩
end Go.Proofs.YtfhffcefpnkllaaGreatDoor.P
