/-
  Part 1 of the proof that FnExactCountEdges returns true for every input: the functions that it reaches, each with its contract, and the law.
  Conditions: those of the given statement, no others.
-/
import Derived.Test.YtnnkedeohfbkeaaGreatDoorKMW0
import Derived.Test.YtnnkedeohfbkeaaGreatDoorRows
import Derived.WalkKit
import Derived.ProofKit
import Derived.OpenShut
import Derived.ShutString
import Derived.ChangeOld
import Derived.Below
import Derived.SizedLaws
import Derived.Lay
import Derived.LaidOnce
import Derived.SevenTiedAt
import Derived.Test.YtnnkedeohfbkeaaGreatDoorCards
import Derived.Test.YtnnkedeohfbkeaaGreatDoorTie
import Derived.Test.YtnnkedeohfbkeaaGreatDoorKM0
import Derived.Test.YtnnkedeohfbkeaaGreatDoorKM2
import Derived.Test.YtnnkedeohfbkeaaGreatDoorKM3
import Derived.Test.YtnnkedeohfbkeaaGreatDoorKM4
set_option linter.unusedVariables false
set_option linter.unusedSimpArgs false
set_option maxHeartbeats 8000000
set_option maxRecDepth 100000
namespace Go.Proofs.YtnnkedeohfbkeaaGreatDoor.P
open Go.RowKit Go.Proofs.YtnnkedeohfbkeaaGreatDoorW.PrintWords Go.Proofs.YtnnkedeohfbkeaaGreatDoorW.PrintLast Go.Proofs.YtnnkedeohfbkeaaGreatDoorW.PrintMore
open Go.Proofs.YtnnkedeohfbkeaaGreatDoorW.PrintWords renaming blk_frozen → bF_, blk_cell → bC_, below_set → bS_, blk_below → bB_, below_step → bT_, pw_below_drewN → bN_, below_size → bZ_, below_drew1 → bD_, below_alloc → bA_, blk_far → bR_, gate_callee → gC_, gate_dst → gD_, box_event → bE_, blk_drew → b1_, blk_put → bP_, blk_drewN → b2_, blk_alloc → b3_, blk_lt → bL_, cell_far → cF_
open Go.Proofs.YtnnkedeohfbkeaaGreatDoorW.PrintLast renaming any_of → aO_, i64_w → i6_, i32_w → i3_, take_ofW → tW_
open Go.Proofs.YtnnkedeohfbkeaaGreatDoorW.PrintWords.Kd renaming R_below → kB_, R_mono → kM_, R_far → kF_, R_reads' → kR_, R_types → kT_, R_slice → kS_, R_celln → kC_, R_alloc → k1_, R_drewN → k2_, R_drew → k3_, C_below → k4_, R_lower → k5_, R_ne → k6_, own_blk → k7_
open Go.Proofs.YtnnkedeohfbkeaaGreatDoorW.PrintWords.LeO renaming none → l0_, bind → l1_, ite → l2_, refl → l3_
open World renaming block_lt_of_cell? → wB_
open _root_.Option renaming bind_eq_some_iff → oB_
open _root_.ByteArray renaming empty → eB_
open List renaming setIfInBounds_toArray → sA_, set_cons_zero → sB_, set_cons_succ → sC_, map_toArray → sD_, map_cons → sE_, map_nil → sF_, length_drop → sG_, length_take → sH_
open Bool renaming true → ty, false → fy
open Aside0 renaming mk → aM_
attribute [local go_sem] max2_int min2_int max_two min_two max_three min_three max_four min_four
def impl_IsMachine.f (k : Nat) (l0_0 : List (S72)) : Option (Bool) := (impl_Machine_open.f k l0_0).bind fun bt544 => (some bt544.2)
theorem impl_IsMachine.mono : ∀ a0 k, LeO (impl_IsMachine.f k a0) (impl_IsMachine.f (k + 1) a0) := by
 intro a0 k
 unfold impl_IsMachine.f
 repeat' with_reducible first | exact impl_Machine_open.mono _ _ | exact l3_ _ | exact l0_ _ | refine l2_ ?_ ?_ | refine l1_ ?_ (fun _ => ?_)
theorem impl_IsMachine.calls (k : Nat) (A0_0 : Option Addr) (c0_0 : Nat) (l0_0 : List (S72)) (r : Bool) (w : World) (hr0_0 : Kd.C k72 w A0_0 l0_0.length l0_0) (hc0_0 : l0_0.length ≤ c0_0) (h : impl_IsMachine.f k l0_0 = some r) :
  Calls Tryz.prog 23 #[.agg #[.slice A0_0 l0_0.length c0_0]] w fun e w' => e = .returned (.bool r) ∧ Below w.heap.size w w' := by
 have hu33 := Tryz.underlying33
 have hu28 := Tryz.underlying28
 have HR0_0 := aM_ hr0_0
 have HC0_0 := aM_ hc0_0
 clear hr0_0 hc0_0
 have HB := aM_ (Below.refl w.heap.size w)
 have H : ((impl_Machine_open.f k l0_0).bind fun bt544 => (some bt544.2)) = some r := h
 clear h
 replace H := oB_.mp H
 obtain ⟨⟨t544, t547⟩, A20, H⟩ := H
 try dsimp only at H
 have A2 := aM_ A20
 clear A20
 obtain rfl := Option.some.inj H
 go_enter Tryz.func23, Tryz.ntmps23
 go_wp2_with (first | (refine bx_ 1 #[.slice A0_0 l0_0.length c0_0] 33 ?_; intro gb543 hg w3 hbox hb; have BK543 := aM_ (hbox); have GW543 := gw_ hg HB; replace HB := b4_ HB hb; clear hb hbox hg; have hcz4_0 := c0_ BK543; have hfz4_0 := bF_ BK543.out 0) | (refine gs_ 7 Tryz.func51 #[.agg #[.slice A0_0 l0_0.length c0_0]] ?_; (with_reducible refine (impl_Machine_open.calls k _ _ l0_0 t544 t547 _ ?side1 HC0_0.out A2.out).mono ?_); (case side1 => repeat (first | exact (k4_ HR0_0.out HB.out) | with_reducible first | apply cA_ | apply cN_ | apply cD_)); rintro e w5 ⟨v545, rfl, ho0, hb⟩; refine ⟨_, rfl, ?_⟩; have HO546 := aM_ (k5_ ho0 (bZ_ HB.out)); replace BK543 := b5_ BK543 hb; replace HB := b4_ HB hb; (try clear hb); (try clear ho0)) | (refine bx_ 3 #[.slice none 0 0] 28 ?_; intro gb548 hg w6 hbox hb; replace HO546 := k9_ HO546 hb; have BK548 := aM_ (hbox); have GW548 := gw_ hg HB; replace HB := b4_ HB hb; have NB543_548 := nb_ hg BK543; have NB548_543 := ns_ NB543_548; replace BK543 := b5_ BK543 hb; clear hb hbox hg; obtain ⟨Ao7, co7, eo7⟩ := kS_ HO546.out; subst eo7; have hnb8 := NB548_543.out; have hnc8 := NB543_548.out; have hcz9_0 := c0_ BK548; have hfz9_0 := bF_ BK548.out 0))
 go_ret
 exact ⟨by rfl, by repeat with_reducible first | exact HB.out | apply bA_ | apply bN_ | apply bD_ | refine bS_ ?_ (Aside0.out ‹_›)⟩
def impl_Machine_edges.l0 : Nat → List (S88) → List (S72) → Int → Int → Option ((List (S88)))
 | 0, _, _, _, _ => none
 | k + 1, x3, x8, x9, x10 => if x10 < x9 then (if 0 ≤ x10 then (if x10 < (x8.length : Int) then (if x3.length + ((rd_T72 x8 x10).f1).length < 8796093022208 then (impl_Machine_edges.l0 k (x3 ++ ((rd_T72 x8 x10).f1)) x8 x9 (wrap64 (x10 + 1))) else (none)) else (none)) else (none)) else (some x3)
def impl_Machine_edges.f (k : Nat) (l0_0 : List (S72)) : Option ((List (S88))) := impl_Machine_edges.l0 k (([] : List (S88))) l0_0 (l0_0.length : Int) 0
theorem impl_Machine_edges.mono_l : ∀ k, (∀ y0 y1 y2 y3, LeO (impl_Machine_edges.l0 k y0 y1 y2 y3) (impl_Machine_edges.l0 (k + 1) y0 y1 y2 y3))
 | 0 => fun _ _ _ _ r h => by simp [impl_Machine_edges.l0] at h
 | k + 1 => by
  have ih0 := impl_Machine_edges.mono_l k
  intro y0 y1 y2 y3
  unfold impl_Machine_edges.l0
  repeat' with_reducible first | exact ih0 _ _ _ _ | exact l3_ _ | exact l0_ _ | refine l2_ ?_ ?_ | refine l1_ ?_ (fun _ => ?_)
theorem impl_Machine_edges.mono : ∀ a0 k, LeO (impl_Machine_edges.f k a0) (impl_Machine_edges.f (k + 1) a0) := by
 intro a0 k
 have ih0 := impl_Machine_edges.mono_l k
 unfold impl_Machine_edges.f
 repeat' with_reducible first | exact ih0 _ _ _ _ | exact l3_ _ | exact l0_ _ | refine l2_ ?_ ?_ | refine l1_ ?_ (fun _ => ?_)
theorem impl_Machine_edges.calls (k : Nat) (A0_0 : Option Addr) (c0_0 : Nat) (l0_0 : List (S72)) (r : List (S88)) (w : World) (hr0_0 : Kd.C k72 w A0_0 l0_0.length l0_0) (hc0_0 : l0_0.length ≤ c0_0) (h : impl_Machine_edges.f k l0_0 = some r) :
  Calls Tryz.prog 57 #[.agg #[.slice A0_0 l0_0.length c0_0]] w fun e w' => ∃ v0_ : Value, e = .returned (v0_) ∧ Kd.R k88 88 w' w.heap.size (fun _ => True) v0_ r ∧ Below w.heap.size w w' := by
 have hu33 := Tryz.underlying33
 have hu72 := Tryz.underlying72
 have HR0_0 := aM_ hr0_0
 have HC0_0 := aM_ hc0_0
 clear hr0_0 hc0_0
 have HB := aM_ (Below.refl w.heap.size w)
 have H : (impl_Machine_edges.l0 k (([] : List (S88))) l0_0 (l0_0.length : Int) 0) = some r := h
 clear h
 obtain ⟨y568, hy568⟩ : ∃ y_ : List (S88), y_ = (([] : List (S88))) := ⟨_, rfl⟩
 replace H : (impl_Machine_edges.l0 k y568 l0_0 (l0_0.length : Int) 0) = some r := by (try rw [hy568]); first | with_reducible exact H | with_reducible exact oS_ H | exact H
 have Ny568 := aM_ hy568
 clear hy568
 have H' := aM_ H
 clear H
 go_enter Tryz.func57, Tryz.ntmps57
 go_wp2_with (first | (refine bx_ 1 #[.slice A0_0 l0_0.length c0_0] 33 ?_; intro gb567 hg w2 hbox hb; have BK567 := aM_ (hbox); have GW567 := gw_ hg HB; replace HB := b4_ HB hb; clear hb hbox hg) | ((with_reducible refine gD_ (N := 6) rfl ?_); refine Kd.R_lit k88 _ 88 ?hg (N := 6) ?hd (xs := ([] : List (S88))) (inner := []) (ok := fun _ => True) (okp := fun _ => True) ?hr ?hp (fun _ hk => hk) trivial (Below.refl _ _) (Nat.le_refl _) (by simp) ?_; (case hd => rfl); (case hg => rfl); (case hr => (go_simp; done)); (case hp => exact (Reps.none _ _)); intro v569 w3 ho4 hb hg_ hnew_; clear hg_ hnew_; (rw [← Ny568.out] at ho4); have HO570 := aM_ (k5_ ho4 (bZ_ HB.out)); replace BK567 := b5_ BK567 hb; replace HB := b4_ HB hb; clear hb ho4; have hcz5_0 := c0_ BK567; have hfz5_0 := bF_ BK567.out 0))
 go_loopg [3, 10] k (fun kq v3 v10 w' => ∃ (x3_1 : List (S88)) (x10_1 : Int), v10 = .int .i64 x10_1 ∧ Aside0 (impl_Machine_edges.l0 kq x3_1 l0_0 (l0_0.length : Int) x10_1 = some r) ∧ Aside0 (kq ≤ k) ∧ Aside0 (Kd.R k88 88 w' w.heap.size (fun _ => True) v3 x3_1) ∧ Aside0 (w'.heap[gb567]? = some (.cells #[(.slice A0_0 l0_0.length c0_0)] 33 (0, 0))) ∧ Aside0 (Below w.heap.size w w'))
 case atStart => exact ⟨(y568), (0), (by rfl), H', ⟨Nat.le_refl _⟩, ⟨HO570.out⟩, ⟨BK567.out⟩, ⟨HB.out⟩⟩
 clear H'
 try clear p2
 try clear hcz5_0
 try clear hfz5_0
 obtain ⟨x3_1, x10_1, rfl, HA, HK1, HO_3, BK567, HB⟩ := hrel
 cases gk with
 | zero => exact absurd HA.out (by simp [impl_Machine_edges.l0])
 | succ k1 =>
  have H := HA.out
  clear HA
  simp only [impl_Machine_edges.l0] at H
  by_cases c6 : x10_1 < (l0_0.length : Int)
  rotate_left
  ·
   rw [if_neg c6] at H
   have c6b0 := dF_ c6
   clear c6
   obtain rfl := Option.some.inj H
   go_wp2
   go_ret
   exact ⟨_, by rfl, by exact HO_3.out, by exact HB.out⟩
  rw [if_pos c6] at H
  have c6b0 := dT_ c6
  clear c6
  by_cases c7 : 0 ≤ x10_1
  rotate_left
  ·
   rw [if_neg c7] at H
   exact absurd H (by simp)
  rw [if_pos c7] at H
  have c7b0 := dT_ c7
  clear c7
  by_cases c8 : x10_1 < (l0_0.length : Int)
  rotate_left
  ·
   rw [if_neg c8] at H
   exact absurd H (by simp)
  rw [if_pos c8] at H
  have c8b0 := dT_ c8
  clear c8
  by_cases c9 : x3_1.length + ((rd_T72 l0_0 x10_1).f1).length < 8796093022208
  rotate_left
  ·
   rw [if_neg c9] at H
   exact absurd H (by simp)
  rw [if_pos c9] at H
  have LMc9 := aM_ c9
  clear c9
  obtain ⟨y573, hy573⟩ : ∃ y_ : List (S88), y_ = (x3_1 ++ ((rd_T72 l0_0 x10_1).f1)) := ⟨_, rfl⟩
  replace H : (impl_Machine_edges.l0 k1 y573 l0_0 (l0_0.length : Int) (wrap64 (x10_1 + 1))) = some r := by (try rw [hy573]); first | with_reducible exact H | with_reducible exact oS_ H | exact H
  have Ny573 := aM_ hy573
  clear hy573
  have H' := aM_ H
  clear H
  have p571 : 0 ≤ (x10_1 : Int) := oD_ ‹_›
  have q571 : x10_1 < (l0_0.length : Int) := oD_ ‹_›
  obtain ⟨ad571, A571_1, c571_1, e571, hx571_0, hx571_1, hl571_1, hi571_1⟩ := at_T72 HR0_0.out x10_1 p571 q571
  cases e571
  replace hx571_0 := cb_ HB hx571_0
  replace hx571_1 := cb_ HB hx571_1
  have HR571_1 := aM_ hi571_1
  have HC571_1 := aM_ hl571_1
  clear hi571_1 hl571_1
  replace p571 := eq_true p571
  replace q571 := eq_true q571
  go_wp2_with (first | (refine bx_ 5 #[.bool false, .slice none 0 0] 72 ?_; intro gb572 hg w10 hbox hb; replace HO_3 := k9_ HO_3 hb; have BK572 := aM_ (hbox); have GW572 := gw_ hg HB; replace HB := b4_ HB hb; have NB567_572 := nb_ hg BK567; have NB572_567 := ns_ NB567_572; replace BK567 := b5_ BK567 hb; clear hb hbox hg; have hnb11 := NB572_567.out; have hnc11 := NB567_572.out; have hcz12_0 := c0_ BK572; have hcz12_1 := c1_ BK572; have hfz12_0 := bF_ BK572.out 0; have hfz12_1 := bF_ BK572.out 1) | ((with_reducible refine gate_builtin (b := .append) (xs := #[.tmp 14, .tmp 16]) rfl ?_); at_builtin; refine Kd.R_append_rows k88 (w0 := w) w.heap.size rfl (.tmp 14) (.tmp 16) 70 88 (.agg #[(.int .i64 0), (.int .i64 0)]) 16 rfl Tryz.underlying70 info88 rfl (by decide) (by omega) u3 x3_1 ((rd_T72 l0_0 x10_1).f1) _ _ _ (fun _ => True) (fun _ => False) rfl rfl ?aO ?aR (fun _ _ h => h) (fun _ h => h.elim) ?aF ?aB ?aS ?aL ?_; (case aR => exact k4_ HR571_1.out (by repeat with_reducible first | exact HB.out | apply bA_ | apply bN_ | apply bD_ | refine bS_ ?_ (Aside0.out ‹_›))); (case aB => exact (by repeat with_reducible first | exact HB.out | apply bA_ | apply bN_ | apply bD_ | refine bS_ ?_ (Aside0.out ‹_›))); (case aF => exact (fun _ _ => trivial)); (case aO => exact (by exact kM_ (kG_ (kG_ (kT_ HO_3.out BK572.out (by decide)))) (fun _ hk => trivial))); (case aS => exact (bZ_ (by repeat with_reducible first | exact HB.out | apply bA_ | apply bN_ | apply bD_ | refine bS_ ?_ (Aside0.out ‹_›)))); (case aL => have := LMc9.out; omega); intro v574 w13 ho hb hg hat; rw [← Ny573.out] at ho; have n0_ := aM_ (blk_grown (g := gb567) (o := .cells #[.slice (some ad571) l0_0.length c0_0] 33 (0, 0)) (by exact br_ NB567_572.out (br_ NB567_572.out (BK567.out))) hg (k6_ HO_3.out BK567.out (by decide))); have n1_ := aM_ (blk_grown (g := gb572) (o := .cells #[.bool ((rd_T72 l0_0 x10_1).f0), .slice A571_1 ((rd_T72 l0_0 x10_1).f1).length c571_1] 72 (0, 0)) (by refine bP_ (cs := #[.bool ((rd_T72 l0_0 x10_1).f0), .slice none 0 0]) ?_ 1 _ rfl; refine bP_ (cs := #[.bool false, .slice none 0 0]) ?_ 0 _ rfl; exact BK572.out) hg (k6_ HO_3.out BK572.out (by decide))); have n2_ := aM_ (hb); have n3_ := aM_ (ho); clear BK567; clear BK572; clear HB; clear HO_3; have BK567 := n0_; have BK572 := n1_; have HB := n2_; have HO575 := n3_; clear n0_ n1_ n2_ n3_; clear ho hb hg hat))
  go_roundg k1
  case measure => have := HK1.out; omega
  case rel => exact ⟨(y573), (wrap64 (x10_1 + 1)), (by rfl), H', ⟨by have := HK1.out; omega⟩, ⟨HO575.out⟩, ⟨BK567.out⟩, ⟨HB.out⟩⟩
def impl_CountEdges.f (k : Nat) (l0_0 : List (S72)) : Option (Int × Bool) := (impl_IsMachine.f k l0_0).bind fun t577 => (if t577 = true then ((impl_Machine_edges.f k l0_0).bind fun t578 => (some ((t578.length : Int), true))) else (some (0, false)))
theorem impl_CountEdges.mono : ∀ a0 k, LeO (impl_CountEdges.f k a0) (impl_CountEdges.f (k + 1) a0) := by
 intro a0 k
 unfold impl_CountEdges.f
 repeat' with_reducible first | exact impl_IsMachine.mono _ _ | exact impl_Machine_edges.mono _ _ | exact l3_ _ | exact l0_ _ | refine l2_ ?_ ?_ | refine l1_ ?_ (fun _ => ?_)
theorem impl_CountEdges.calls (k : Nat) (A0_0 : Option Addr) (c0_0 : Nat) (l0_0 : List (S72)) (r1 : Int) (r2 : Bool) (w : World) (hr0_0 : Kd.C k72 w A0_0 l0_0.length l0_0) (hc0_0 : l0_0.length ≤ c0_0) (h : impl_CountEdges.f k l0_0 = some (r1, r2)) :
  Calls Tryz.prog 25 #[.agg #[.slice A0_0 l0_0.length c0_0]] w fun e w' => e = .returned (.tuple #[.int .i64 r1, .bool r2]) ∧ Below w.heap.size w w' := by
 have hu33 := Tryz.underlying33
 have HR0_0 := aM_ hr0_0
 have HC0_0 := aM_ hc0_0
 clear hr0_0 hc0_0
 have HB := aM_ (Below.refl w.heap.size w)
 have H : ((impl_IsMachine.f k l0_0).bind fun t577 => (if t577 = true then ((impl_Machine_edges.f k l0_0).bind fun t578 => (some ((t578.length : Int), true))) else (some (0, false)))) = some (r1, r2) := h
 clear h
 replace H := oB_.mp H
 obtain ⟨t577, A20, H⟩ := H
 try dsimp only at H
 have A2 := aM_ A20
 clear A20
 by_cases c3 : t577 = true
 ·
  subst c3
  rw [if_pos rfl] at H
  replace H := oB_.mp H
  obtain ⟨t578, A40, H⟩ := H
  try dsimp only at H
  have A4 := aM_ A40
  clear A40
  simp only [Option.some.injEq, Prod.mk.injEq] at H
  obtain ⟨rfl, rfl⟩ := H
  go_enter Tryz.func25, Tryz.ntmps25
  go_wp2_with (first | (refine bx_ 1 #[.slice A0_0 l0_0.length c0_0] 33 ?_; intro gb576 hg w5 hbox hb; have BK576 := aM_ (hbox); have GW576 := gw_ hg HB; replace HB := b4_ HB hb; clear hb hbox hg; have hcz6_0 := c0_ BK576; have hfz6_0 := bF_ BK576.out 0) | (refine gs_ 5 Tryz.func23 #[.agg #[.slice A0_0 l0_0.length c0_0]] ?_; (with_reducible refine (impl_IsMachine.calls k _ _ l0_0 true _ ?side1 HC0_0.out A2.out).mono ?_); (case side1 => repeat (first | exact (k4_ HR0_0.out HB.out) | with_reducible first | apply cA_ | apply cN_ | apply cD_)); rintro e w7 ⟨rfl, hb⟩; refine ⟨_, rfl, ?_⟩; replace BK576 := b5_ BK576 hb; replace HB := b4_ HB hb; (try clear hb); have hcz8_0 := c0_ BK576; have hfz8_0 := bF_ BK576.out 0) | (refine gs_ 8 Tryz.func57 #[.agg #[.slice A0_0 l0_0.length c0_0]] ?_; (with_reducible refine (impl_Machine_edges.calls k _ _ l0_0 t578 _ ?side1 HC0_0.out A4.out).mono ?_); (case side1 => repeat (first | exact (k4_ HR0_0.out HB.out) | with_reducible first | apply cA_ | apply cN_ | apply cD_)); rintro e w9 ⟨v579, rfl, ho0, hb⟩; refine ⟨_, rfl, ?_⟩; have HO580 := aM_ (k5_ ho0 (bZ_ HB.out)); replace BK576 := b5_ BK576 hb; replace HB := b4_ HB hb; (try clear hb); (try clear ho0); obtain ⟨Ao10, co10, eo10⟩ := kS_ HO580.out; subst eo10))
  go_ret2
  exact ⟨by rfl, by exact HB.out⟩
 replace c3 := Bool.eq_false_iff.mpr c3
 subst c3
 replace H : (some (0, false)) = some (r1, r2) := by rw [if_neg (show ¬ (false = true) by decide)] at H; exact H
 simp only [Option.some.injEq, Prod.mk.injEq] at H
 obtain ⟨rfl, rfl⟩ := H
 go_enter Tryz.func25, Tryz.ntmps25
 go_wp2_with (first | (refine bx_ 1 #[.slice A0_0 l0_0.length c0_0] 33 ?_; intro gb576 hg w11 hbox hb; have BK576 := aM_ (hbox); have GW576 := gw_ hg HB; replace HB := b4_ HB hb; clear hb hbox hg; have hcz12_0 := c0_ BK576; have hfz12_0 := bF_ BK576.out 0) | (refine gs_ 5 Tryz.func23 #[.agg #[.slice A0_0 l0_0.length c0_0]] ?_; (with_reducible refine (impl_IsMachine.calls k _ _ l0_0 false _ ?side1 HC0_0.out A2.out).mono ?_); (case side1 => repeat (first | exact (k4_ HR0_0.out HB.out) | with_reducible first | apply cA_ | apply cN_ | apply cD_)); rintro e w13 ⟨rfl, hb⟩; refine ⟨_, rfl, ?_⟩; replace BK576 := b5_ BK576 hb; replace HB := b4_ HB hb; (try clear hb)))
 go_ret2
 exact ⟨by rfl, by exact HB.out⟩
def spec_CountEdges.l0 : Nat → Int → Int → List (S72) → Option (Int × Bool)
 | 0, _, _, _ => none
 | k + 1, x4, x5, x565000 => if x5 < (x565000.length : Int) then (if 0 ≤ x5 then (spec_CountEdges.l0 k (wrap64 (x4 + (((rd_T72 x565000 x5).f1).length : Int))) (wrap64 (x5 + 1)) x565000) else (none)) else (some (x4, true))
def spec_CountEdges.f (k : Nat) (l0_0 : List (S72)) : Option (Int × Bool) := (spec_l7Valid.f k l0_0).bind fun t565 => (if t565 = true then (spec_CountEdges.l0 k 0 0 l0_0) else (some (0, false)))
theorem spec_CountEdges.mono_l : ∀ k, (∀ y0 y1 y2, LeO (spec_CountEdges.l0 k y0 y1 y2) (spec_CountEdges.l0 (k + 1) y0 y1 y2))
 | 0 => fun _ _ _ r h => by simp [spec_CountEdges.l0] at h
 | k + 1 => by
  have ih0 := spec_CountEdges.mono_l k
  intro y0 y1 y2
  unfold spec_CountEdges.l0
  repeat' with_reducible first | exact ih0 _ _ _ | exact spec_l7Valid.mono _ _ | exact l3_ _ | exact l0_ _ | refine l2_ ?_ ?_ | refine l1_ ?_ (fun _ => ?_)
theorem spec_CountEdges.mono : ∀ a0 k, LeO (spec_CountEdges.f k a0) (spec_CountEdges.f (k + 1) a0) := by
 intro a0 k
 have ih0 := spec_CountEdges.mono_l k
 unfold spec_CountEdges.f
 repeat' with_reducible first | exact ih0 _ _ _ | exact spec_l7Valid.mono _ _ | exact l3_ _ | exact l0_ _ | refine l2_ ?_ ?_ | refine l1_ ?_ (fun _ => ?_)
theorem spec_CountEdges.calls (k : Nat) (A0_0 : Option Addr) (c0_0 : Nat) (l0_0 : List (S72)) (r1 : Int) (r2 : Bool) (w : World) (hr0_0 : Kd.C k72 w A0_0 l0_0.length l0_0) (hc0_0 : l0_0.length ≤ c0_0) (h : spec_CountEdges.f k l0_0 = some (r1, r2)) :
  Calls Tryz.prog 24 #[.agg #[.slice A0_0 l0_0.length c0_0]] w fun e w' => e = .returned (.tuple #[.int .i64 r1, .bool r2]) ∧ Below w.heap.size w w' := by
 have hu33 := Tryz.underlying33
 have HR0_0 := aM_ hr0_0
 have HC0_0 := aM_ hc0_0
 clear hr0_0 hc0_0
 have HB := aM_ (Below.refl w.heap.size w)
 have H : ((spec_l7Valid.f k l0_0).bind fun t565 => (if t565 = true then (spec_CountEdges.l0 k 0 0 l0_0) else (some (0, false)))) = some (r1, r2) := h
 clear h
 replace H := oB_.mp H
 obtain ⟨t565, A20, H⟩ := H
 try dsimp only at H
 have A2 := aM_ A20
 clear A20
 by_cases c3 : t565 = true
 rotate_left
 ·
  replace c3 := Bool.eq_false_iff.mpr c3
  subst c3
  replace H : (some (0, false)) = some (r1, r2) := by rw [if_neg (show ¬ (false = true) by decide)] at H; exact H
  simp only [Option.some.injEq, Prod.mk.injEq] at H
  obtain ⟨rfl, rfl⟩ := H
  go_enter Tryz.func24, Tryz.ntmps24
  go_wp2_with (first | (refine bx_ 1 #[.slice A0_0 l0_0.length c0_0] 33 ?_; intro gb564 hg w11 hbox hb; have BK564 := aM_ (hbox); have GW564 := gw_ hg HB; replace HB := b4_ HB hb; clear hb hbox hg; have hcz12_0 := c0_ BK564; have hfz12_0 := bF_ BK564.out 0) | (refine gs_ 7 Tryz.func47 #[.agg #[.slice A0_0 l0_0.length c0_0]] ?_; (with_reducible refine (spec_l7Valid.calls k _ _ l0_0 false _ ?side1 HC0_0.out A2.out).mono ?_); (case side1 => repeat (first | exact (k4_ HR0_0.out HB.out) | with_reducible first | apply cA_ | apply cN_ | apply cD_)); rintro e w13 ⟨rfl, hb⟩; refine ⟨_, rfl, ?_⟩; replace BK564 := b5_ BK564 hb; replace HB := b4_ HB hb; (try clear hb)))
  go_ret2
  exact ⟨by rfl, by exact HB.out⟩
 subst c3
 rw [if_pos rfl] at H
 have H' := aM_ H
 clear H
 go_enter Tryz.func24, Tryz.ntmps24
 go_wp2_with (first | (refine bx_ 1 #[.slice A0_0 l0_0.length c0_0] 33 ?_; intro gb564 hg w4 hbox hb; have BK564 := aM_ (hbox); have GW564 := gw_ hg HB; replace HB := b4_ HB hb; clear hb hbox hg; have hcz5_0 := c0_ BK564; have hfz5_0 := bF_ BK564.out 0) | (refine gs_ 7 Tryz.func47 #[.agg #[.slice A0_0 l0_0.length c0_0]] ?_; (with_reducible refine (spec_l7Valid.calls k _ _ l0_0 true _ ?side1 HC0_0.out A2.out).mono ?_); (case side1 => repeat (first | exact (k4_ HR0_0.out HB.out) | with_reducible first | apply cA_ | apply cN_ | apply cD_)); rintro e w6 ⟨rfl, hb⟩; refine ⟨_, rfl, ?_⟩; replace BK564 := b5_ BK564 hb; replace HB := b4_ HB hb; (try clear hb)))
 go_loopg [4, 5] k (fun kq v4 v5 w' => ∃ (x4_1 : Int) (x5_1 : Int), v4 = .int .i64 x4_1 ∧ v5 = .int .i64 x5_1 ∧ Aside0 (spec_CountEdges.l0 kq x4_1 x5_1 l0_0 = some (r1, r2)) ∧ Aside0 (kq ≤ k) ∧ Aside0 (w'.heap[gb564]? = some (.cells #[(.slice A0_0 l0_0.length c0_0)] 33 (0, 0))) ∧ Aside0 (Below w.heap.size w w'))
 case atStart => exact ⟨(0), (0), (by rfl), (by rfl), H', ⟨Nat.le_refl _⟩, ⟨BK564.out⟩, ⟨HB.out⟩⟩
 clear H'
 try clear p2
 try clear hcz5_0
 try clear hfz5_0
 obtain ⟨x4_1, x5_1, rfl, rfl, HA, HK1, BK564, HB⟩ := hrel
 cases gk with
 | zero => exact absurd HA.out (by simp [spec_CountEdges.l0])
 | succ k1 =>
  have H := HA.out
  clear HA
  simp only [spec_CountEdges.l0] at H
  by_cases c7 : x5_1 < (l0_0.length : Int)
  rotate_left
  ·
   rw [if_neg c7] at H
   have c7b0 := dF_ c7
   clear c7
   simp only [Option.some.injEq, Prod.mk.injEq] at H
   obtain ⟨rfl, rfl⟩ := H
   have hcz10_0 := c0_ BK564
   have hfz10_0 := bF_ BK564.out 0
   go_wp2
   go_ret2
   exact ⟨by rfl, by exact HB.out⟩
  rw [if_pos c7] at H
  have c7b0 := dT_ c7
  clear c7
  by_cases c8 : 0 ≤ x5_1
  rotate_left
  ·
   rw [if_neg c8] at H
   exact absurd H (by simp)
  rw [if_pos c8] at H
  have c8b0 := dT_ c8
  clear c8
  have H' := aM_ H
  clear H
  have hcz9_0 := c0_ BK564
  have hfz9_0 := bF_ BK564.out 0
  have p566 : 0 ≤ (x5_1 : Int) := oD_ ‹_›
  have q566 : x5_1 < (l0_0.length : Int) := oD_ ‹_›
  obtain ⟨ad566, A566_1, c566_1, e566, hx566_0, hx566_1, hl566_1, hi566_1⟩ := at_T72 HR0_0.out x5_1 p566 q566
  cases e566
  replace hx566_0 := cb_ HB hx566_0
  replace hx566_1 := cb_ HB hx566_1
  have HR566_1 := aM_ hi566_1
  have HC566_1 := aM_ hl566_1
  clear hi566_1 hl566_1
  replace p566 := eq_true p566
  replace q566 := eq_true q566
  go_wp2
  go_roundg k1
  case measure => have := HK1.out; omega
  case rel => exact ⟨(wrap64 (x4_1 + (((rd_T72 l0_0 x5_1).f1).length : Int))), (wrap64 (x5_1 + 1)), (by rfl), (by rfl), H', ⟨by have := HK1.out; omega⟩, ⟨BK564.out⟩, ⟨HB.out⟩⟩
def laws_FnExactCountEdges.j0 : Nat → Bool → List (S90) → List (S72) → Option (Bool)
 | 0, _, _, _ => none
 | k + 1, x34, x582000, x592000 => if x34 = true then (some false) else ((laws_toMachine.f k x582000).bind fun t594 => ((laws_eqMachine.f k x592000 t594).bind fun t597 => (if t597 = true then (some true) else (some false))))
def laws_FnExactCountEdges.f (k : Nat) (l0_0 : List (S90)) : Option (Bool) := (laws_szMachine.f k l0_0 1048576).bind fun t582 => (if t582 < 0 then (some true) else ((laws_toMachine.f k l0_0).bind fun t583 => ((spec_CountEdges.f k t583).bind fun bt586 => ((laws_toMachine.f k l0_0).bind fun t588 => ((impl_CountEdges.f k t588).bind fun bt592 => (if bt592.1 = bt586.1 then (laws_FnExactCountEdges.j0 k (bt592.2 != bt586.2) l0_0 t588) else (laws_FnExactCountEdges.j0 k true l0_0 t588)))))))
theorem laws_FnExactCountEdges.mono_l : ∀ k, (∀ y0 y1 y2, LeO (laws_FnExactCountEdges.j0 k y0 y1 y2) (laws_FnExactCountEdges.j0 (k + 1) y0 y1 y2))
 | 0 => fun _ _ _ r h => by simp [laws_FnExactCountEdges.j0] at h
 | k + 1 => by
  have ih0 := laws_FnExactCountEdges.mono_l k
  intro y0 y1 y2
  unfold laws_FnExactCountEdges.j0
  repeat' with_reducible first | exact ih0 _ _ _ | exact impl_CountEdges.mono _ _ | exact laws_eqMachine.mono _ _ _ | exact laws_szMachine.mono _ _ _ | exact laws_toMachine.mono _ _ | exact spec_CountEdges.mono _ _ | exact l3_ _ | exact l0_ _ | refine l2_ ?_ ?_ | refine l1_ ?_ (fun _ => ?_)
theorem laws_FnExactCountEdges.mono : ∀ a0 k, LeO (laws_FnExactCountEdges.f k a0) (laws_FnExactCountEdges.f (k + 1) a0) := by
 intro a0 k
 have ih0 := laws_FnExactCountEdges.mono_l k
 unfold laws_FnExactCountEdges.f
 repeat' with_reducible first | exact ih0 _ _ _ | exact impl_CountEdges.mono _ _ | exact laws_eqMachine.mono _ _ _ | exact laws_szMachine.mono _ _ _ | exact laws_toMachine.mono _ _ | exact spec_CountEdges.mono _ _ | exact l3_ _ | exact l0_ _ | refine l2_ ?_ ?_ | refine l1_ ?_ (fun _ => ?_)
theorem laws_FnExactCountEdges.calls (k : Nat) (A0_0 : Option Addr) (c0_0 : Nat) (l0_0 : List (S90)) (r : Bool) (w : World) (hr0_0 : Kd.C k90 w A0_0 l0_0.length l0_0) (hc0_0 : l0_0.length ≤ c0_0) (h : laws_FnExactCountEdges.f k l0_0 = some r) :
  Calls Tryz.prog 5 #[.agg #[.slice A0_0 l0_0.length c0_0]] w fun e w' => e = .returned (.bool r) ∧ Below w.heap.size w w' := by
 have hu24 := Tryz.underlying24
 have hu33 := Tryz.underlying33
 have HR0_0 := aM_ hr0_0
 have HC0_0 := aM_ hc0_0
 clear hr0_0 hc0_0
 have HB := aM_ (Below.refl w.heap.size w)
 have H : ((laws_szMachine.f k l0_0 1048576).bind fun t582 => (if t582 < 0 then (some true) else ((laws_toMachine.f k l0_0).bind fun t583 => ((spec_CountEdges.f k t583).bind fun bt586 => ((laws_toMachine.f k l0_0).bind fun t588 => ((impl_CountEdges.f k t588).bind fun bt592 => (if bt592.1 = bt586.1 then (laws_FnExactCountEdges.j0 k (bt592.2 != bt586.2) l0_0 t588) else (laws_FnExactCountEdges.j0 k true l0_0 t588)))))))) = some r := h
 clear h
 replace H := oB_.mp H
 obtain ⟨t582, A20, H⟩ := H
 try dsimp only at H
 have A2 := aM_ A20
 clear A20
 by_cases c3 : t582 < 0
 ·
  rw [if_pos c3] at H
  have c3b0 := dT_ c3
  clear c3
  obtain rfl := Option.some.inj H
  go_enter Tryz.func5, Tryz.ntmps5
  go_wp2_with (first | (refine bx_ 1 #[.slice A0_0 l0_0.length c0_0] 24 ?_; intro gb581 hg w4 hbox hb; have BK581 := aM_ (hbox); have GW581 := gw_ hg HB; replace HB := b4_ HB hb; clear hb hbox hg; have hcz5_0 := c0_ BK581; have hfz5_0 := bF_ BK581.out 0) | (refine gs_ 11 Tryz.func13 #[.agg #[.slice A0_0 l0_0.length c0_0], .int .i64 1048576] ?_; (with_reducible refine (laws_szMachine.calls k _ _ l0_0 1048576 t582 _ ?side1 HC0_0.out A2.out).mono ?_); (case side1 => repeat (first | exact (k4_ HR0_0.out HB.out) | with_reducible first | apply cA_ | apply cN_ | apply cD_)); rintro e w6 ⟨rfl, hb⟩; refine ⟨_, rfl, ?_⟩; replace BK581 := b5_ BK581 hb; replace HB := b4_ HB hb; (try clear hb)))
  go_ret
  exact ⟨by rfl, by exact HB.out⟩
 rw [if_neg c3] at H
 have c3b0 := dF_ c3
 clear c3
 replace H := oB_.mp H
 obtain ⟨t583, A70, H⟩ := H
 try dsimp only at H
 have A7 := aM_ A70
 clear A70
 replace H := oB_.mp H
 obtain ⟨⟨t586, t587⟩, A80, H⟩ := H
 try dsimp only at H
 have A8 := aM_ A80
 clear A80
 replace H := oB_.mp H
 obtain ⟨t588, A90, H⟩ := H
 try dsimp only at H
 have A9 := aM_ A90
 clear A90
 replace H := oB_.mp H
 obtain ⟨⟨t592, t593⟩, A100, H⟩ := H
 try dsimp only at H
 have A10 := aM_ A100
 clear A100
 have HC11 := aM_ H
 clear H
 go_enter Tryz.func5, Tryz.ntmps5
 go_upto_region 8 with (first | (refine bx_ 1 #[.slice A0_0 l0_0.length c0_0] 24 ?_; intro gb581 hg w12 hbox hb; have BK581 := aM_ (hbox); have GW581 := gw_ hg HB; replace HB := b4_ HB hb; clear hb hbox hg; have hcz13_0 := c0_ BK581; have hfz13_0 := bF_ BK581.out 0) | (refine gs_ 11 Tryz.func13 #[.agg #[.slice A0_0 l0_0.length c0_0], .int .i64 1048576] ?_; (with_reducible refine (laws_szMachine.calls k _ _ l0_0 1048576 t582 _ ?side1 HC0_0.out A2.out).mono ?_); (case side1 => repeat (first | exact (k4_ HR0_0.out HB.out) | with_reducible first | apply cA_ | apply cN_ | apply cD_)); rintro e w14 ⟨rfl, hb⟩; refine ⟨_, rfl, ?_⟩; replace BK581 := b5_ BK581 hb; replace HB := b4_ HB hb; (try clear hb); have hcz15_0 := c0_ BK581; have hfz15_0 := bF_ BK581.out 0) | (refine gs_ 16 Tryz.func15 #[.agg #[.slice A0_0 l0_0.length c0_0]] ?_; (with_reducible refine (laws_toMachine.calls k _ _ l0_0 t583 _ ?side1 HC0_0.out A7.out).mono ?_); (case side1 => repeat (first | exact (k4_ HR0_0.out HB.out) | with_reducible first | apply cA_ | apply cN_ | apply cD_)); rintro e w16 ⟨v584, rfl, ho0, hb⟩; refine ⟨_, rfl, ?_⟩; have HO585 := aM_ (Kd.S_lower ho0 (bZ_ HB.out)); replace BK581 := b5_ BK581 hb; replace HB := b4_ HB hb; (try clear hb); (try clear ho0); obtain ⟨Ao17, co17, eo17⟩ := Kd.S_slice HO585.out; subst eo17) | (refine gs_ 17 Tryz.func24 #[.agg #[.slice Ao17 t583.length co17]] ?_; (with_reducible refine (spec_CountEdges.calls k _ _ t583 t586 t587 _ ?side1 ?side2 A8.out).mono ?_); (case side1 => repeat (first | exact (Kd.S_reads' HO585.out).2.2 | with_reducible first | apply cA_ | apply cN_ | apply cD_)); (case side2 => exact (Kd.S_reads' HO585.out).2.1); rintro e w18 ⟨rfl, hb⟩; refine ⟨_, rfl, ?_⟩; replace HO585 := aM_ (Kd.S_below (by (with_reducible repeat (first | apply Kd.S_alloc | apply Kd.S_drewN | apply Kd.S_drew)); exact HO585.out) hb); replace BK581 := b5_ BK581 hb; replace HB := b4_ HB hb; (try clear hb); have hcz19_0 := c0_ BK581; have hfz19_0 := bF_ BK581.out 0) | (refine gs_ 21 Tryz.func15 #[.agg #[.slice A0_0 l0_0.length c0_0]] ?_; (with_reducible refine (laws_toMachine.calls k _ _ l0_0 t588 _ ?side1 HC0_0.out A9.out).mono ?_); (case side1 => repeat (first | exact (k4_ HR0_0.out HB.out) | with_reducible first | apply cA_ | apply cN_ | apply cD_)); rintro e w20 ⟨v589, rfl, ho0, hb⟩; refine ⟨_, rfl, ?_⟩; have HO590 := aM_ (Kd.S_lower (Kd.S_new' ho0 (Kd.S_lt (by (with_reducible repeat (first | apply Kd.S_alloc | apply Kd.S_drewN | apply Kd.S_drew)); exact HO585.out))) (bZ_ HB.out)); replace HO585 := aM_ (Kd.S_elder' (by (with_reducible repeat (first | apply Kd.S_alloc | apply Kd.S_drewN | apply Kd.S_drew)); exact HO585.out) (Kd.S_base ho0) hb); replace BK581 := b5_ BK581 hb; replace HB := b4_ HB hb; (try clear hb); (try clear ho0)) | (refine bx_ 6 #[.slice none 0 0] 33 ?_; intro gb591 hg w21 hbox hb; replace HO585 := aM_ (Kd.S_below (by (with_reducible repeat (first | apply Kd.S_alloc | apply Kd.S_drewN | apply Kd.S_drew)); exact HO585.out) hb); replace HO590 := aM_ (Kd.S_below (by (with_reducible repeat (first | apply Kd.S_alloc | apply Kd.S_drewN | apply Kd.S_drew)); exact HO590.out) hb); have BK591 := aM_ (hbox); have GW591 := gw_ hg HB; replace HB := b4_ HB hb; have NB581_591 := nb_ hg BK581; have NB591_581 := ns_ NB581_591; replace BK581 := b5_ BK581 hb; clear hb hbox hg; obtain ⟨Ao22, co22, eo22⟩ := Kd.S_slice HO590.out; subst eo22; have hnb23 := NB591_581.out; have hnc23 := NB581_591.out; have hcz24_0 := c0_ BK591; have hfz24_0 := bF_ BK591.out 0) | (refine gs_ 24 Tryz.func25 #[.agg #[.slice Ao22 t588.length co22]] ?_; (with_reducible refine (impl_CountEdges.calls k _ _ t588 t592 t593 _ ?side1 ?side2 A10.out).mono ?_); (case side1 => refine (Kd.S_reads' (e := 72) (base := w.heap.size) (ok := fun k_ => (True ∧ some k_ ≠ (.slice Ao17 t583.length co17 : Value).ownBlock)) (n := t588.length) (c := co22) ?_).2.2; exact (by (with_reducible repeat (first | apply Kd.S_alloc | apply Kd.S_drewN | apply Kd.S_drew)); exact (Kd.S_mono (Kd.S_far (p := ⟨gb591, 0, none⟩) (Kd.S_types HO590.out BK591.out (by decide)) (fun _ hk => hk.2) (.slice Ao22 t588.length co22)) (fun _ h_ => h_.1)))); (case side2 => exact (Kd.S_reads' HO590.out).2.1); rintro e w25 ⟨rfl, hb⟩; refine ⟨_, rfl, ?_⟩; replace HO585 := aM_ (Kd.S_below (by (with_reducible repeat (first | apply Kd.S_alloc | apply Kd.S_drewN | apply Kd.S_drew)); exact (Kd.S_mono (Kd.S_far (p := ⟨gb591, 0, none⟩) (Kd.S_types HO585.out BK591.out (by decide)) (fun _ hk => hk.2) (.slice Ao22 t588.length co22)) (fun _ h_ => h_.1))) hb); replace HO590 := aM_ (Kd.S_below (by (with_reducible repeat (first | apply Kd.S_alloc | apply Kd.S_drewN | apply Kd.S_drew)); exact (Kd.S_mono (Kd.S_far (p := ⟨gb591, 0, none⟩) (Kd.S_types HO590.out BK591.out (by decide)) (fun _ hk => hk.2) (.slice Ao22 t588.length co22)) (fun _ h_ => h_.1))) hb); replace BK581 := aM_ (bB_ (g := gb581) (o := .cells #[.slice A0_0 l0_0.length c0_0] 24 (0, 0)) (by exact br_ NB581_591.out (BK581.out)) hb); replace BK591 := aM_ (bB_ (g := gb591) (o := .cells #[.slice Ao22 t588.length co22] 33 (0, 0)) (by refine bP_ (cs := #[.slice none 0 0]) ?_ 0 _ rfl; exact BK591.out) hb); replace HB := aM_ (bT_ (by repeat with_reducible first | exact HB.out | apply bA_ | apply bN_ | apply bD_ | refine bS_ ?_ (Aside0.out ‹_›)) hb); (try clear hb)))
 (try simp only [Act.put, sA_, sB_, sC_])
 go_cut [34] (fun v34 wc => ∃ (kq : Nat) (x34_10 : Bool), v34 = .bool x34_10 ∧ Aside0 (laws_FnExactCountEdges.j0 kq x34_10 l0_0 t588 = some r) ∧ Aside0 (kq ≤ k) ∧ Aside0 (Kd.S k72 72 wc w.heap.size (fun _ => True) (.slice Ao22 t588.length co22) t588) ∧ Aside0 (wc.heap[gb581]? = some (.cells #[(.slice A0_0 l0_0.length c0_0)] 24 (0, 0))) ∧ Aside0 (wc.heap[gb591]? = some (.cells #[(.slice Ao22 t588.length co22)] 33 (0, 0))) ∧ Aside0 (Below w.heap.size w wc))
 case first =>
  have H := HC11.out
  clear HC11
  by_cases c26 : t592 = t586
  ·
   rw [if_pos c26] at H
   have c26b0 : (t592 == t586) = true := beq_iff_eq.mpr c26
   have c26b1 : (t592 != t586) = false := bne_eq_false_iff_eq.mpr c26
   clear c26
   (skip)
   have H' := aM_ H
   clear H
   go_wp2
   go_meet
   case rel => exact ⟨_, ((t593 != t587)), (by rfl), H', ⟨by omega⟩, ⟨by (with_reducible repeat (first | apply Kd.S_alloc | apply Kd.S_drewN | apply Kd.S_drew)); exact Kd.S_mono HO590.out (fun _ hk => trivial)⟩, ⟨BK581.out⟩, ⟨BK591.out⟩, ⟨HB.out⟩⟩
  rw [if_neg c26] at H
  have c26b0 : (t592 == t586) = false := beq_eq_false_iff_ne.mpr c26
  have c26b1 : (t592 != t586) = true := bne_iff_ne.mpr c26
  (skip)
  have H' := aM_ H
  clear H
  go_wp2
  go_meet
  case rel => exact ⟨_, (true), (by rfl), H', ⟨by omega⟩, ⟨by (with_reducible repeat (first | apply Kd.S_alloc | apply Kd.S_drewN | apply Kd.S_drew)); exact Kd.S_mono HO590.out (fun _ hk => trivial)⟩, ⟨BK581.out⟩, ⟨BK591.out⟩, ⟨HB.out⟩⟩
 clear HC11
 try clear p2
 try clear c3b0
 try clear c26b0
 try clear c26b1
 try clear hcz13_0
 try clear hcz15_0
 try clear hcz19_0
 try clear hcz24_0
 try clear hcz5_0
 try clear hfz13_0
 try clear hfz15_0
 try clear hfz19_0
 try clear hfz24_0
 try clear hfz5_0
 obtain ⟨kq, x34_10, rfl, HA, HJ10, HO_592000, BK581, BK591, HB⟩ := hcut
 cases kq with
 | zero => exact absurd HA.out (by simp [laws_FnExactCountEdges.j0])
 | succ kj10 =>
  have H := HA.out
  clear HA
  simp only [laws_FnExactCountEdges.j0] at H
  by_cases c27 : x34_10 = true
  ·
   subst c27
   rw [if_pos rfl] at H
   obtain rfl := Option.some.inj H
   go_wp2
   go_ret
   exact ⟨by rfl, by exact HB.out⟩
  replace c27 := Bool.eq_false_iff.mpr c27
  subst c27
  replace H : ((laws_toMachine.f kj10 l0_0).bind fun t594 => ((laws_eqMachine.f kj10 t588 t594).bind fun t597 => (if t597 = true then (some true) else (some false)))) = some r := by rw [if_neg (show ¬ (false = true) by decide)] at H; exact H
  replace H := oB_.mp H
  obtain ⟨t594, A280, H⟩ := H
  try dsimp only at H
  have A28 := aM_ A280
  clear A280
  replace H := oB_.mp H
  obtain ⟨t597, A290, H⟩ := H
  try dsimp only at H
  have A29 := aM_ A290
  clear A290
  by_cases c30 : t597 = true
  ·
   subst c30
   rw [if_pos rfl] at H
   obtain rfl := Option.some.inj H
   try go_wp2
   have n0_ := aM_ (Kd.S_drew HO_592000.out)
   have n1_ := aM_ (b1_ BK581.out)
   have n2_ := aM_ (b1_ BK591.out)
   have n3_ := aM_ (bD_ HB.out)
   clear HO_592000
   clear BK581
   clear BK591
   clear HB
   have HO_592000 := n0_
   have BK581 := n1_
   have BK591 := n2_
   have HB := n3_
   clear n0_ n1_ n2_ n3_
   refine start_ (n := 5) (S := fun w' => w'.cell? ⟨gb591, 0, none⟩ = some (.slice Ao22 t588.length co22) ∧ w'.cell? ⟨gb581, 0, none⟩ = some (.slice A0_0 l0_0.length c0_0)) (ds := []) #[fy, fy, fy, fy, fy] (by kernel_rfl) rfl rfl ⟨(bC_ BK591.out 0).trans rfl, (bC_ BK581.out 0).trans rfl⟩ (fun hHeld => ?_)
   generalize wc.drew = w31 at HO_592000 BK581 BK591 HB hHeld ⊢
   refine take_ (i := 0) (N := some 35) (v := ?_) (a' := ?_) #[ty, fy, fy, fy, fy] rfl rfl (by kernel_rfl) (fun _ _ _ h => h) (Or.inl ⟨by rfl, ?_⟩) hHeld ?_ ?_; rotate_left; (rintro w' ⟨s0, s1⟩; go_simp; with_reducible rfl); rotate_left; (simp only [Act.put, sA_, sB_, sC_, i6_, i3_]; rfl)
   refine take_ (i := 1) (N := some 36) (v := ?_) (a' := ?_) #[ty, ty, fy, fy, fy] rfl rfl (by kernel_rfl) (fun _ _ _ h => h) (Or.inl ⟨by rfl, ?_⟩) hHeld ?_ ?_; rotate_left; (rintro w' ⟨s0, s1⟩; go_simp; with_reducible rfl); rotate_left; (simp only [Act.put, sA_, sB_, sC_, i6_, i3_]; rfl)
   refine one_ (i := 2) (N := some 37) #[ty, ty, ty, fy, fy] rfl rfl (by kernel_rfl) (by decide) (fun K hK => ?_)
   refine goes_ Tryz.func15 (by kernel_rfl) rfl #[.agg #[.slice A0_0 l0_0.length c0_0]] (by rfl) rfl rfl (by (try simp only [sD_, sE_, sF_]); rfl) ?_
   with_reducible refine (laws_toMachine.calls kj10 _ _ l0_0 t594 _ ?side1 ?side2 A28.out).mono ?_
   (case side1 => repeat (first | exact (k4_ HR0_0.out HB.out) | with_reducible first | apply cA_ | apply cN_ | apply cD_))
   (case side2 => exact HC0_0.out)
   rintro e w32 ⟨v595, rfl, ho0, hb⟩
   refine ⟨_, rfl, ?_⟩
   have n0_ := aM_ (Kd.S_elder' (by (with_reducible repeat (first | apply Kd.S_alloc | apply Kd.S_drewN | apply Kd.S_drew)); exact HO_592000.out) (Kd.S_base ho0) hb)
   have n1_ := aM_ (Kd.S_lower (Kd.S_new' ho0 (Kd.S_lt (by (with_reducible repeat (first | apply Kd.S_alloc | apply Kd.S_drewN | apply Kd.S_drew)); exact HO_592000.out))) (bZ_ HB.out))
   have n2_ := b5_ BK581 hb
   have n3_ := b5_ BK591 hb
   have n4_ := b4_ HB hb
   clear HO_592000
   clear BK581
   clear BK591
   clear HB
   have HO_592000 := n0_
   have HO596 := n1_
   have BK581 := n2_
   have BK591 := n3_
   have HB := n4_
   clear n0_ n1_ n2_ n3_ n4_
   (try clear hb)
   (try clear ho0)
   obtain ⟨Ao33, co33, eo33⟩ := Kd.S_slice HO596.out
   (subst eo33)
   refine hK.out _ _ ⟨(bC_ BK591.out 0).trans rfl, (bC_ BK581.out 0).trans rfl⟩ (fun hHeld => ?_)
   clear hK K
   refine norm_ (by show Act.put _ (some 37) _ = _; simp only [Act.put, sA_, sB_, sC_, i6_, i3_]; rfl) ?_
   refine one_ (i := 3) (N := some 38) #[ty, ty, ty, ty, fy] rfl rfl (by kernel_rfl) (by decide) (fun K hK => ?_)
   refine goes_ Tryz.func18 (by kernel_rfl) rfl #[.agg #[.slice Ao22 t588.length co22], .agg #[.slice Ao33 t594.length co33]] (by rfl) rfl rfl (by (try simp only [sD_, sE_, sF_]); rfl) ?_
   with_reducible refine (laws_eqMachine.calls kj10 _ _ t588 _ _ t594 true _ ?side1 ?side2 ?side3 ?side4 A29.out).mono ?_
   (case side1 => repeat (first | exact (Kd.S_reads' HO_592000.out).2.2 | with_reducible first | apply cA_ | apply cN_ | apply cD_))
   (case side2 => exact (Kd.S_reads' HO_592000.out).2.1)
   (case side3 => repeat (first | exact (Kd.S_reads' HO596.out).2.2 | with_reducible first | apply cA_ | apply cN_ | apply cD_))
   (case side4 => exact (Kd.S_reads' HO596.out).2.1)
   rintro e w34 ⟨rfl, hb⟩
   refine ⟨_, rfl, ?_⟩
   have n0_ := aM_ (Kd.S_below (by (with_reducible repeat (first | apply Kd.S_alloc | apply Kd.S_drewN | apply Kd.S_drew)); exact HO_592000.out) hb)
   have n1_ := aM_ (Kd.S_below (by (with_reducible repeat (first | apply Kd.S_alloc | apply Kd.S_drewN | apply Kd.S_drew)); exact HO596.out) hb)
   have n2_ := b5_ BK581 hb
   have n3_ := b5_ BK591 hb
   have n4_ := b4_ HB hb
   clear HO_592000
   clear HO596
   clear BK581
   clear BK591
   clear HB
   have HO_592000 := n0_
   have HO596 := n1_
   have BK581 := n2_
   have BK591 := n3_
   have HB := n4_
   clear n0_ n1_ n2_ n3_ n4_
   (try clear hb)
   refine hK.out _ _ ⟨(bC_ BK591.out 0).trans rfl, (bC_ BK581.out 0).trans rfl⟩ (fun hHeld => ?_)
   clear hK K
   refine norm_ (by show Act.put _ (some 38) _ = _; simp only [Act.put, sA_, sB_, sC_, i6_, i3_]; rfl) ?_
   refine pure_ (i := 4) (N := some 39) (v := ?_) (a' := ?_) #[ty, ty, ty, ty, ty] rfl rfl (by kernel_rfl) (fun _ _ _ h => h) (Or.inl ⟨by rfl, ?_⟩) ?_ ?_; rotate_left; (intro w'; go_simp; with_reducible rfl); rotate_left; (simp only [Act.put, sA_, sB_, sC_, i6_, i3_]; rfl)
   refine done_ (by kernel_rfl) ?_
   try go_wp2
   go_ret
   exact ⟨by rfl, by exact HB.out⟩
  replace c30 := Bool.eq_false_iff.mpr c30
  subst c30
  replace H : (some false) = some r := by rw [if_neg (show ¬ (false = true) by decide)] at H; exact H
  obtain rfl := Option.some.inj H
  try go_wp2
  have n0_ := aM_ (Kd.S_drew HO_592000.out)
  have n1_ := aM_ (b1_ BK581.out)
  have n2_ := aM_ (b1_ BK591.out)
  have n3_ := aM_ (bD_ HB.out)
  clear HO_592000
  clear BK581
  clear BK591
  clear HB
  have HO_592000 := n0_
  have BK581 := n1_
  have BK591 := n2_
  have HB := n3_
  clear n0_ n1_ n2_ n3_
  refine start_ (n := 5) (S := fun w' => w'.cell? ⟨gb591, 0, none⟩ = some (.slice Ao22 t588.length co22) ∧ w'.cell? ⟨gb581, 0, none⟩ = some (.slice A0_0 l0_0.length c0_0)) (ds := []) #[fy, fy, fy, fy, fy] (by kernel_rfl) rfl rfl ⟨(bC_ BK591.out 0).trans rfl, (bC_ BK581.out 0).trans rfl⟩ (fun hHeld => ?_)
  generalize wc.drew = w35 at HO_592000 BK581 BK591 HB hHeld ⊢
  refine take_ (i := 0) (N := some 35) (v := ?_) (a' := ?_) #[ty, fy, fy, fy, fy] rfl rfl (by kernel_rfl) (fun _ _ _ h => h) (Or.inl ⟨by rfl, ?_⟩) hHeld ?_ ?_; rotate_left; (rintro w' ⟨s0, s1⟩; go_simp; with_reducible rfl); rotate_left; (simp only [Act.put, sA_, sB_, sC_, i6_, i3_]; rfl)
  refine take_ (i := 1) (N := some 36) (v := ?_) (a' := ?_) #[ty, ty, fy, fy, fy] rfl rfl (by kernel_rfl) (fun _ _ _ h => h) (Or.inl ⟨by rfl, ?_⟩) hHeld ?_ ?_; rotate_left; (rintro w' ⟨s0, s1⟩; go_simp; with_reducible rfl); rotate_left; (simp only [Act.put, sA_, sB_, sC_, i6_, i3_]; rfl)
  refine one_ (i := 2) (N := some 37) #[ty, ty, ty, fy, fy] rfl rfl (by kernel_rfl) (by decide) (fun K hK => ?_)
  refine goes_ Tryz.func15 (by kernel_rfl) rfl #[.agg #[.slice A0_0 l0_0.length c0_0]] (by rfl) rfl rfl (by (try simp only [sD_, sE_, sF_]); rfl) ?_
  with_reducible refine (laws_toMachine.calls kj10 _ _ l0_0 t594 _ ?side1 ?side2 A28.out).mono ?_
  (case side1 => repeat (first | exact (k4_ HR0_0.out HB.out) | with_reducible first | apply cA_ | apply cN_ | apply cD_))
  (case side2 => exact HC0_0.out)
  rintro e w36 ⟨v595, rfl, ho0, hb⟩
  refine ⟨_, rfl, ?_⟩
  have n0_ := aM_ (Kd.S_elder' (by (with_reducible repeat (first | apply Kd.S_alloc | apply Kd.S_drewN | apply Kd.S_drew)); exact HO_592000.out) (Kd.S_base ho0) hb)
  have n1_ := aM_ (Kd.S_lower (Kd.S_new' ho0 (Kd.S_lt (by (with_reducible repeat (first | apply Kd.S_alloc | apply Kd.S_drewN | apply Kd.S_drew)); exact HO_592000.out))) (bZ_ HB.out))
  have n2_ := b5_ BK581 hb
  have n3_ := b5_ BK591 hb
  have n4_ := b4_ HB hb
  clear HO_592000
  clear BK581
  clear BK591
  clear HB
  have HO_592000 := n0_
  have HO596 := n1_
  have BK581 := n2_
  have BK591 := n3_
  have HB := n4_
  clear n0_ n1_ n2_ n3_ n4_
  (try clear hb)
  (try clear ho0)
  obtain ⟨Ao37, co37, eo37⟩ := Kd.S_slice HO596.out
  (subst eo37)
  refine hK.out _ _ ⟨(bC_ BK591.out 0).trans rfl, (bC_ BK581.out 0).trans rfl⟩ (fun hHeld => ?_)
  clear hK K
  refine norm_ (by show Act.put _ (some 37) _ = _; simp only [Act.put, sA_, sB_, sC_, i6_, i3_]; rfl) ?_
  refine one_ (i := 3) (N := some 38) #[ty, ty, ty, ty, fy] rfl rfl (by kernel_rfl) (by decide) (fun K hK => ?_)
  refine goes_ Tryz.func18 (by kernel_rfl) rfl #[.agg #[.slice Ao22 t588.length co22], .agg #[.slice Ao37 t594.length co37]] (by rfl) rfl rfl (by (try simp only [sD_, sE_, sF_]); rfl) ?_
  with_reducible refine (laws_eqMachine.calls kj10 _ _ t588 _ _ t594 false _ ?side1 ?side2 ?side3 ?side4 A29.out).mono ?_
  (case side1 => repeat (first | exact (Kd.S_reads' HO_592000.out).2.2 | with_reducible first | apply cA_ | apply cN_ | apply cD_))
  (case side2 => exact (Kd.S_reads' HO_592000.out).2.1)
  (case side3 => repeat (first | exact (Kd.S_reads' HO596.out).2.2 | with_reducible first | apply cA_ | apply cN_ | apply cD_))
  (case side4 => exact (Kd.S_reads' HO596.out).2.1)
  rintro e w38 ⟨rfl, hb⟩
  refine ⟨_, rfl, ?_⟩
  have n0_ := aM_ (Kd.S_below (by (with_reducible repeat (first | apply Kd.S_alloc | apply Kd.S_drewN | apply Kd.S_drew)); exact HO_592000.out) hb)
  have n1_ := aM_ (Kd.S_below (by (with_reducible repeat (first | apply Kd.S_alloc | apply Kd.S_drewN | apply Kd.S_drew)); exact HO596.out) hb)
  have n2_ := b5_ BK581 hb
  have n3_ := b5_ BK591 hb
  have n4_ := b4_ HB hb
  clear HO_592000
  clear HO596
  clear BK581
  clear BK591
  clear HB
  have HO_592000 := n0_
  have HO596 := n1_
  have BK581 := n2_
  have BK591 := n3_
  have HB := n4_
  clear n0_ n1_ n2_ n3_ n4_
  (try clear hb)
  refine hK.out _ _ ⟨(bC_ BK591.out 0).trans rfl, (bC_ BK581.out 0).trans rfl⟩ (fun hHeld => ?_)
  clear hK K
  refine norm_ (by show Act.put _ (some 38) _ = _; simp only [Act.put, sA_, sB_, sC_, i6_, i3_]; rfl) ?_
  refine pure_ (i := 4) (N := some 39) (v := ?_) (a' := ?_) #[ty, ty, ty, ty, ty] rfl rfl (by kernel_rfl) (fun _ _ _ h => h) (Or.inl ⟨by rfl, ?_⟩) ?_ ?_; rotate_left; (intro w'; go_simp; with_reducible rfl); rotate_left; (simp only [Act.put, sA_, sB_, sC_, i6_, i3_]; rfl)
  refine done_ (by kernel_rfl) ?_
  try go_wp2
  go_ret
  exact ⟨by rfl, by exact HB.out⟩
def laws_FnExactCountEdges.Pure : Prop := ∀ (l0_0 : List S90), l0_0.length ≤ 9223372036854775807 → (∀ x ∈ l0_0, x.f1.length ≤ 9223372036854775807) → ∃ k, laws_FnExactCountEdges.f k l0_0 = some true
theorem laws_FnExactCountEdges.walk (P : laws_FnExactCountEdges.Pure) (w : World) (A0 : Option Addr) (c0 : Nat) (l0_0 : List S90) (hr0 : Kd.C k90 w A0 l0_0.length l0_0) (hc0 : l0_0.length ≤ c0) :
  Calls Tryz.prog 5 #[.agg #[.slice A0 l0_0.length c0]] w fun e w' => e = .returned (.bool true) ∧ Below w.heap.size w w' := by
 obtain ⟨k, h⟩ := P l0_0 hr0.2.1 (by intro x hx; obtain ⟨i, hi, rfl⟩ := List.getElem_of_mem hx; obtain ⟨_, _, _, _, _, _, _, h9⟩ := at_T90 hr0 (i : Int) (by omega) (by omega); have h8 := h9.2.1; unfold rd_T90 at h8; rw [Int.toNat_natCast, List.getD_eq_getElem?_getD, List.getElem?_eq_getElem hi] at h8; exact h8)
 refine (laws_FnExactCountEdges.calls k _ _ l0_0 true w hr0 hc0 h).mono ?_
 rintro e w' ⟨rfl, hd⟩
 exact ⟨rfl, hd⟩
end Go.Proofs.YtnnkedeohfbkeaaGreatDoor.P
namespace Go.Proofs.YtnnkedeohfbkeaaGreatDoor.Pure
open Go.RowKit Go.Proofs.YtnnkedeohfbkeaaGreatDoor.P Go.Proofs.YtnnkedeohfbkeaaGreatDoor.M Go.Proofs.YtnnkedeohfbkeaaGreatDoorW.PrintWords Go.Proofs.YtnnkedeohfbkeaaGreatDoorW.PrintLast Go.Proofs.YtnnkedeohfbkeaaGreatDoorW.PrintMore
open Go.Proofs.YtnnkedeohfbkeaaGreatDoor.L
open Mach
def sumE (m : List Stt) : Nat := (m.map fun x => x.f1.length).sum
theorem spec_sum (m : List Stt) (hl : m.length ≤ 481) (hx : ∀ x ∈ m, x.f1.length ≤ 26) : ∀ (d i s : Nat), i + d = m.length → s ≤ 26 * i → Ev (fun k => spec_CountEdges.l0 k (s : Int) (i : Int) m) (((s + sumE (m.drop i) : Nat) : Int), true) := by
 intro d
 induction d with
 | zero =>
  intro i s hi hs
  rw [List.drop_eq_nil_of_le (by omega)]
  exact Ev.step (fun k => spec_CountEdges.l0.eq_2 ..) (Ev.ifF (by omega) (Ev.now _))
 | succ d ih =>
  intro i s hi hs
  have hil : i < m.length := by omega
  have h26 := hx _ (List.getElem_mem hil)
  refine Ev.step (fun k => spec_CountEdges.l0.eq_2 ..) (Ev.ifT (by omega) (Ev.ifT (by omega) ?_))
  rw [rd_st hil, wrap64_succ i (by omega), wrap64_id (by omega) (by omega), ← Int.natCast_add]
  have := ih (i + 1) (s + m[i].f1.length) (by omega) (by omega)
  rw [List.drop_eq_getElem_cons hil]
  have e : sumE (m[i] :: m.drop (i + 1)) = m[i].f1.length + sumE (m.drop (i + 1)) := by unfold sumE; rw [List.map_cons, List.sum_cons]
  rw [e, ← Nat.add_assoc]
  exact this
theorem impl_edges (m : List Stt) (hl : m.length ≤ 481) (hx : ∀ x ∈ m, x.f1.length ≤ 26) : ∀ (d i : Nat) (out : List Edg), i + d = m.length → out.length ≤ 26 * i → ∃ r : List Edg, r.length = out.length + sumE (m.drop i) ∧ Ev (fun k => impl_Machine_edges.l0 k out m (m.length : Int) (i : Int)) r := by
 intro d
 induction d with
 | zero =>
  intro i out hi ho
  refine ⟨out, ?_, Ev.step (fun k => impl_Machine_edges.l0.eq_2 ..) (Ev.ifF (by omega) (Ev.now _))⟩
  rw [List.drop_eq_nil_of_le (by omega)]
  rfl
 | succ d ih =>
  intro i out hi ho
  have hil : i < m.length := by omega
  have h26 := hx _ (List.getElem_mem hil)
  obtain ⟨r, hr, he⟩ := ih (i + 1) (out ++ m[i].f1) (by omega) (by rw [List.length_append]; omega)
  refine ⟨r, ?_, Ev.step (fun k => impl_Machine_edges.l0.eq_2 ..) (Ev.ifT (by omega) (Ev.ifT (by omega) (Ev.ifT (by omega) ?_)))⟩
  ·
   have e : sumE (m[i] :: m.drop (i + 1)) = m[i].f1.length + sumE (m.drop (i + 1)) := by unfold sumE; rw [List.map_cons, List.sum_cons]
   rw [hr, List.drop_eq_getElem_cons hil, e, List.length_append]
   omega
  rw [rd_st hil, wrap64_succ i (by omega)]
  exact Ev.ifT (by omega) he
theorem both (m : List Stt) (hx : ∀ x ∈ m, x.f1.length ≤ 1048576) : ∃ r : Int × Bool, Ev (fun k => spec_CountEdges.f k m) r ∧ Ev (fun k => impl_CountEdges.f k m) r := by
 unfold spec_CountEdges.f impl_CountEdges.f impl_IsMachine.f impl_Machine_edges.f
 rcases mach_both m hx with ⟨ws, h, rfl, h1, h2⟩ | ⟨h1, h2⟩
 ·
  have hl : (machW ws).length ≤ 481 := by rw [machW_length]; exact dL_length h
  have s := spec_sum (machW ws) hl (fun x hx => machW_edges x hx) (machW ws).length 0 0 (by omega) (by omega)
  obtain ⟨r, hr, he⟩ := impl_edges (machW ws) hl (fun x hx => machW_edges x hx) (machW ws).length 0 [] (by omega) (by simp)
  refine ⟨_, Ev.bind h1 (Ev.ifT rfl s), Ev.bind (Ev.bind h2 (Ev.now _)) (Ev.ifT rfl (Ev.bind he ?_))⟩
  rw [hr]
  simp only [List.length_nil]
  exact Ev.now _
 exact ⟨(0, false), Ev.bind h1 (Ev.ifF Bool.false_ne_true (Ev.now _)), Ev.bind (Ev.bind h2 (Ev.now _)) (Ev.ifF Bool.false_ne_true (Ev.now _))⟩
theorem FnExactCountEdges : laws_FnExactCountEdges.Pure := by
 intro l hl hx
 refine Ev.rounds ?_
 unfold laws_FnExactCountEdges.f
 obtain ⟨c, hc, hr⟩ := szMachine_ev l hl hx
 refine Ev.bind hc ?_
 rcases hr with hneg | ⟨h0, h1, h2⟩
 ·
  exact Ev.ifT hneg (Ev.now _)
 obtain ⟨r, e1, e2⟩ := both (toM l) (toM_edges h2)
 have ht := toMachine_ev l h1 h2
 have he := MMk.eqMachine_ev (toM l) (by rw [toM_length]; omega) (fun x hx => by have := toM_edges h2 x hx; omega)
 exact Ev.ifF (by omega) (Ev.bind ht (Ev.bind e1 (Ev.bind ht (Ev.bind e2 (Ev.ifT rfl (Ev.step (fun k => laws_FnExactCountEdges.j0.eq_2 ..) (Ev.ifF (by simp) (Ev.bind ht (Ev.bind he (Ev.ifT rfl (Ev.now _)))))))))))
end Go.Proofs.YtnnkedeohfbkeaaGreatDoor.Pure
namespace Go.Proofs.YtnnkedeohfbkeaaGreatDoor.fnExactCountEdges
open Go.ChangeShapes Go.WideShapes Go.ChangeAt Go.RowKit Go.Proofs.YtnnkedeohfbkeaaGreatDoor.P
open Go.ChangeMaps (open_string shut_string)
def laidL : List (String × DataW Unit) := [("unicode/utf8.acceptRanges", Rows.laid_unicode_utf8_acceptRanges), ("unicode/utf8.first", Rows.laid_unicode_utf8_first)]
theorem own : ownKnob Tryz.prog.godebug = none := by kernel_rfl
theorem laidOut : laidOutB Tryz.prog = true := by kernel_rfl
theorem lifted (os : Os) (started : os.Started) (H : Type) (enc : TypeId × Value → H) :
    ReturnsInHanded {} Tryz.checked os 5 .any (fun w args => (Rows.fnExactCountEdgesSpec.pre enc Tryz.prog Tryz.f5 [] false w args ∧ laidMetH Tryz.prog laidL w) ∧ sizedMet enc Tryz.prog Tryz.f5 (OpenSpec.ofChange Rows.fnExactCountEdgesSpec) false w args) (Rows.fnExactCountEdgesSpec.post enc Tryz.prog Tryz.f5 false true false false) := by
  refine returnsInHanded_of_change_and (C := Tryz.checked) (X := fun w _ => laidMetH Tryz.prog laidL w) (fun _ _ _ hh h => h.of_heap hh) own started (by kernel_rfl) Tryz.func5
    (ChangeSpec.witness_shaped (enc := enc) (C := Tryz.checked) (os := os) (X := fun w _ => laidMetH Tryz.prog laidL w) false (World.laidAll Tryz.prog os laidL) #[.agg #[.slice none 0 0]] 8 (World.laidAll_os _ _ _) (World.shaped_of_ZipB (by kernel_rfl) (by kernel_rfl)) (by kernel_rfl) (by kernel_rfl) (by kernel_rfl)
      (by rw [MakeChecks.laidMetH_plain _ _ _ (by kernel_rfl)]; exact laidMet_laidAll _ (by kernel_rfl) (by kernel_rfl))) ?_
  intro W base args ds gs before hval0 hW hcnd hsz0 hL_ _
  have hsz : (DataW.weightsEach Tryz.prog (Tryz.f5.params.toList ++ Rows.fnExactCountEdgesSpec.plain.varTypes Tryz.prog) (ds ++ gs)).all (· ≤ reachBytes) = true := hsz0
  have hval : ∀ (j : Nat) t v, Tryz.f5.params[j]? = some t → args[j]? = some v → Value.okWide Tryz.prog W .any base t v := hval0
  have hW' := hW
  obtain ⟨p, q, hA0, hV, rfl, hfz, hnd⟩ := hW
  have hA : DataW.TrodAll enc Tryz.prog W 0 (fun _ => true) true Tryz.f5.params.toList args.toList ds p := hA0
  rw [Tryz.params5] at hA hval hsz
  obtain ⟨v0, vs0, d0, ds0, p0, q0, hargs, rfl, rfl, h0, r0⟩ := trodAll_cons hA
  obtain ⟨rfl, rfl, rfl⟩ := trodAll_nil r0
  obtain rfl : args = #[v0] := by cases args; simp_all
  obtain ⟨rfl, rfl⟩ := trodVars_none hV
  have k0 := h0
  have lt0 : ∀ x ∈ p0, x.block < W.heap.size := by obtain ⟨m, hm⟩ := k0; exact DataW.trod_lt m _ _ _ hm
  obtain ⟨A0, c0, l0, ev0, hc0, hr0⟩ := OM.machine (hval 0 24 v0 rfl rfl) h0
  subst ev0
  clear hA0 hval0 hsz0 hsz
  refine (laws_FnExactCountEdges.walk Pure.FnExactCountEdges W A0 c0 l0 hr0 hc0).mono fun e W' ⟨he, bel⟩ => ?_
  subst he
  exact ⟨_, rfl, _, _, _, [], _, [], hW', trodAll_mk1 (shut_bool Tryz.underlying4 _), (trodAll_cons_mk (Below.trod laidOut (by kernel_rfl) (of_decide_eq_true (by kernel_rfl)) k0 bel lt0) trodAll_mk0), rfl, bel.frame _, fun h => by cases h⟩
theorem over : Rows.fnExactCountEdgesRow.holds Tryz.pinned (OpenSpec.ofChange Rows.fnExactCountEdgesSpec) :=
  OpenClaim.holds_of_wide 5 Tryz.f5 rfl rfl rfl rfl rfl rfl rfl ⟨rfl, rfl, rfl, rfl, rfl⟩ rfl rfl rfl rfl rfl (by kernel_rfl) Tryz.func5 (by kernel_rfl)
    (of_decide_eq_true (by kernel_rfl)) (by unfold Func.isWrapper; first | (rw [if_pos (by decide +kernel)]; kernel_rfl) | (rw [if_neg (by decide +kernel)]; exact ⟨rfl, rfl⟩))
    (fun os started H enc _ => lifted os started H enc)
theorem proved : Rows.FnExactCountEdgesSaid := over
end Go.Proofs.YtnnkedeohfbkeaaGreatDoor.fnExactCountEdges
namespace Go.Proofs.YtnnkedeohfbkeaaGreatDoor
theorem fnExactCountEdges_holds : Rows.FnExactCountEdgesSaid := fnExactCountEdges.proved
theorem fnExactCountEdges_card : Rows.FnExactCountEdgesCardSaid :=
  Claim7.holds_tied_plain_at .later [] [.data, .pinned] true (true, "d24746f385e5a6b2389916c9b9ccdfc43770af261716950c3f87901a77ac8579") false
    fnExactCountEdges_holds (fun _ h => by cases h) (by kernel_rfl) (fun _ h => by cases h) fnExactCountEdges_row_tie rfl ⟨rfl, rfl⟩ (by kernel_rfl) rfl
    (fun f fn hf hfn => by
      obtain rfl : f = 5 := Option.some.inj ((show Tryz.prog.funcNamed "loop.example/g01243/laws.FnExactCountEdges" = some 5 by kernel_rfl).symm.trans hf) |>.symm
      obtain rfl : fn = Tryz.f5 := (Option.some.inj (Tryz.func5.symm.trans hfn)).symm
      exact ⟨by kernel_rfl, fun j t ht => by
        rw [Tryz.params5] at ht
        have hm : t ∈ [24] := by simpa using Array.mem_of_getElem? ht
        have hall : ([24].all fun u => !Tryz.prog.wantsStandIn u) = true := by kernel_rfl
        exact (show Tryz.prog.wantsStandIn t = false by simpa using List.all_eq_true.1 hall t hm)⟩)
    (by kernel_rfl)
end Go.Proofs.YtnnkedeohfbkeaaGreatDoor
