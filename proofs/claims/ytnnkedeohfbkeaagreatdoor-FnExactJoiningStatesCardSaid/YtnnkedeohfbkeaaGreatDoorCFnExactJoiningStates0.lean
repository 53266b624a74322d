/-
  Part 1 of the proof that FnExactJoiningStates returns true for every input: the functions that it reaches, each with its contract, and the law.
  Conditions: those of the given statement, no others.
-/
import Derived.Test.YtnnkedeohfbkeaaGreatDoorKNW0
import Derived.Shelf.Abstract
import Derived.Deep.RegionHeld3
import Derived.Test.YtnnkedeohfbkeaaGreatDoorRows
import Derived.WalkKit
import Derived.ProofKit
import Derived.OpenShut
import Derived.ShutString
import Derived.ChangeOld
import Derived.Below
import Derived.SizedLaws
import Derived.Lay
import Derived.LaidOnce
import Derived.SevenTiedAt
import Derived.Test.YtnnkedeohfbkeaaGreatDoorCards
import Derived.Test.YtnnkedeohfbkeaaGreatDoorTie
import Derived.Test.YtnnkedeohfbkeaaGreatDoorKN0
import Derived.Test.YtnnkedeohfbkeaaGreatDoorKN2
import Derived.Test.YtnnkedeohfbkeaaGreatDoorKN3
import Derived.Test.YtnnkedeohfbkeaaGreatDoorKN4
set_option linter.unusedVariables false
set_option linter.unusedSimpArgs false
set_option maxHeartbeats 8000000
set_option maxRecDepth 100000
namespace Go.Proofs.YtnnkedeohfbkeaaGreatDoor.P
open Go.RowKit Go.Proofs.YtnnkedeohfbkeaaGreatDoorW.PrintWords Go.Proofs.YtnnkedeohfbkeaaGreatDoorW.PrintLast Go.Proofs.YtnnkedeohfbkeaaGreatDoorW.PrintMore
open Go.Proofs.YtnnkedeohfbkeaaGreatDoorW.PrintWords renaming blk_frozen → bF_, blk_cell → bC_, below_set → bS_, blk_below → bB_, below_step → bT_, pw_below_drewN → bN_, below_size → bZ_, below_drew1 → bD_, below_alloc → bA_, blk_far → bR_, gate_callee → gC_, gate_dst → gD_, box_event → bE_, blk_drew → b1_, blk_put → bP_, blk_drewN → b2_, blk_alloc → b3_, blk_lt → bL_, cell_far → cF_
open Go.Proofs.YtnnkedeohfbkeaaGreatDoorW.PrintLast renaming any_of → aO_, i64_w → i6_, i32_w → i3_, take_ofW → tW_
open Go.Proofs.YtnnkedeohfbkeaaGreatDoorW.PrintWords.Kd renaming R_below → kB_, R_mono → kM_, R_far → kF_, R_reads' → kR_, R_types → kT_, R_slice → kS_, R_celln → kC_, R_alloc → k1_, R_drewN → k2_, R_drew → k3_, C_below → k4_, R_lower → k5_, R_ne → k6_, own_blk → k7_
open Go.Proofs.YtnnkedeohfbkeaaGreatDoorW.PrintWords.LeO renaming none → l0_, bind → l1_, ite → l2_, refl → l3_
open World renaming block_lt_of_cell? → wB_
open _root_.Option renaming bind_eq_some_iff → oB_
open _root_.ByteArray renaming empty → eB_
open List renaming setIfInBounds_toArray → sA_, set_cons_zero → sB_, set_cons_succ → sC_, map_toArray → sD_, map_cons → sE_, map_nil → sF_, length_drop → sG_, length_take → sH_
open Bool renaming true → ty, false → fy
open Aside0 renaming mk → aM_
attribute [local go_sem] max2_int min2_int max_two min_two max_three min_three max_four min_four
def impl_IsMachine.f (k : Nat) (l0_0 : List (S72)) : Option (Bool) := (impl_Machine_open.f k l0_0).bind fun bt504 => (some bt504.2)
theorem impl_IsMachine.mono : ∀ a0 k, LeO (impl_IsMachine.f k a0) (impl_IsMachine.f (k + 1) a0) := by
 intro a0 k
 unfold impl_IsMachine.f
 repeat' with_reducible first | exact impl_Machine_open.mono _ _ | exact l3_ _ | exact l0_ _ | refine l2_ ?_ ?_ | refine l1_ ?_ (fun _ => ?_)
theorem impl_IsMachine.calls (k : Nat) (A0_0 : Option Addr) (c0_0 : Nat) (l0_0 : List (S72)) (r : Bool) (w : World) (hr0_0 : Kd.C k72 w A0_0 l0_0.length l0_0) (hc0_0 : l0_0.length ≤ c0_0) (h : impl_IsMachine.f k l0_0 = some r) :
  Calls Tryz.prog 23 #[.agg #[.slice A0_0 l0_0.length c0_0]] w fun e w' => e = .returned (.bool r) ∧ Below w.heap.size w w' := by
 have hu33 := Tryz.underlying33
 have hu28 := Tryz.underlying28
 have HR0_0 := aM_ hr0_0
 have HC0_0 := aM_ hc0_0
 clear hr0_0 hc0_0
 have HB := aM_ (Below.refl w.heap.size w)
 have H : ((impl_Machine_open.f k l0_0).bind fun bt504 => (some bt504.2)) = some r := h
 clear h
 replace H := oB_.mp H
 obtain ⟨⟨t504, t507⟩, A20, H⟩ := H
 try dsimp only at H
 have A2 := aM_ A20
 clear A20
 obtain rfl := Option.some.inj H
 go_enter Tryz.func23, Tryz.ntmps23
 go_wp2_with (first | (refine bx_ 1 #[.slice A0_0 l0_0.length c0_0] 33 ?_; intro gb503 hg w3 hbox hb; have BK503 := aM_ (hbox); have GW503 := gw_ hg HB; replace HB := b4_ HB hb; clear hb hbox hg; have hcz4_0 := c0_ BK503; have hfz4_0 := bF_ BK503.out 0) | (refine gs_ 7 Tryz.func51 #[.agg #[.slice A0_0 l0_0.length c0_0]] ?_; (with_reducible refine (impl_Machine_open.calls k _ _ l0_0 t504 t507 _ ?side1 HC0_0.out A2.out).mono ?_); (case side1 => repeat (first | exact (k4_ HR0_0.out HB.out) | with_reducible first | apply cA_ | apply cN_ | apply cD_)); rintro e w5 ⟨v505, rfl, ho0, hb⟩; refine ⟨_, rfl, ?_⟩; have HO506 := aM_ (k5_ ho0 (bZ_ HB.out)); replace BK503 := b5_ BK503 hb; replace HB := b4_ HB hb; (try clear hb); (try clear ho0)) | (refine bx_ 3 #[.slice none 0 0] 28 ?_; intro gb508 hg w6 hbox hb; replace HO506 := k9_ HO506 hb; have BK508 := aM_ (hbox); have GW508 := gw_ hg HB; replace HB := b4_ HB hb; have NB503_508 := nb_ hg BK503; have NB508_503 := ns_ NB503_508; replace BK503 := b5_ BK503 hb; clear hb hbox hg; obtain ⟨Ao7, co7, eo7⟩ := kS_ HO506.out; subst eo7; have hnb8 := NB508_503.out; have hnc8 := NB503_508.out; have hcz9_0 := c0_ BK508; have hfz9_0 := bF_ BK508.out 0))
 go_ret
 exact ⟨by rfl, by repeat with_reducible first | exact HB.out | apply bA_ | apply bN_ | apply bD_ | refine bS_ ?_ (Aside0.out ‹_›)⟩
def impl_Machine_edges.l0 : Nat → List (S88) → List (S72) → Int → Int → Option ((List (S88)))
 | 0, _, _, _, _ => none
 | k + 1, x3, x8, x9, x10 => if x10 < x9 then (if 0 ≤ x10 then (if x10 < (x8.length : Int) then (if x3.length + ((rd_T72 x8 x10).f1).length < 8796093022208 then (impl_Machine_edges.l0 k (x3 ++ ((rd_T72 x8 x10).f1)) x8 x9 (wrap64 (x10 + 1))) else (none)) else (none)) else (none)) else (some x3)
def impl_Machine_edges.f (k : Nat) (l0_0 : List (S72)) : Option ((List (S88))) := impl_Machine_edges.l0 k (([] : List (S88))) l0_0 (l0_0.length : Int) 0
theorem impl_Machine_edges.mono_l : ∀ k, (∀ y0 y1 y2 y3, LeO (impl_Machine_edges.l0 k y0 y1 y2 y3) (impl_Machine_edges.l0 (k + 1) y0 y1 y2 y3))
 | 0 => fun _ _ _ _ r h => by simp [impl_Machine_edges.l0] at h
 | k + 1 => by
  have ih0 := impl_Machine_edges.mono_l k
  intro y0 y1 y2 y3
  unfold impl_Machine_edges.l0
  repeat' with_reducible first | exact ih0 _ _ _ _ | exact l3_ _ | exact l0_ _ | refine l2_ ?_ ?_ | refine l1_ ?_ (fun _ => ?_)
theorem impl_Machine_edges.mono : ∀ a0 k, LeO (impl_Machine_edges.f k a0) (impl_Machine_edges.f (k + 1) a0) := by
 intro a0 k
 have ih0 := impl_Machine_edges.mono_l k
 unfold impl_Machine_edges.f
 repeat' with_reducible first | exact ih0 _ _ _ _ | exact l3_ _ | exact l0_ _ | refine l2_ ?_ ?_ | refine l1_ ?_ (fun _ => ?_)
theorem impl_Machine_edges.calls (k : Nat) (A0_0 : Option Addr) (c0_0 : Nat) (l0_0 : List (S72)) (r : List (S88)) (w : World) (hr0_0 : Kd.C k72 w A0_0 l0_0.length l0_0) (hc0_0 : l0_0.length ≤ c0_0) (h : impl_Machine_edges.f k l0_0 = some r) :
  Calls Tryz.prog 57 #[.agg #[.slice A0_0 l0_0.length c0_0]] w fun e w' => ∃ v0_ : Value, e = .returned (v0_) ∧ Kd.R k88 88 w' w.heap.size (fun _ => True) v0_ r ∧ Below w.heap.size w w' := by
 have hu33 := Tryz.underlying33
 have hu72 := Tryz.underlying72
 have HR0_0 := aM_ hr0_0
 have HC0_0 := aM_ hc0_0
 clear hr0_0 hc0_0
 have HB := aM_ (Below.refl w.heap.size w)
 have H : (impl_Machine_edges.l0 k (([] : List (S88))) l0_0 (l0_0.length : Int) 0) = some r := h
 clear h
 obtain ⟨y528, hy528⟩ : ∃ y_ : List (S88), y_ = (([] : List (S88))) := ⟨_, rfl⟩
 replace H : (impl_Machine_edges.l0 k y528 l0_0 (l0_0.length : Int) 0) = some r := by (try rw [hy528]); first | with_reducible exact H | with_reducible exact oS_ H | exact H
 have Ny528 := aM_ hy528
 clear hy528
 have H' := aM_ H
 clear H
 go_enter Tryz.func57, Tryz.ntmps57
 go_wp2_with (first | (refine bx_ 1 #[.slice A0_0 l0_0.length c0_0] 33 ?_; intro gb527 hg w2 hbox hb; have BK527 := aM_ (hbox); have GW527 := gw_ hg HB; replace HB := b4_ HB hb; clear hb hbox hg) | ((with_reducible refine gD_ (N := 6) rfl ?_); refine Kd.R_lit k88 _ 88 ?hg (N := 6) ?hd (xs := ([] : List (S88))) (inner := []) (ok := fun _ => True) (okp := fun _ => True) ?hr ?hp (fun _ hk => hk) trivial (Below.refl _ _) (Nat.le_refl _) (by simp) ?_; (case hd => rfl); (case hg => rfl); (case hr => (go_simp; done)); (case hp => exact (Reps.none _ _)); intro v529 w3 ho4 hb hg_ hnew_; clear hg_ hnew_; (rw [← Ny528.out] at ho4); have HO530 := aM_ (k5_ ho4 (bZ_ HB.out)); replace BK527 := b5_ BK527 hb; replace HB := b4_ HB hb; clear hb ho4; have hcz5_0 := c0_ BK527; have hfz5_0 := bF_ BK527.out 0))
 go_loopg [3, 10] k (fun kq v3 v10 w' => ∃ (x3_1 : List (S88)) (x10_1 : Int), v10 = .int .i64 x10_1 ∧ Aside0 (impl_Machine_edges.l0 kq x3_1 l0_0 (l0_0.length : Int) x10_1 = some r) ∧ Aside0 (kq ≤ k) ∧ Aside0 (Kd.R k88 88 w' w.heap.size (fun _ => True) v3 x3_1) ∧ Aside0 (w'.heap[gb527]? = some (.cells #[(.slice A0_0 l0_0.length c0_0)] 33 (0, 0))) ∧ Aside0 (Below w.heap.size w w'))
 case atStart => exact ⟨(y528), (0), (by rfl), H', ⟨Nat.le_refl _⟩, ⟨HO530.out⟩, ⟨BK527.out⟩, ⟨HB.out⟩⟩
 clear H'
 try clear p2
 try clear hcz5_0
 try clear hfz5_0
 obtain ⟨x3_1, x10_1, rfl, HA, HK1, HO_3, BK527, HB⟩ := hrel
 cases gk with
 | zero => exact absurd HA.out (by simp [impl_Machine_edges.l0])
 | succ k1 =>
  have H := HA.out
  clear HA
  simp only [impl_Machine_edges.l0] at H
  by_cases c6 : x10_1 < (l0_0.length : Int)
  rotate_left
  ·
   rw [if_neg c6] at H
   have c6b0 := dF_ c6
   clear c6
   obtain rfl := Option.some.inj H
   go_wp2
   go_ret
   exact ⟨_, by rfl, by exact HO_3.out, by exact HB.out⟩
  rw [if_pos c6] at H
  have c6b0 := dT_ c6
  clear c6
  by_cases c7 : 0 ≤ x10_1
  rotate_left
  ·
   rw [if_neg c7] at H
   exact absurd H (by simp)
  rw [if_pos c7] at H
  have c7b0 := dT_ c7
  clear c7
  by_cases c8 : x10_1 < (l0_0.length : Int)
  rotate_left
  ·
   rw [if_neg c8] at H
   exact absurd H (by simp)
  rw [if_pos c8] at H
  have c8b0 := dT_ c8
  clear c8
  by_cases c9 : x3_1.length + ((rd_T72 l0_0 x10_1).f1).length < 8796093022208
  rotate_left
  ·
   rw [if_neg c9] at H
   exact absurd H (by simp)
  rw [if_pos c9] at H
  have LMc9 := aM_ c9
  clear c9
  obtain ⟨y533, hy533⟩ : ∃ y_ : List (S88), y_ = (x3_1 ++ ((rd_T72 l0_0 x10_1).f1)) := ⟨_, rfl⟩
  replace H : (impl_Machine_edges.l0 k1 y533 l0_0 (l0_0.length : Int) (wrap64 (x10_1 + 1))) = some r := by (try rw [hy533]); first | with_reducible exact H | with_reducible exact oS_ H | exact H
  have Ny533 := aM_ hy533
  clear hy533
  have H' := aM_ H
  clear H
  have p531 : 0 ≤ (x10_1 : Int) := oD_ ‹_›
  have q531 : x10_1 < (l0_0.length : Int) := oD_ ‹_›
  obtain ⟨ad531, A531_1, c531_1, e531, hx531_0, hx531_1, hl531_1, hi531_1⟩ := at_T72 HR0_0.out x10_1 p531 q531
  cases e531
  replace hx531_0 := cb_ HB hx531_0
  replace hx531_1 := cb_ HB hx531_1
  have HR531_1 := aM_ hi531_1
  have HC531_1 := aM_ hl531_1
  clear hi531_1 hl531_1
  replace p531 := eq_true p531
  replace q531 := eq_true q531
  go_wp2_with (first | (refine bx_ 5 #[.bool false, .slice none 0 0] 72 ?_; intro gb532 hg w10 hbox hb; replace HO_3 := k9_ HO_3 hb; have BK532 := aM_ (hbox); have GW532 := gw_ hg HB; replace HB := b4_ HB hb; have NB527_532 := nb_ hg BK527; have NB532_527 := ns_ NB527_532; replace BK527 := b5_ BK527 hb; clear hb hbox hg; have hnb11 := NB532_527.out; have hnc11 := NB527_532.out; have hcz12_0 := c0_ BK532; have hcz12_1 := c1_ BK532; have hfz12_0 := bF_ BK532.out 0; have hfz12_1 := bF_ BK532.out 1) | ((with_reducible refine gate_builtin (b := .append) (xs := #[.tmp 14, .tmp 16]) rfl ?_); at_builtin; refine Kd.R_append_rows k88 (w0 := w) w.heap.size rfl (.tmp 14) (.tmp 16) 70 88 (.agg #[(.int .i64 0), (.int .i64 0)]) 16 rfl Tryz.underlying70 info88 rfl (by decide) (by omega) u3 x3_1 ((rd_T72 l0_0 x10_1).f1) _ _ _ (fun _ => True) (fun _ => False) rfl rfl ?aO ?aR (fun _ _ h => h) (fun _ h => h.elim) ?aF ?aB ?aS ?aL ?_; (case aR => exact k4_ HR531_1.out (by repeat with_reducible first | exact HB.out | apply bA_ | apply bN_ | apply bD_ | refine bS_ ?_ (Aside0.out ‹_›))); (case aB => exact (by repeat with_reducible first | exact HB.out | apply bA_ | apply bN_ | apply bD_ | refine bS_ ?_ (Aside0.out ‹_›))); (case aF => exact (fun _ _ => trivial)); (case aO => exact (by exact kM_ (kG_ (kG_ (kT_ HO_3.out BK532.out (by decide)))) (fun _ hk => trivial))); (case aS => exact (bZ_ (by repeat with_reducible first | exact HB.out | apply bA_ | apply bN_ | apply bD_ | refine bS_ ?_ (Aside0.out ‹_›)))); (case aL => have := LMc9.out; omega); intro v534 w13 ho hb hg hat; rw [← Ny533.out] at ho; have n0_ := aM_ (blk_grown (g := gb527) (o := .cells #[.slice (some ad531) l0_0.length c0_0] 33 (0, 0)) (by exact br_ NB527_532.out (br_ NB527_532.out (BK527.out))) hg (k6_ HO_3.out BK527.out (by decide))); have n1_ := aM_ (blk_grown (g := gb532) (o := .cells #[.bool ((rd_T72 l0_0 x10_1).f0), .slice A531_1 ((rd_T72 l0_0 x10_1).f1).length c531_1] 72 (0, 0)) (by refine bP_ (cs := #[.bool ((rd_T72 l0_0 x10_1).f0), .slice none 0 0]) ?_ 1 _ rfl; refine bP_ (cs := #[.bool false, .slice none 0 0]) ?_ 0 _ rfl; exact BK532.out) hg (k6_ HO_3.out BK532.out (by decide))); have n2_ := aM_ (hb); have n3_ := aM_ (ho); clear BK527; clear BK532; clear HB; clear HO_3; have BK527 := n0_; have BK532 := n1_; have HB := n2_; have HO535 := n3_; clear n0_ n1_ n2_ n3_; clear ho hb hg hat))
  go_roundg k1
  case measure => have := HK1.out; omega
  case rel => exact ⟨(y533), (wrap64 (x10_1 + 1)), (by rfl), H', ⟨by have := HK1.out; omega⟩, ⟨HO535.out⟩, ⟨BK527.out⟩, ⟨HB.out⟩⟩
mutual
def impl_JoiningStates.l0 : Nat → List Int → List Int → List (S88) → Int → Int → Option (List Int × Bool)
 | 0, _, _, _, _, _ => none
 | k + 1, x4, x5, x19, x20, x21 => if x21 < x20 then (if 0 ≤ x21 then (if x21 < (x19.length : Int) then (if 0 ≤ ((rd_T88 x19 x21).f1) then (if ((rd_T88 x19 x21).f1) < (x4.length : Int) then (impl_JoiningStates.l0 k (x4.set (((rd_T88 x19 x21).f1) : Int).toNat (wrap64 ((rd x4 ((rd_T88 x19 x21).f1)) + 1))) x5 x19 x20 (wrap64 (x21 + 1))) else (none)) else (none)) else (none)) else (none)) else (impl_JoiningStates.l1 k x5 x4 (x4.length : Int) 0)
def impl_JoiningStates.l1 : Nat → List Int → List Int → Int → Int → Option (List Int × Bool)
 | 0, _, _, _, _ => none
 | k + 1, x5, x33, x34, x35 => if x35 < x34 then (if 0 ≤ x35 then (if x35 < (x33.length : Int) then (if (rd x33 x35) > 1 then (if x5.length < 17592186044416 then (impl_JoiningStates.l1 k (x5 ++ [x35]) x33 x34 (wrap64 (x35 + 1))) else (none)) else (impl_JoiningStates.l1 k x5 x33 x34 (wrap64 (x35 + 1)))) else (none)) else (none)) else (some (x5, true))
end
def impl_JoiningStates.f (k : Nat) (l0_0 : List (S72)) : Option (List Int × Bool) := (impl_IsMachine.f k l0_0).bind fun t846 => (if t846 = true then (if 0 ≤ (l0_0.length : Int) then (if ((l0_0.length : Int) : Int).toNat ≤ 35184372088832 then ((impl_Machine_edges.f k l0_0).bind fun t853 => (impl_JoiningStates.l0 k (List.replicate ((l0_0.length : Int) : Int).toNat 0) (([] : List Int)) t853 (t853.length : Int) 0)) else (none)) else (none)) else (some (([] : List Int), false)))
theorem impl_JoiningStates.mono_l : ∀ k, (∀ y0 y1 y2 y3 y4, LeO (impl_JoiningStates.l0 k y0 y1 y2 y3 y4) (impl_JoiningStates.l0 (k + 1) y0 y1 y2 y3 y4)) ∧ (∀ y0 y1 y2 y3, LeO (impl_JoiningStates.l1 k y0 y1 y2 y3) (impl_JoiningStates.l1 (k + 1) y0 y1 y2 y3))
 | 0 => ⟨fun _ _ _ _ _ r h => by simp [impl_JoiningStates.l0] at h, fun _ _ _ _ r h => by simp [impl_JoiningStates.l1] at h⟩
 | k + 1 => by
  obtain ⟨ih0, ih1⟩ := impl_JoiningStates.mono_l k
  refine ⟨?_, ?_⟩
  ·
   intro y0 y1 y2 y3 y4
   unfold impl_JoiningStates.l0
   repeat' with_reducible first | exact ih0 _ _ _ _ _ | exact ih1 _ _ _ _ | exact impl_IsMachine.mono _ _ | exact impl_Machine_edges.mono _ _ | exact l3_ _ | exact l0_ _ | refine l2_ ?_ ?_ | refine l1_ ?_ (fun _ => ?_)
  intro y0 y1 y2 y3
  unfold impl_JoiningStates.l1
  repeat' with_reducible first | exact ih0 _ _ _ _ _ | exact ih1 _ _ _ _ | exact impl_IsMachine.mono _ _ | exact impl_Machine_edges.mono _ _ | exact l3_ _ | exact l0_ _ | refine l2_ ?_ ?_ | refine l1_ ?_ (fun _ => ?_)
theorem impl_JoiningStates.mono : ∀ a0 k, LeO (impl_JoiningStates.f k a0) (impl_JoiningStates.f (k + 1) a0) := by
 intro a0 k
 obtain ⟨ih0, ih1⟩ := impl_JoiningStates.mono_l k
 unfold impl_JoiningStates.f
 repeat' with_reducible first | exact ih0 _ _ _ _ _ | exact ih1 _ _ _ _ | exact impl_IsMachine.mono _ _ | exact impl_Machine_edges.mono _ _ | exact l3_ _ | exact l0_ _ | refine l2_ ?_ ?_ | refine l1_ ?_ (fun _ => ?_)
theorem impl_JoiningStates.calls (k : Nat) (A0_0 : Option Addr) (c0_0 : Nat) (l0_0 : List (S72)) (r1 : List Int) (r2 : Bool) (w : World) (hr0_0 : Kd.C k72 w A0_0 l0_0.length l0_0) (hc0_0 : l0_0.length ≤ c0_0) (h : impl_JoiningStates.f k l0_0 = some (r1, r2)) :
  Calls Tryz.prog 42 #[.agg #[.slice A0_0 l0_0.length c0_0]] w fun e w' => ∃ v0_ : Value, e = .returned (.tuple #[v0_, .bool r2]) ∧ Kd.R (Kd.int .i64) 3 w' w.heap.size (fun _ => True) v0_ r1 ∧ Below w.heap.size w w' := by
 have hu33 := Tryz.underlying33
 have hu88 := Tryz.underlying88
 have HR0_0 := aM_ hr0_0
 have HC0_0 := aM_ hc0_0
 clear hr0_0 hc0_0
 have HB := aM_ (Below.refl w.heap.size w)
 have H : ((impl_IsMachine.f k l0_0).bind fun t846 => (if t846 = true then (if 0 ≤ (l0_0.length : Int) then (if ((l0_0.length : Int) : Int).toNat ≤ 35184372088832 then ((impl_Machine_edges.f k l0_0).bind fun t853 => (impl_JoiningStates.l0 k (List.replicate ((l0_0.length : Int) : Int).toNat 0) (([] : List Int)) t853 (t853.length : Int) 0)) else (none)) else (none)) else (some (([] : List Int), false)))) = some (r1, r2) := h
 clear h
 replace H := oB_.mp H
 obtain ⟨t846, A20, H⟩ := H
 try dsimp only at H
 have A2 := aM_ A20
 clear A20
 by_cases c3 : t846 = true
 rotate_left
 ·
  replace c3 := Bool.eq_false_iff.mpr c3
  subst c3
  replace H : (some (([] : List Int), false)) = some (r1, r2) := by rw [if_neg (show ¬ (false = true) by decide)] at H; exact H
  simp only [Option.some.injEq, Prod.mk.injEq] at H
  obtain ⟨rfl, rfl⟩ := H
  go_enter Tryz.func42, Tryz.ntmps42
  go_wp2_with (first | (refine bx_ 1 #[.slice A0_0 l0_0.length c0_0] 33 ?_; intro gb845 hg w39 hbox hb; have BK845 := aM_ (hbox); have GW845 := gw_ hg HB; replace HB := b4_ HB hb; clear hb hbox hg; have hcz40_0 := c0_ BK845; have hfz40_0 := bF_ BK845.out 0) | (refine gs_ 11 Tryz.func23 #[.agg #[.slice A0_0 l0_0.length c0_0]] ?_; (with_reducible refine (impl_IsMachine.calls k _ _ l0_0 false _ ?side1 HC0_0.out A2.out).mono ?_); (case side1 => repeat (first | exact (k4_ HR0_0.out HB.out) | with_reducible first | apply cA_ | apply cN_ | apply cD_)); rintro e w41 ⟨rfl, hb⟩; refine ⟨_, rfl, ?_⟩; replace BK845 := b5_ BK845 hb; replace HB := b4_ HB hb; (try clear hb)))
  go_ret2
  exact ⟨_, by rfl, by exact Kd.R_nil _ _ _ _ _, by exact HB.out⟩
 subst c3
 rw [if_pos rfl] at H
 by_cases c4 : 0 ≤ (l0_0.length : Int)
 rotate_left
 ·
  rw [if_neg c4] at H
  exact absurd H (by simp)
 rw [if_pos c4] at H
 have c4b0 := eq_true c4
 have c4b1 := dT_ c4
 clear c4
 by_cases c5 : ((l0_0.length : Int) : Int).toNat ≤ 35184372088832
 rotate_left
 ·
  rw [if_neg c5] at H
  exact absurd H (by simp)
 rw [if_pos c5] at H
 have c5b0 := eq_true c5
 have c5b1 := dT_ c5
 clear c5
 obtain ⟨y847, hy847⟩ : ∃ y_ : List Int, y_ = (List.replicate ((l0_0.length : Int) : Int).toNat 0) := ⟨_, rfl⟩
 replace H : ((impl_Machine_edges.f k l0_0).bind fun t853 => (impl_JoiningStates.l0 k y847 (([] : List Int)) t853 (t853.length : Int) 0)) = some (r1, r2) := by (try rw [hy847]); first | with_reducible exact H | with_reducible exact oS_ H | exact H
 have Ny847 := aM_ hy847
 clear hy847
 obtain ⟨y850, hy850⟩ : ∃ y_ : List Int, y_ = (([] : List Int)) := ⟨_, rfl⟩
 replace H : ((impl_Machine_edges.f k l0_0).bind fun t853 => (impl_JoiningStates.l0 k y847 y850 t853 (t853.length : Int) 0)) = some (r1, r2) := by (try rw [hy850]); first | with_reducible exact H | with_reducible exact oS_ H | exact H
 have Ny850 := aM_ hy850
 clear hy850
 replace H := oB_.mp H
 obtain ⟨t853, A60, H⟩ := H
 try dsimp only at H
 have A6 := aM_ A60
 clear A60
 have H' := aM_ H
 clear H
 go_enter Tryz.func42, Tryz.ntmps42
 go_wp2_with (first | (refine bx_ 1 #[.slice A0_0 l0_0.length c0_0] 33 ?_; intro gb845 hg w7 hbox hb; have BK845 := aM_ (hbox); have GW845 := gw_ hg HB; replace HB := b4_ HB hb; clear hb hbox hg; have hcz8_0 := c0_ BK845; have hfz8_0 := bF_ BK845.out 0) | (refine gs_ 11 Tryz.func23 #[.agg #[.slice A0_0 l0_0.length c0_0]] ?_; (with_reducible refine (impl_IsMachine.calls k _ _ l0_0 true _ ?side1 HC0_0.out A2.out).mono ?_); (case side1 => repeat (first | exact (k4_ HR0_0.out HB.out) | with_reducible first | apply cA_ | apply cN_ | apply cD_)); rintro e w9 ⟨rfl, hb⟩; refine ⟨_, rfl, ?_⟩; replace BK845 := b5_ BK845 hb; replace HB := b4_ HB hb; (try clear hb); have hcz10_0 := c0_ BK845; have hfz10_0 := bF_ BK845.out 0) | ((with_reducible refine gD_ (N := 16) rfl ?_); refine Kd.R_make (Kd.int .i64) _ 3 rfl (N := 16) rfl 56 _ _ rfl (l0_0.length : Int) rfl rfl Tryz.underlying56 (.int .i64 0) 8 info3 rfl (by decide) (by omega) 0 (ok := fun _ => True) (okp := fun _ => True) rfl (fun _ hk => hk) trivial (oD_ ‹_›) (Nat.le_trans (Nat.mul_le_mul_right _ (oD_ ‹_› : (l0_0.length : Int).toNat ≤ 35184372088832)) (by omega)) (Below.refl _ _) (Nat.le_refl _) ?_; intro v848 w11 ho12 hb hg_ hnew_; clear hg_ hnew_; (rw [← Ny847.out] at ho12); have HO849 := aM_ (k5_ ho12 (bZ_ HB.out)); replace BK845 := b5_ BK845 hb; replace HB := b4_ HB hb; clear hb ho12) | ((with_reducible refine gD_ (N := 17) rfl ?_); refine Kd.R_lit (Kd.int .i64) _ 3 ?hg (N := 17) ?hd (xs := ([] : List Int)) (inner := []) (ok := fun _ => True) (okp := fun _ => True) ?hr ?hp (fun _ hk => hk) trivial (Below.refl _ _) (Nat.le_refl _) (by simp) ?_; (case hd => rfl); (case hg => rfl); (case hr => (go_simp; done)); (case hp => exact (Reps.none _ _)); intro v851 w13 ho14 hb hg_ hnew_; clear hg_ hnew_; (rw [← Ny850.out] at ho14); have HO852 := aM_ (k5_ (Kd.R_new' ho14 (Kd.R_lt HO849.out)) (bZ_ HB.out)); replace HO849 := aM_ (Kd.R_elder' HO849.out (Kd.R_base ho14) hb); replace BK845 := b5_ BK845 hb; replace HB := b4_ HB hb; clear hb ho14; have hcz15_0 := c0_ BK845; have hfz15_0 := bF_ BK845.out 0) | (refine gs_ 19 Tryz.func57 #[.agg #[.slice A0_0 l0_0.length c0_0]] ?_; (with_reducible refine (impl_Machine_edges.calls k _ _ l0_0 t853 _ ?side1 HC0_0.out A6.out).mono ?_); (case side1 => repeat (first | exact (k4_ HR0_0.out HB.out) | with_reducible first | apply cA_ | apply cN_ | apply cD_)); rintro e w16 ⟨v854, rfl, ho0, hb⟩; refine ⟨_, rfl, ?_⟩; replace HO849 := k9_ HO849 hb; replace HO852 := k9_ HO852 hb; have HO855 := aM_ (k5_ ho0 (bZ_ HB.out)); replace BK845 := b5_ BK845 hb; replace HB := b4_ HB hb; (try clear hb); (try clear ho0); obtain ⟨Ao17, co17, eo17⟩ := kS_ HO855.out; subst eo17))
 go_loopg [21] k (fun kq v21 w' => ∃ (x4_1 : List Int) (x21_1 : Int), v21 = .int .i64 x21_1 ∧ Aside0 (impl_JoiningStates.l0 kq x4_1 y850 t853 (t853.length : Int) x21_1 = some (r1, r2)) ∧ Aside0 (kq ≤ k) ∧ Aside0 (Kd.R (Kd.int .i64) 3 w' w.heap.size (fun k_ => some k_ ≠ (v851 : Value).ownBlock) v848 x4_1) ∧ Aside0 (Kd.R (Kd.int .i64) 3 w' w.heap.size (fun k_ => some k_ ≠ (v848 : Value).ownBlock) v851 y850) ∧ Aside0 (Kd.R k88 88 w' w.heap.size (fun _ => True) (.slice Ao17 t853.length co17) t853) ∧ Aside0 (w'.heap[gb845]? = some (.cells #[(.slice A0_0 l0_0.length c0_0)] 33 (0, 0))) ∧ Aside0 (Below w.heap.size w w'))
 case atStart => exact ⟨(y847), (0), (by rfl), H', ⟨Nat.le_refl _⟩, ⟨by exact kM_ HO849.out (fun _ hk => hk.2)⟩, ⟨by exact kM_ HO852.out (fun _ hk => hk.2)⟩, ⟨HO855.out⟩, ⟨BK845.out⟩, ⟨HB.out⟩⟩
 clear H'
 try clear p2
 try clear c4b0
 try clear c4b1
 try clear c5b0
 try clear c5b1
 try clear hcz10_0
 try clear hcz15_0
 try clear hcz8_0
 try clear hfz10_0
 try clear hfz15_0
 try clear hfz8_0
 obtain ⟨x4_1, x21_1, rfl, HA, HK1, HO_4, HO_5, HO_19, BK845, HB⟩ := hrel
 cases gk with
 | zero => exact absurd HA.out (by simp [impl_JoiningStates.l0])
 | succ k1 =>
  have H := HA.out
  clear HA
  simp only [impl_JoiningStates.l0] at H
  by_cases c18 : x21_1 < (t853.length : Int)
  ·
   rw [if_pos c18] at H
   have c18b0 := dT_ c18
   clear c18
   by_cases c19 : 0 ≤ x21_1
   rotate_left
   ·
    rw [if_neg c19] at H
    exact absurd H (by simp)
   rw [if_pos c19] at H
   have c19b0 := dT_ c19
   clear c19
   by_cases c20 : x21_1 < (t853.length : Int)
   rotate_left
   ·
    rw [if_neg c20] at H
    exact absurd H (by simp)
   rw [if_pos c20] at H
   have c20b0 := dT_ c20
   clear c20
   by_cases c21 : 0 ≤ ((rd_T88 t853 x21_1).f1)
   rotate_left
   ·
    rw [if_neg c21] at H
    exact absurd H (by simp)
   rw [if_pos c21] at H
   have c21b0 := dT_ c21
   clear c21
   by_cases c22 : ((rd_T88 t853 x21_1).f1) < (x4_1.length : Int)
   rotate_left
   ·
    rw [if_neg c22] at H
    exact absurd H (by simp)
   rw [if_pos c22] at H
   have c22b0 := dT_ c22
   clear c22
   obtain ⟨y859, hy859⟩ : ∃ y_ : List Int, y_ = (x4_1.set (((rd_T88 t853 x21_1).f1) : Int).toNat (wrap64 ((rd x4_1 ((rd_T88 t853 x21_1).f1)) + 1))) := ⟨_, rfl⟩
   replace H : (impl_JoiningStates.l0 k1 y859 y850 t853 (t853.length : Int) (wrap64 (x21_1 + 1))) = some (r1, r2) := by (try rw [hy859]); first | with_reducible exact H | with_reducible exact oS_ H | exact H
   have Ny859 := aM_ hy859
   clear hy859
   have H' := aM_ H
   clear H
   have p856 : 0 ≤ (x21_1 : Int) := oD_ ‹_›
   have q856 : x21_1 < (t853.length : Int) := oD_ ‹_›
   obtain ⟨ad856, e856, hx856_0, hx856_1⟩ := at_T88 (kR_ HO_19.out).2.2 x21_1 p856 q856
   cases e856
   replace p856 := eq_true p856
   replace q856 := eq_true q856
   go_wp2_with (first | (refine bx_ 7 #[.int .i64 0, .int .i64 0] 88 ?_; intro gb857 hg w24 hbox hb; replace HO_4 := k9_ HO_4 hb; replace HO_5 := k9_ HO_5 hb; replace HO_19 := aM_ (kB_ (Kd.R_elderB HO_19.out gb857 (Nat.le_of_eq hg.symm)) hb); have BK857 := aM_ (hbox); have GW857 := gw_ hg HB; replace HB := b4_ HB hb; have NB845_857 := nb_ hg BK845; have NB857_845 := ns_ NB845_857; replace BK845 := b5_ BK845 hb; clear hb hbox hg; have hnb25 := NB857_845.out; have hnc25 := NB845_857.out; have hcz26_0 := c0_ BK857; have hcz26_1 := c1_ BK857; have hfz26_0 := bF_ BK857.out 0; have hfz26_1 := bF_ BK857.out 1) | ((with_reducible refine gate_store (t := 88) (p := 7) rfl ?_); refine store_event (t := 88) (p := 7) (v := ?vo_w27) (w1 := ((w24.setCell ⟨gb857, 0, none⟩ (.int .i64 ((rd_T88 t853 x21_1).f0))).setCell ⟨gb857, 1, none⟩ (.int .i64 ((rd_T88 t853 x21_1).f1)))) ?hg ?ho ?hn ?hr ?_; (case ho => rfl); (case hg => rfl); (case hn => rfl); (case hr => (go_simp; done)); intro w27 hw; have n0_ : Aside0 (Kd.R (Kd.int .i64) 3 w27 w.heap.size (fun k_ => some k_ ≠ (v851 : Value).ownBlock) v848 x4_1) := ⟨(by rw [hw]; exact (by exact kM_ (kG_ (kG_ (kT_ HO_4.out BK857.out (by decide)))) (fun _ hk => hk.1)))⟩; have n1_ : Aside0 (Kd.R (Kd.int .i64) 3 w27 w.heap.size (fun k_ => some k_ ≠ (v848 : Value).ownBlock) v851 y850) := ⟨(by rw [hw]; exact (by exact kM_ (kG_ (kG_ (kT_ HO_5.out BK857.out (by decide)))) (fun _ hk => hk.1)))⟩; have n2_ : Aside0 (Kd.R k88 88 w27 w.heap.size (fun k_ => k_ ≠ gb857) (.slice (some ad856) t853.length co17) t853) := ⟨(by rw [hw]; exact (by exact kM_ (kF_ (p := ⟨gb857, 1, none⟩) (kF_ (p := ⟨gb857, 0, none⟩) (kM_ HO_19.out (fun k_ hk => (⟨hk, hk.2⟩ : _ ∧ k_ ≠ gb857))) (fun _ hk => hk.2) (.int .i64 ((rd_T88 t853 x21_1).f0))) (fun _ hk => hk.2) (.int .i64 ((rd_T88 t853 x21_1).f1))) (fun _ hk => hk.1.2)))⟩; have n3_ : Aside0 (w27.heap[gb845]? = some (.cells #[.slice A0_0 l0_0.length c0_0] 33 (0, 0))) := ⟨(by rw [hw]; exact (by exact br_ NB845_857.out (br_ NB845_857.out (BK845.out))))⟩; have n4_ : Aside0 (w27.heap[gb857]? = some (.cells #[.int .i64 ((rd_T88 t853 x21_1).f0), .int .i64 ((rd_T88 t853 x21_1).f1)] 88 (0, 0))) := ⟨(by rw [hw]; exact (by refine bP_ (cs := #[.int .i64 ((rd_T88 t853 x21_1).f0), .int .i64 0]) ?_ 1 _ rfl; refine bP_ (cs := #[.int .i64 0, .int .i64 0]) ?_ 0 _ rfl; exact BK857.out))⟩; have n5_ : Aside0 (Below w.heap.size w w27) := ⟨(by rw [hw]; exact (by repeat with_reducible first | exact HB.out | apply bA_ | apply bN_ | apply bD_ | refine bS_ ?_ (Aside0.out ‹_›)))⟩; clear hw; clear HO_4; clear HO_5; clear HO_19; clear BK845; clear BK857; clear HB; have HO_4 := n0_; have HO_5 := n1_; have HO_19 := n2_; have BK845 := n3_; have BK857 := n4_; have HB := n5_; clear n0_ n1_ n2_ n3_ n4_ n5_; have hcz28_0 := c0_ BK857; have hcz28_1 := c1_ BK857; have hfz28_0 := bF_ BK857.out 0; have hfz28_1 := bF_ BK857.out 1; obtain ⟨Ao29, co29, eo29⟩ := kS_ HO_4.out; subst eo29; have p858 : 0 ≤ (((rd_T88 t853 x21_1).f1) : Int) := oD_ ‹_›; have q858 : ((rd_T88 t853 x21_1).f1) < (x4_1.length : Int) := oD_ ‹_›; obtain ⟨ad858, e858, hx858_0⟩ := Kd.at_int (kR_ HO_4.out).2.2 ((rd_T88 t853 x21_1).f1) p858 q858; cases e858; replace p858 := eq_true p858; replace q858 := eq_true q858; have p23 : 0 ≤ (((rd_T88 t853 x21_1).f1) : Int) := oD_ ‹_›; have q23 : (((rd_T88 t853 x21_1).f1) : Int) < ((x4_1.length : Int) : Int) := oD_ ‹_›; obtain ⟨go23, co23, eo23, gb23, gl23, cl23, HG23⟩ := Kd.R_form HO_4.out (by omega); (cases eo23); have GB23 := aM_ gb23; have GG23 := aM_ HG23; clear gb23 gl23 HG23; (simp only [add_plain] at hx858_0); obtain ⟨hx23_0, hf23_0⟩ := kC_ 0 HO_4.out (((rd_T88 t853 x21_1).f1) : Int) p23 q23; replace p23 := eq_true p23; replace q23 := eq_true q23; obtain ⟨hy30_, hz30_⟩ := kC_ 0 HO_4.out (((rd_T88 t853 x21_1).f1) : Int) (oD_ ‹_›) (oD_ ‹_›); have HP30 := Kd.R_putg HO_4.out (((rd_T88 t853 x21_1).f1) : Int) (wrap64 ((rd x4_1 ((rd_T88 t853 x21_1).f1)) + 1))) | ((with_reducible refine gate_store (t := 3) (p := 31) rfl ?_); refine store_event (t := 3) (p := 31) (v := ?vo_w31) (w1 := (w27.setCell ⟨go23, (((rd_T88 t853 x21_1).f1) : Int).toNat, none⟩ (.int .i64 (wrap64 ((rd x4_1 ((rd_T88 t853 x21_1).f1)) + 1))))) ?hg ?ho ?hn ?hr ?_; (case ho => rfl); (case hg => rfl); (case hn => rfl); (case hr => (go_simp; done)); intro w31 hw; have hg : w27.grownBy w31 (some go23) := (by rw [hw]; exact HP30.2); have hp_ : Kd.R (Kd.int .i64) 3 w31 w.heap.size (fun k_ => some k_ ≠ (v851 : Value).ownBlock) (.slice (some ⟨go23, 0, none⟩) x4_1.length co29) y859 := (by rw [hw, Ny859.out]; exact HP30.1); clear HP30; replace HO_5 := aM_ (Kd.R_after (v := (.slice (some ⟨go23, 0, none⟩) x4_1.length co29)) (v1 := (.slice (some ⟨go23, 0, none⟩) x4_1.length co29)) (ok := (fun _ => True)) (by exact kM_ HO_5.out (fun _ hk => ⟨trivial, hk⟩)) hg (.inl rfl)); replace HO_19 := aM_ (Kd.R_over' (v := (.slice (some ⟨go23, 0, none⟩) x4_1.length co29)) HO_19.out (Kd.R_typed HO_4.out) (by decide) hg); replace BK845 := aM_ (blk_grown (g := gb845) (o := .cells #[.slice A0_0 l0_0.length c0_0] 33 (0, 0)) BK845.out hg (k6_ HO_4.out BK845.out (by decide))); replace BK857 := aM_ (blk_grown (g := gb857) (o := .cells #[.int .i64 ((rd_T88 t853 x21_1).f0), .int .i64 ((rd_T88 t853 x21_1).f1)] 88 (0, 0)) BK857.out hg (k6_ HO_4.out BK857.out (by decide))); replace HO_4 := aM_ (hp_); replace HB := aM_ ((by rw [hw]; exact bS_ (HB.out) GB23.out : Below w.heap.size w w31)); clear hg hw hp_))
   go_roundg k1
   case measure => have := HK1.out; omega
   case rel => exact ⟨(y859), (wrap64 (x21_1 + 1)), (by rfl), H', ⟨by have := HK1.out; omega⟩, ⟨HO_4.out⟩, ⟨by exact kM_ HO_5.out (fun _ hk => hk.2)⟩, ⟨by exact kM_ HO_19.out (fun _ hk => trivial)⟩, ⟨BK845.out⟩, ⟨HB.out⟩⟩
  rw [if_neg c18] at H
  have c18b0 := dF_ c18
  clear c18
  have H' := aM_ H
  clear H
  obtain ⟨Ao32, co32, eo32⟩ := kS_ HO_4.out
  subst eo32
  go_wp2
  go_loopg [5, 35] k1 (fun kq v5 v35 w' => ∃ (x5_2 : List Int) (x35_2 : Int), v35 = .int .i64 x35_2 ∧ Aside0 (impl_JoiningStates.l1 kq x5_2 x4_1 (x4_1.length : Int) x35_2 = some (r1, r2)) ∧ Aside0 (kq ≤ k1) ∧ Aside0 (Kd.R (Kd.int .i64) 3 w' w.heap.size (fun k_ => some k_ ≠ ((.slice Ao32 x4_1.length co32) : Value).ownBlock) v5 x5_2) ∧ Aside0 (Kd.R (Kd.int .i64) 3 w' w.heap.size (fun k_ => some k_ ≠ (v5 : Value).ownBlock) (.slice Ao32 x4_1.length co32) x4_1) ∧ Aside0 (w'.heap[gb845]? = some (.cells #[(.slice A0_0 l0_0.length c0_0)] 33 (0, 0))) ∧ Aside0 (Below w.heap.size w w'))
  case atStart => exact ⟨(y850), (0), (by rfl), H', ⟨Nat.le_refl _⟩, ⟨HO_5.out⟩, ⟨HO_4.out⟩, ⟨BK845.out⟩, ⟨HB.out⟩⟩
  clear H'
  try clear p2
  try clear q2
  try clear hx2
  try clear hf2
  try clear c4b0
  try clear c4b1
  try clear c5b0
  try clear c5b1
  try clear p6
  try clear p8
  try clear q8
  try clear hx8
  try clear c18b0
  try clear c19b0
  try clear c20b0
  try clear c21b0
  try clear c22b0
  try clear p23
  try clear q23
  try clear hx23
  try clear hf23
  try clear hcz10_0
  try clear hcz15_0
  try clear hcz26_0
  try clear hcz26_1
  try clear hcz28_0
  try clear hcz28_1
  try clear hcz8_0
  try clear hfz10_0
  try clear hfz15_0
  try clear hfz26_0
  try clear hfz26_1
  try clear hfz28_0
  try clear hfz28_1
  try clear hfz8_0
  try clear hx23_0
  try clear hx856_0
  try clear hx856_1
  try clear hx858_0
  try clear p2
  try clear p23
  try clear p856
  try clear p858
  try clear q23
  try clear q856
  try clear q858
  obtain ⟨x5_2, x35_2, rfl, HA, HK2, HO_5, HO_33, BK845, HB⟩ := hrel
  cases gk with
  | zero => exact absurd HA.out (by simp [impl_JoiningStates.l1])
  | succ k2 =>
   have H := HA.out
   clear HA
   simp only [impl_JoiningStates.l1] at H
   by_cases c33 : x35_2 < (x4_1.length : Int)
   rotate_left
   ·
    rw [if_neg c33] at H
    have c33b0 := dF_ c33
    clear c33
    simp only [Option.some.injEq, Prod.mk.injEq] at H
    obtain ⟨rfl, rfl⟩ := H
    go_wp2
    go_ret2
    exact ⟨_, by rfl, by exact kM_ HO_5.out (fun _ hk => trivial), by exact HB.out⟩
   rw [if_pos c33] at H
   have c33b0 := dT_ c33
   clear c33
   by_cases c34 : 0 ≤ x35_2
   rotate_left
   ·
    rw [if_neg c34] at H
    exact absurd H (by simp)
   rw [if_pos c34] at H
   have c34b0 := dT_ c34
   clear c34
   by_cases c35 : x35_2 < (x4_1.length : Int)
   rotate_left
   ·
    rw [if_neg c35] at H
    exact absurd H (by simp)
   rw [if_pos c35] at H
   have c35b0 := dT_ c35
   clear c35
   by_cases c36 : (rd x4_1 x35_2) > 1
   ·
    rw [if_pos c36] at H
    have c36b0 := dT_ c36
    clear c36
    by_cases c37 : x5_2.length < 17592186044416
    rotate_left
    ·
     rw [if_neg c37] at H
     exact absurd H (by simp)
    rw [if_pos c37] at H
    have LMc37 := aM_ c37
    clear c37
    obtain ⟨y861, hy861⟩ : ∃ y_ : List Int, y_ = (x5_2 ++ [x35_2]) := ⟨_, rfl⟩
    replace H : (impl_JoiningStates.l1 k2 y861 x4_1 (x4_1.length : Int) (wrap64 (x35_2 + 1))) = some (r1, r2) := by (try rw [hy861]); first | with_reducible exact H | with_reducible exact oS_ H | exact H
    have Ny861 := aM_ hy861
    clear hy861
    have H' := aM_ H
    clear H
    have p860 : 0 ≤ (x35_2 : Int) := oD_ ‹_›
    have q860 : x35_2 < (x4_1.length : Int) := oD_ ‹_›
    obtain ⟨ad860, e860, hx860_0⟩ := Kd.at_int (kR_ HO_33.out).2.2 x35_2 p860 q860
    cases e860
    replace p860 := eq_true p860
    replace q860 := eq_true q860
    go_wp2_with (first | ((with_reducible refine gate_builtin (b := .append) (xs := #[.tmp 42, .tmp 44]) rfl ?_); at_builtin; refine Kd.R_append (Kd.int .i64) (w0 := w) w.heap.size rfl (.tmp 42) (.tmp 44) 56 3 (.int .i64 0) 8 rfl Tryz.underlying56 info3 rfl (by decide) (by omega) u5 x5_2 x35_2 [.int .i64 x35_2] (fun k_ => some k_ ≠ (.slice (some ad860) x4_1.length co32 : Value).ownBlock) (fun _ => False) rfl rfl ?aP (fun _ hk => hk.elim) ?aF ?aO ?aB ?aS ?aL ?_; (case aP => exact rfl); (case aB => exact HB.out); (case aF => exact (fun k_ hk => Kd.fresh' (Kd.R_lt HO_33.out) k_ hk)); (case aO => exact HO_5.out); (case aS => exact (bZ_ HB.out)); (case aL => have := LMc37.out; omega); intro v862 w38 ho hb hg hat; rw [← Ny861.out] at ho; have n0_ := aM_ (Kd.R_after (ok := (fun _ => True)) (by exact kM_ HO_33.out (fun _ hk => ⟨trivial, hk⟩)) hg hat); have n1_ := aM_ (blk_grown (g := gb845) (o := .cells #[.slice A0_0 l0_0.length c0_0] 33 (0, 0)) BK845.out hg (k6_ HO_5.out BK845.out (by decide))); have n2_ := aM_ (hb); have n3_ := aM_ (ho); clear HO_33; clear BK845; clear HB; clear HO_5; have HO_33 := n0_; have BK845 := n1_; have HB := n2_; have HO863 := n3_; clear n0_ n1_ n2_ n3_; clear ho hb hg hat))
    go_roundg k2
    case measure => have := HK1.out; have := HK2.out; omega
    case rel => exact ⟨(y861), (wrap64 (x35_2 + 1)), (by rfl), H', ⟨by have := HK1.out; have := HK2.out; omega⟩, ⟨HO863.out⟩, ⟨by exact kM_ HO_33.out (fun _ hk => hk.2)⟩, ⟨BK845.out⟩, ⟨HB.out⟩⟩
   rw [if_neg c36] at H
   have c36b0 := dF_ c36
   clear c36
   have H' := aM_ H
   clear H
   have p860 : 0 ≤ (x35_2 : Int) := oD_ ‹_›
   have q860 : x35_2 < (x4_1.length : Int) := oD_ ‹_›
   obtain ⟨ad860, e860, hx860_0⟩ := Kd.at_int (kR_ HO_33.out).2.2 x35_2 p860 q860
   cases e860
   replace p860 := eq_true p860
   replace q860 := eq_true q860
   go_wp2
   go_roundg k2
   case measure => have := HK1.out; have := HK2.out; omega
   case rel => exact ⟨(x5_2), (wrap64 (x35_2 + 1)), (by rfl), H', ⟨by have := HK1.out; have := HK2.out; omega⟩, ⟨HO_5.out⟩, ⟨HO_33.out⟩, ⟨BK845.out⟩, ⟨HB.out⟩⟩
def laws_eqIntS.l0 : Nat → List Int → List Int → Int → Option (Bool)
 | 0, _, _, _ => none
 | k + 1, x0, x1, x5 => if x5 < (x0.length : Int) then (if 0 ≤ x5 then (if x5 < (x1.length : Int) then (if (rd x0 x5) = (rd x1 x5) then (laws_eqIntS.l0 k x0 x1 (wrap64 (x5 + 1))) else (some false)) else (none)) else (none)) else (some true)
def laws_eqIntS.f (k : Nat) (l0 : List Int) (l1 : List Int) : Option (Bool) := if (l0.length : Int) = (l1.length : Int) then (laws_eqIntS.l0 k l0 l1 0) else (some false)
theorem laws_eqIntS.mono_l : ∀ k, (∀ y0 y1 y2, LeO (laws_eqIntS.l0 k y0 y1 y2) (laws_eqIntS.l0 (k + 1) y0 y1 y2))
 | 0 => fun _ _ _ r h => by simp [laws_eqIntS.l0] at h
 | k + 1 => by
  have ih0 := laws_eqIntS.mono_l k
  intro y0 y1 y2
  unfold laws_eqIntS.l0
  repeat' with_reducible first | exact ih0 _ _ _ | exact l3_ _ | exact l0_ _ | refine l2_ ?_ ?_ | refine l1_ ?_ (fun _ => ?_)
theorem laws_eqIntS.mono : ∀ a0 a1 k, LeO (laws_eqIntS.f k a0 a1) (laws_eqIntS.f (k + 1) a0 a1) := by
 intro a0 a1 k
 have ih0 := laws_eqIntS.mono_l k
 unfold laws_eqIntS.f
 repeat' with_reducible first | exact ih0 _ _ _ | exact l3_ _ | exact l0_ _ | refine l2_ ?_ ?_ | refine l1_ ?_ (fun _ => ?_)
theorem laws_eqIntS.calls (k : Nat) (A0 : Option Addr) (c0 : Nat) (l0 : List Int) (A1 : Option Addr) (c1 : Nat) (l1 : List Int) (r : Bool) (w : World) (hr0 : Kd.C (Kd.int .i64) w A0 l0.length l0) (hc0 : l0.length ≤ c0) (hr1 : Kd.C (Kd.int .i64) w A1 l1.length l1) (hc1 : l1.length ≤ c1) (h : laws_eqIntS.f k l0 l1 = some r) :
  Calls Tryz.prog 43 #[.slice A0 l0.length c0, .slice A1 l1.length c1] w fun e w' => e = .returned (.bool r) ∧ Drawn0 w w' := by
 have HR0 := aM_ hr0
 have HC0 := aM_ hc0
 clear hr0 hc0
 have HR1 := aM_ hr1
 have HC1 := aM_ hc1
 clear hr1 hc1
 have H : (if (l0.length : Int) = (l1.length : Int) then (laws_eqIntS.l0 k l0 l1 0) else (some false)) = some r := h
 clear h
 by_cases c3 : (l0.length : Int) = (l1.length : Int)
 rotate_left
 ·
  rw [if_neg c3] at H
  have c3b0 : ((l0.length : Int) == (l1.length : Int)) = false := beq_eq_false_iff_ne.mpr c3
  have c3b1 : ((l0.length : Int) != (l1.length : Int)) = true := bne_iff_ne.mpr c3
  have c3b2 : (l0.length == l1.length) = false := by first | simpa using c3 | (simp at c3 ⊢; omega)
  obtain rfl := Option.some.inj H
  go_enter Tryz.func43, Tryz.ntmps43
  go_wp2
  repeat (go_quiet (fail); try go_wp2)
  go_ret
  exact ⟨by rfl, by repeat (first | exact Drawn0.refl _ | apply Drawn0.step)⟩
 rw [if_pos c3] at H
 have c3b0 : ((l0.length : Int) == (l1.length : Int)) = true := beq_iff_eq.mpr c3
 have c3b1 : ((l0.length : Int) != (l1.length : Int)) = false := bne_eq_false_iff_eq.mpr c3
 have c3b2 : (l0.length == l1.length) = true := by first | simpa using c3 | (simp at c3 ⊢; omega)
 clear c3
 have H' := aM_ H
 clear H
 go_enter Tryz.func43, Tryz.ntmps43
 go_wp2
 repeat (go_quiet (fail); try go_wp2)
 go_loopg [5] k (fun kq v5 w' => ∃ (x5_1 : Int), v5 = .int .i64 x5_1 ∧ Aside0 (laws_eqIntS.l0 kq l0 l1 x5_1 = some r) ∧ Aside0 (kq ≤ k) ∧ Drawn0 w w')
 case atStart => exact ⟨(0), (by rfl), H', ⟨Nat.le_refl _⟩, by repeat (first | exact Drawn0.refl _ | apply Drawn0.step)⟩
 clear H'
 try clear p2
 try clear c3b0
 try clear c3b1
 try clear c3b2
 obtain ⟨x5_1, rfl, HA, HK1, ⟨m1, rfl⟩⟩ := hrel
 cases gk with
 | zero => exact absurd HA.out (by simp [laws_eqIntS.l0])
 | succ k1 =>
  have H := HA.out
  clear HA
  simp only [laws_eqIntS.l0] at H
  by_cases c4 : x5_1 < (l0.length : Int)
  rotate_left
  ·
   rw [if_neg c4] at H
   have c4b0 := dF_ c4
   clear c4
   obtain rfl := Option.some.inj H
   go_wp2
   repeat (go_quiet (fail); try go_wp2)
   go_ret
   exact ⟨by rfl, by repeat (first | exact Drawn0.refl _ | apply Drawn0.step)⟩
  rw [if_pos c4] at H
  have c4b0 := dT_ c4
  clear c4
  by_cases c5 : 0 ≤ x5_1
  rotate_left
  ·
   rw [if_neg c5] at H
   exact absurd H (by simp)
  rw [if_pos c5] at H
  have c5b0 := dT_ c5
  clear c5
  by_cases c6 : x5_1 < (l1.length : Int)
  rotate_left
  ·
   rw [if_neg c6] at H
   exact absurd H (by simp)
  rw [if_pos c6] at H
  have c6b0 := dT_ c6
  clear c6
  by_cases c7 : (rd l0 x5_1) = (rd l1 x5_1)
  ·
   rw [if_pos c7] at H
   have c7b0 : ((rd l0 x5_1) == (rd l1 x5_1)) = true := beq_iff_eq.mpr c7
   have c7b1 : ((rd l0 x5_1) != (rd l1 x5_1)) = false := bne_eq_false_iff_eq.mpr c7
   clear c7
   have H' := aM_ H
   clear H
   have p864 : 0 ≤ (x5_1 : Int) := oD_ ‹_›
   have q864 : x5_1 < (l0.length : Int) := oD_ ‹_›
   obtain ⟨ad864, e864, hx864_0⟩ := Kd.at_int HR0.out x5_1 p864 q864
   cases e864
   replace p864 := eq_true p864
   replace q864 := eq_true q864
   have p865 : 0 ≤ (x5_1 : Int) := oD_ ‹_›
   have q865 : x5_1 < (l1.length : Int) := oD_ ‹_›
   obtain ⟨ad865, e865, hx865_0⟩ := Kd.at_int HR1.out x5_1 p865 q865
   cases e865
   replace p865 := eq_true p865
   replace q865 := eq_true q865
   go_wp2
   repeat (go_quiet (fail); try go_wp2)
   go_roundg k1
   case measure => have := HK1.out; omega
   case rel => exact ⟨(wrap64 (x5_1 + 1)), (by rfl), H', ⟨by have := HK1.out; omega⟩, by repeat (first | exact Drawn0.refl _ | apply Drawn0.step)⟩
  rw [if_neg c7] at H
  have c7b0 : ((rd l0 x5_1) == (rd l1 x5_1)) = false := beq_eq_false_iff_ne.mpr c7
  have c7b1 : ((rd l0 x5_1) != (rd l1 x5_1)) = true := bne_iff_ne.mpr c7
  obtain rfl := Option.some.inj H
  have p864 : 0 ≤ (x5_1 : Int) := oD_ ‹_›
  have q864 : x5_1 < (l0.length : Int) := oD_ ‹_›
  obtain ⟨ad864, e864, hx864_0⟩ := Kd.at_int HR0.out x5_1 p864 q864
  cases e864
  replace p864 := eq_true p864
  replace q864 := eq_true q864
  have p865 : 0 ≤ (x5_1 : Int) := oD_ ‹_›
  have q865 : x5_1 < (l1.length : Int) := oD_ ‹_›
  obtain ⟨ad865, e865, hx865_0⟩ := Kd.at_int HR1.out x5_1 p865 q865
  cases e865
  replace p865 := eq_true p865
  replace q865 := eq_true q865
  go_wp2
  repeat (go_quiet (fail); try go_wp2)
  go_ret
  exact ⟨by rfl, by repeat (first | exact Drawn0.refl _ | apply Drawn0.step)⟩
def laws_markIntS.l0 : Nat → List Int → Int → Int → Option (Int × List Int)
 | 0, _, _, _ => none
 | k + 1, x0, x1, x5 => if x5 < (x0.length : Int) then (if 0 ≤ x5 then (laws_markIntS.l0 k (x0.set (x5 : Int).toNat x1) (wrap64 (x1 + 1)) (wrap64 (x5 + 1))) else (none)) else (some (x1, x0))
def laws_markIntS.f (k : Nat) (l0 : List Int) (a1 : Int) : Option (Int × List Int) := laws_markIntS.l0 k l0 a1 0
theorem laws_markIntS.mono_l : ∀ k, (∀ y0 y1 y2, LeO (laws_markIntS.l0 k y0 y1 y2) (laws_markIntS.l0 (k + 1) y0 y1 y2))
 | 0 => fun _ _ _ r h => by simp [laws_markIntS.l0] at h
 | k + 1 => by
  have ih0 := laws_markIntS.mono_l k
  intro y0 y1 y2
  unfold laws_markIntS.l0
  repeat' with_reducible first | exact ih0 _ _ _ | exact l3_ _ | exact l0_ _ | refine l2_ ?_ ?_ | refine l1_ ?_ (fun _ => ?_)
theorem laws_markIntS.mono : ∀ a0 a1 k, LeO (laws_markIntS.f k a0 a1) (laws_markIntS.f (k + 1) a0 a1) := by
 intro a0 a1 k
 have ih0 := laws_markIntS.mono_l k
 unfold laws_markIntS.f
 repeat' with_reducible first | exact ih0 _ _ _ | exact l3_ _ | exact l0_ _ | refine l2_ ?_ ?_ | refine l1_ ?_ (fun _ => ?_)
theorem laws_markIntS.calls (k : Nat) (P0_ : Nat → Prop) (u9000_ : Value) (l0 : List Int) (a1 : Int) (r1 : Int) (r2 : List Int) (w0 w : World) (hB : Below w0.heap.size w0 w) (ho0 : Kd.R (Kd.int .i64) 3 w w0.heap.size P0_ u9000_ l0) (h : laws_markIntS.f k l0 a1 = some (r1, r2)) :
  Calls Tryz.prog 44 #[u9000_, .int .i64 a1] w fun e w' => e = .returned (.int .i64 r1) ∧ Kd.R (Kd.int .i64) 3 w' w0.heap.size (fun k_ => (P0_ k_ ∨ w.heap.size ≤ k_)) u9000_ r2 ∧ Below w0.heap.size w0 w' ∧ Kept w w' (fun k_ => P0_ k_) := by
 have HO0 := aM_ (show Kd.R (Kd.int .i64) 3 w w0.heap.size (fun k_ => (P0_ k_ ∨ w.heap.size ≤ k_)) u9000_ l0 from kM_ ho0 (fun k_ hk => (.inl hk)))
 have HK := aM_ (Kept.refl w (fun k_ => P0_ k_))
 have HW0 := aM_ hB.size
 have HB := aM_ hB
 clear hB
 have H : (laws_markIntS.l0 k l0 a1 0) = some (r1, r2) := h
 clear h
 have H' := aM_ H
 clear H
 go_enter Tryz.func44, Tryz.ntmps44
 go_wp2
 go_loopg [1, 5] k (fun kq v1 v5 w' => ∃ (x0_1 : List Int) (x1_1 : Int) (x5_1 : Int), v1 = .int .i64 x1_1 ∧ v5 = .int .i64 x5_1 ∧ Aside0 (laws_markIntS.l0 kq x0_1 x1_1 x5_1 = some (r1, r2)) ∧ Aside0 (kq ≤ k) ∧ Aside0 (Kd.R (Kd.int .i64) 3 w' w0.heap.size (fun k_ => (P0_ k_ ∨ w.heap.size ≤ k_)) u9000_ x0_1) ∧ Aside0 (Kept w w' (fun k_ => P0_ k_)) ∧ Aside0 (Below w0.heap.size w0 w'))
 case atStart => exact ⟨(l0), (a1), (0), (by rfl), (by rfl), H', ⟨Nat.le_refl _⟩, ⟨HO0.out⟩, ⟨by repeat (first | (with_reducible first | exact HK.out | apply Kept.alloc | apply Kept.drewN | apply Kept.drew) | exact HK.out)⟩, ⟨HB.out⟩⟩
 clear H'
 try clear p2
 obtain ⟨x0_1, x1_1, x5_1, rfl, rfl, HA, HK1, HO_0, HK, HB⟩ := hrel
 cases gk with
 | zero => exact absurd HA.out (by simp [laws_markIntS.l0])
 | succ k1 =>
  have H := HA.out
  clear HA
  simp only [laws_markIntS.l0] at H
  by_cases c3 : x5_1 < (x0_1.length : Int)
  rotate_left
  ·
   rw [if_neg c3] at H
   have c3b0 := dF_ c3
   clear c3
   simp only [Option.some.injEq, Prod.mk.injEq] at H
   obtain ⟨rfl, rfl⟩ := H
   obtain ⟨Ao9, co9, eo9⟩ := kS_ HO_0.out
   subst eo9
   go_wp2
   go_ret
   exact ⟨by rfl, by exact HO_0.out, by exact HB.out, by repeat (first | (with_reducible first | exact HK.out | apply Kept.alloc | apply Kept.drewN | apply Kept.drew) | exact HK.out)⟩
  rw [if_pos c3] at H
  have c3b0 := dT_ c3
  clear c3
  by_cases c4 : 0 ≤ x5_1
  rotate_left
  ·
   rw [if_neg c4] at H
   exact absurd H (by simp)
  rw [if_pos c4] at H
  have c4b0 := dT_ c4
  clear c4
  obtain ⟨y866, hy866⟩ : ∃ y_ : List Int, y_ = (x0_1.set (x5_1 : Int).toNat x1_1) := ⟨_, rfl⟩
  replace H : (laws_markIntS.l0 k1 y866 (wrap64 (x1_1 + 1)) (wrap64 (x5_1 + 1))) = some (r1, r2) := by (try rw [hy866]); first | with_reducible exact H | with_reducible exact oS_ H | exact H
  have Ny866 := aM_ hy866
  clear hy866
  have H' := aM_ H
  clear H
  obtain ⟨Ao6, co6, eo6⟩ := kS_ HO_0.out
  subst eo6
  have p5 : 0 ≤ (x5_1 : Int) := oD_ ‹_›
  have q5 : (x5_1 : Int) < ((x0_1.length : Int) : Int) := oD_ ‹_›
  obtain ⟨go5, co5, eo5, gb5, gl5, cl5, HG5⟩ := Kd.R_form HO_0.out (by omega)
  (cases eo5)
  have GB5 := aM_ gb5
  have GG5 := aM_ HG5
  clear gb5 gl5 HG5
  have HMgo5 := aM_ (show (P0_ go5 ∨ w.heap.size ≤ go5) from (HO_0.out.1 _ rfl))
  obtain ⟨hx5_0, hf5_0⟩ := kC_ 0 HO_0.out (x5_1 : Int) p5 q5
  (try simp only [Int.toNat_natCast] at hx5_0 hf5_0)
  replace p5 := eq_true p5
  replace q5 := eq_true q5
  have HP7 := Kd.R_putg HO_0.out (x5_1 : Int) x1_1
  go_wp2_with (first | ((with_reducible refine gate_store (t := 3) (p := 15) rfl ?_); refine store_event (t := 3) (p := 15) (v := ?vo_w8) (w1 := (wr.setCell ⟨go5, (x5_1 : Int).toNat, none⟩ (.int .i64 x1_1))) ?hg ?ho ?hn ?hr ?_; (case ho => rfl); (case hg => rfl); (case hn => rfl); (case hr => (go_simp; done)); intro w8 hw; have hg : wr.grownBy w8 (some go5) := (by rw [hw]; exact HP7.2); have hp_ : Kd.R (Kd.int .i64) 3 w8 w0.heap.size (fun k_ => (P0_ k_ ∨ w.heap.size ≤ k_)) (.slice (some ⟨go5, 0, none⟩) x0_1.length co6) y866 := (by rw [hw, Ny866.out]; exact HP7.1); clear HP7; replace HB := aM_ ((by rw [hw]; exact bS_ (HB.out) GB5.out : Below w0.heap.size w0 w8)); replace HK := aM_ (Kept.of_grown (S := (fun k_ => P0_ k_)) hg (by repeat (first | (with_reducible first | exact HK.out | apply Kept.alloc | apply Kept.drewN | apply Kept.drew) | exact HK.out)) (fun k_ e_ => (HO_0.out.1 k_ e_))); replace HO_0 := aM_ (hp_); clear hg hw hp_))
  go_roundg k1
  case measure => have := HK1.out; omega
  case rel => exact ⟨(y866), (wrap64 (x1_1 + 1)), (wrap64 (x5_1 + 1)), (by rfl), (by rfl), H', ⟨by have := HK1.out; omega⟩, ⟨HO_0.out⟩, ⟨by repeat (first | (with_reducible first | exact HK.out | apply Kept.alloc | apply Kept.drewN | apply Kept.drew) | exact HK.out)⟩, ⟨HB.out⟩⟩
def laws_heldIntS.l0 : Nat → List Int → Int → Int → Option (Int)
 | 0, _, _, _ => none
 | k + 1, x0, x1, x5 => if x5 < (x0.length : Int) then (if 0 ≤ x5 then (if (rd x0 x5) = x1 then (laws_heldIntS.l0 k x0 (wrap64 (x1 + 1)) (wrap64 (x5 + 1))) else (some (-1))) else (none)) else (some x1)
def laws_heldIntS.f (k : Nat) (l0 : List Int) (a1 : Int) : Option (Int) := laws_heldIntS.l0 k l0 a1 0
theorem laws_heldIntS.mono_l : ∀ k, (∀ y0 y1 y2, LeO (laws_heldIntS.l0 k y0 y1 y2) (laws_heldIntS.l0 (k + 1) y0 y1 y2))
 | 0 => fun _ _ _ r h => by simp [laws_heldIntS.l0] at h
 | k + 1 => by
  have ih0 := laws_heldIntS.mono_l k
  intro y0 y1 y2
  unfold laws_heldIntS.l0
  repeat' with_reducible first | exact ih0 _ _ _ | exact l3_ _ | exact l0_ _ | refine l2_ ?_ ?_ | refine l1_ ?_ (fun _ => ?_)
theorem laws_heldIntS.mono : ∀ a0 a1 k, LeO (laws_heldIntS.f k a0 a1) (laws_heldIntS.f (k + 1) a0 a1) := by
 intro a0 a1 k
 have ih0 := laws_heldIntS.mono_l k
 unfold laws_heldIntS.f
 repeat' with_reducible first | exact ih0 _ _ _ | exact l3_ _ | exact l0_ _ | refine l2_ ?_ ?_ | refine l1_ ?_ (fun _ => ?_)
theorem laws_heldIntS.calls (k : Nat) (A0 : Option Addr) (c0 : Nat) (l0 : List Int) (a1 : Int) (r : Int) (w : World) (hr0 : Kd.C (Kd.int .i64) w A0 l0.length l0) (hc0 : l0.length ≤ c0) (h : laws_heldIntS.f k l0 a1 = some r) :
  Calls Tryz.prog 45 #[.slice A0 l0.length c0, .int .i64 a1] w fun e w' => e = .returned (.int .i64 r) ∧ Drawn0 w w' := by
 have HR0 := aM_ hr0
 have HC0 := aM_ hc0
 clear hr0 hc0
 have H : (laws_heldIntS.l0 k l0 a1 0) = some r := h
 clear h
 have H' := aM_ H
 clear H
 go_enter Tryz.func45, Tryz.ntmps45
 go_wp2
 go_loopg [1, 5] k (fun kq v1 v5 w' => ∃ (x1_1 : Int) (x5_1 : Int), v1 = .int .i64 x1_1 ∧ v5 = .int .i64 x5_1 ∧ Aside0 (laws_heldIntS.l0 kq l0 x1_1 x5_1 = some r) ∧ Aside0 (kq ≤ k) ∧ Drawn0 w w')
 case atStart => exact ⟨(a1), (0), (by rfl), (by rfl), H', ⟨Nat.le_refl _⟩, by repeat (first | exact Drawn0.refl _ | apply Drawn0.step)⟩
 clear H'
 try clear p2
 obtain ⟨x1_1, x5_1, rfl, rfl, HA, HK1, ⟨m1, rfl⟩⟩ := hrel
 cases gk with
 | zero => exact absurd HA.out (by simp [laws_heldIntS.l0])
 | succ k1 =>
  have H := HA.out
  clear HA
  simp only [laws_heldIntS.l0] at H
  by_cases c3 : x5_1 < (l0.length : Int)
  rotate_left
  ·
   rw [if_neg c3] at H
   have c3b0 := dF_ c3
   clear c3
   obtain rfl := Option.some.inj H
   go_wp2
   go_ret
   exact ⟨by rfl, by repeat (first | exact Drawn0.refl _ | apply Drawn0.step)⟩
  rw [if_pos c3] at H
  have c3b0 := dT_ c3
  clear c3
  by_cases c4 : 0 ≤ x5_1
  rotate_left
  ·
   rw [if_neg c4] at H
   exact absurd H (by simp)
  rw [if_pos c4] at H
  have c4b0 := dT_ c4
  clear c4
  by_cases c5 : (rd l0 x5_1) = x1_1
  ·
   rw [if_pos c5] at H
   have c5b0 : ((rd l0 x5_1) == x1_1) = true := beq_iff_eq.mpr c5
   have c5b1 : ((rd l0 x5_1) != x1_1) = false := bne_eq_false_iff_eq.mpr c5
   clear c5
   have H' := aM_ H
   clear H
   have p867 : 0 ≤ (x5_1 : Int) := oD_ ‹_›
   have q867 : x5_1 < (l0.length : Int) := oD_ ‹_›
   obtain ⟨ad867, e867, hx867_0⟩ := Kd.at_int HR0.out x5_1 p867 q867
   cases e867
   replace p867 := eq_true p867
   replace q867 := eq_true q867
   go_wp2
   go_roundg k1
   case measure => have := HK1.out; omega
   case rel => exact ⟨(wrap64 (x1_1 + 1)), (wrap64 (x5_1 + 1)), (by rfl), (by rfl), H', ⟨by have := HK1.out; omega⟩, by repeat (first | exact Drawn0.refl _ | apply Drawn0.step)⟩
  rw [if_neg c5] at H
  have c5b0 : ((rd l0 x5_1) == x1_1) = false := beq_eq_false_iff_ne.mpr c5
  have c5b1 : ((rd l0 x5_1) != x1_1) = true := bne_iff_ne.mpr c5
  obtain rfl := Option.some.inj H
  have p867 : 0 ≤ (x5_1 : Int) := oD_ ‹_›
  have q867 : x5_1 < (l0.length : Int) := oD_ ‹_›
  obtain ⟨ad867, e867, hx867_0⟩ := Kd.at_int HR0.out x5_1 p867 q867
  cases e867
  replace p867 := eq_true p867
  replace q867 := eq_true q867
  go_wp2
  go_ret
  exact ⟨by rfl, by repeat (first | exact Drawn0.refl _ | apply Drawn0.step)⟩
mutual
def spec_JoiningStates.l0 : Nat → List Int → List Int → Int → List (S72) → Option (List Int × Bool)
 | 0, _, _, _, _ => none
 | k + 1, x4, x5, x6, x829000 => if x6 < (x829000.length : Int) then (spec_JoiningStates.l1 k x4 x5 x6 0 x829000) else (spec_JoiningStates.l2 k x4 x5 0)
def spec_JoiningStates.l1 : Nat → List Int → List Int → Int → Int → List (S72) → Option (List Int × Bool)
 | 0, _, _, _, _, _ => none
 | k + 1, x4, x5, x6, x7, x829000 => if 0 ≤ x6 then (if x6 < (x829000.length : Int) then (if x7 < (((rd_T72 x829000 x6).f1).length : Int) then (if 0 ≤ x7 then (if 0 ≤ ((rd_T88 ((rd_T72 x829000 x6).f1) x7).f1) then (if ((rd_T88 ((rd_T72 x829000 x6).f1) x7).f1) < (x5.length : Int) then (spec_JoiningStates.l1 k x4 (x5.set (((rd_T88 ((rd_T72 x829000 x6).f1) x7).f1) : Int).toNat (wrap64 ((rd x5 ((rd_T88 ((rd_T72 x829000 x6).f1) x7).f1)) + 1))) x6 (wrap64 (x7 + 1)) x829000) else (none)) else (none)) else (none)) else (spec_JoiningStates.l0 k x4 x5 (wrap64 (x6 + 1)) x829000)) else (none)) else (none)
def spec_JoiningStates.l2 : Nat → List Int → List Int → Int → Option (List Int × Bool)
 | 0, _, _, _ => none
 | k + 1, x4, x5, x8 => if x8 < (x5.length : Int) then (if 0 ≤ x8 then (if (rd x5 x8) > 1 then (if x4.length < 17592186044416 then (spec_JoiningStates.l2 k (x4 ++ [x8]) x5 (wrap64 (x8 + 1))) else (none)) else (spec_JoiningStates.l2 k x4 x5 (wrap64 (x8 + 1)))) else (none)) else (some (x4, true))
end
def spec_JoiningStates.f (k : Nat) (l0_0 : List (S72)) : Option (List Int × Bool) := (some (([] : List Int) : List Int)).bind fun y829 => ((spec_l7Valid.f k l0_0).bind fun t832 => (if t832 = true then (if 0 ≤ (l0_0.length : Int) then (if ((l0_0.length : Int) : Int).toNat ≤ 35184372088832 then (spec_JoiningStates.l0 k y829 (List.replicate ((l0_0.length : Int) : Int).toNat 0) 0 l0_0) else (none)) else (none)) else (some (y829, false))))
theorem spec_JoiningStates.mono_l : ∀ k, (∀ y0 y1 y2 y3, LeO (spec_JoiningStates.l0 k y0 y1 y2 y3) (spec_JoiningStates.l0 (k + 1) y0 y1 y2 y3)) ∧ (∀ y0 y1 y2 y3 y4, LeO (spec_JoiningStates.l1 k y0 y1 y2 y3 y4) (spec_JoiningStates.l1 (k + 1) y0 y1 y2 y3 y4)) ∧ (∀ y0 y1 y2, LeO (spec_JoiningStates.l2 k y0 y1 y2) (spec_JoiningStates.l2 (k + 1) y0 y1 y2))
 | 0 => ⟨fun _ _ _ _ r h => by simp [spec_JoiningStates.l0] at h, fun _ _ _ _ _ r h => by simp [spec_JoiningStates.l1] at h, fun _ _ _ r h => by simp [spec_JoiningStates.l2] at h⟩
 | k + 1 => by
  obtain ⟨ih0, ih1, ih2⟩ := spec_JoiningStates.mono_l k
  refine ⟨?_, ?_, ?_⟩
  ·
   intro y0 y1 y2 y3
   unfold spec_JoiningStates.l0
   repeat' with_reducible first | exact ih0 _ _ _ _ | exact ih1 _ _ _ _ _ | exact ih2 _ _ _ | exact spec_l7Valid.mono _ _ | exact l3_ _ | exact l0_ _ | refine l2_ ?_ ?_ | refine l1_ ?_ (fun _ => ?_)
  ·
   intro y0 y1 y2 y3 y4
   unfold spec_JoiningStates.l1
   repeat' with_reducible first | exact ih0 _ _ _ _ | exact ih1 _ _ _ _ _ | exact ih2 _ _ _ | exact spec_l7Valid.mono _ _ | exact l3_ _ | exact l0_ _ | refine l2_ ?_ ?_ | refine l1_ ?_ (fun _ => ?_)
  intro y0 y1 y2
  unfold spec_JoiningStates.l2
  repeat' with_reducible first | exact ih0 _ _ _ _ | exact ih1 _ _ _ _ _ | exact ih2 _ _ _ | exact spec_l7Valid.mono _ _ | exact l3_ _ | exact l0_ _ | refine l2_ ?_ ?_ | refine l1_ ?_ (fun _ => ?_)
theorem spec_JoiningStates.mono : ∀ a0 k, LeO (spec_JoiningStates.f k a0) (spec_JoiningStates.f (k + 1) a0) := by
 intro a0 k
 obtain ⟨ih0, ih1, ih2⟩ := spec_JoiningStates.mono_l k
 unfold spec_JoiningStates.f
 repeat' with_reducible first | exact ih0 _ _ _ _ | exact ih1 _ _ _ _ _ | exact ih2 _ _ _ | exact spec_l7Valid.mono _ _ | exact l3_ _ | exact l0_ _ | refine l2_ ?_ ?_ | refine l1_ ?_ (fun _ => ?_)
theorem spec_JoiningStates.calls (k : Nat) (A0_0 : Option Addr) (c0_0 : Nat) (l0_0 : List (S72)) (r1 : List Int) (r2 : Bool) (w : World) (hr0_0 : Kd.C k72 w A0_0 l0_0.length l0_0) (hc0_0 : l0_0.length ≤ c0_0) (h : spec_JoiningStates.f k l0_0 = some (r1, r2)) :
  Calls Tryz.prog 41 #[.agg #[.slice A0_0 l0_0.length c0_0]] w fun e w' => ∃ v0_ : Value, e = .returned (.tuple #[v0_, .bool r2]) ∧ Kd.R (Kd.int .i64) 3 w' w.heap.size (fun _ => True) v0_ r1 ∧ Below w.heap.size w w' := by
 have hu33 := Tryz.underlying33
 have HR0_0 := aM_ hr0_0
 have HC0_0 := aM_ hc0_0
 clear hr0_0 hc0_0
 have HB := aM_ (Below.refl w.heap.size w)
 have H : ((some (([] : List Int) : List Int)).bind fun y829 => ((spec_l7Valid.f k l0_0).bind fun t832 => (if t832 = true then (if 0 ≤ (l0_0.length : Int) then (if ((l0_0.length : Int) : Int).toNat ≤ 35184372088832 then (spec_JoiningStates.l0 k y829 (List.replicate ((l0_0.length : Int) : Int).toNat 0) 0 l0_0) else (none)) else (none)) else (some (y829, false))))) = some (r1, r2) := h
 clear h
 obtain ⟨y829, hy829⟩ : ∃ y_ : List Int, y_ = (([] : List Int)) := ⟨_, rfl⟩
 replace H : ((spec_l7Valid.f k l0_0).bind fun t832 => (if t832 = true then (if 0 ≤ (l0_0.length : Int) then (if ((l0_0.length : Int) : Int).toNat ≤ 35184372088832 then (spec_JoiningStates.l0 k y829 (List.replicate ((l0_0.length : Int) : Int).toNat 0) 0 l0_0) else (none)) else (none)) else (some (y829, false)))) = some (r1, r2) := by (try rw [hy829]); first | with_reducible exact H | with_reducible exact oS_ H | exact H
 have Ny829 := aM_ hy829
 clear hy829
 replace H := oB_.mp H
 obtain ⟨t832, A20, H⟩ := H
 try dsimp only at H
 have A2 := aM_ A20
 clear A20
 by_cases c3 : t832 = true
 rotate_left
 ·
  replace c3 := Bool.eq_false_iff.mpr c3
  subst c3
  replace H : (some (y829, false)) = some (r1, r2) := by rw [if_neg (show ¬ (false = true) by decide)] at H; exact H
  simp only [Option.some.injEq, Prod.mk.injEq] at H
  obtain ⟨rfl, rfl⟩ := H
  go_enter Tryz.func41, Tryz.ntmps41
  go_wp2_with (first | (refine bx_ 1 #[.slice A0_0 l0_0.length c0_0] 33 ?_; intro gb828 hg w37 hbox hb; have BK828 := aM_ (hbox); have GW828 := gw_ hg HB; replace HB := b4_ HB hb; clear hb hbox hg) | ((with_reducible refine gD_ (N := 9) rfl ?_); refine Kd.R_lit (Kd.int .i64) _ 3 ?hg (N := 9) ?hd (xs := ([] : List Int)) (inner := []) (ok := fun _ => True) (okp := fun _ => True) ?hr ?hp (fun _ hk => hk) trivial (Below.refl _ _) (Nat.le_refl _) (by simp) ?_; (case hd => rfl); (case hg => rfl); (case hr => (go_simp; done)); (case hp => exact (Reps.none _ _)); intro v830 w38 ho39 hb hg_ hnew_; clear hg_ hnew_; (rw [← Ny829.out] at ho39); have HO831 := aM_ (k5_ ho39 (bZ_ HB.out)); replace BK828 := b5_ BK828 hb; replace HB := b4_ HB hb; clear hb ho39; have hcz40_0 := c0_ BK828; have hfz40_0 := bF_ BK828.out 0) | (refine gs_ 11 Tryz.func47 #[.agg #[.slice A0_0 l0_0.length c0_0]] ?_; (with_reducible refine (spec_l7Valid.calls k _ _ l0_0 false _ ?side1 HC0_0.out A2.out).mono ?_); (case side1 => repeat (first | exact (k4_ HR0_0.out HB.out) | with_reducible first | apply cA_ | apply cN_ | apply cD_)); rintro e w41 ⟨rfl, hb⟩; refine ⟨_, rfl, ?_⟩; replace HO831 := k9_ HO831 hb; replace BK828 := b5_ BK828 hb; replace HB := b4_ HB hb; (try clear hb)))
  go_ret2
  exact ⟨_, by rfl, by exact HO831.out, by exact HB.out⟩
 subst c3
 rw [if_pos rfl] at H
 by_cases c4 : 0 ≤ (l0_0.length : Int)
 rotate_left
 ·
  rw [if_neg c4] at H
  exact absurd H (by simp)
 rw [if_pos c4] at H
 have c4b0 := eq_true c4
 have c4b1 := dT_ c4
 clear c4
 by_cases c5 : ((l0_0.length : Int) : Int).toNat ≤ 35184372088832
 rotate_left
 ·
  rw [if_neg c5] at H
  exact absurd H (by simp)
 rw [if_pos c5] at H
 have c5b0 := eq_true c5
 have c5b1 := dT_ c5
 clear c5
 obtain ⟨y833, hy833⟩ : ∃ y_ : List Int, y_ = (List.replicate ((l0_0.length : Int) : Int).toNat 0) := ⟨_, rfl⟩
 replace H : (spec_JoiningStates.l0 k y829 y833 0 l0_0) = some (r1, r2) := by (try rw [hy833]); first | with_reducible exact H | with_reducible exact oS_ H | exact H
 have Ny833 := aM_ hy833
 clear hy833
 have H' := aM_ H
 clear H
 go_enter Tryz.func41, Tryz.ntmps41
 go_wp2_with (first | (refine bx_ 1 #[.slice A0_0 l0_0.length c0_0] 33 ?_; intro gb828 hg w6 hbox hb; have BK828 := aM_ (hbox); have GW828 := gw_ hg HB; replace HB := b4_ HB hb; clear hb hbox hg) | ((with_reducible refine gD_ (N := 9) rfl ?_); refine Kd.R_lit (Kd.int .i64) _ 3 ?hg (N := 9) ?hd (xs := ([] : List Int)) (inner := []) (ok := fun _ => True) (okp := fun _ => True) ?hr ?hp (fun _ hk => hk) trivial (Below.refl _ _) (Nat.le_refl _) (by simp) ?_; (case hd => rfl); (case hg => rfl); (case hr => (go_simp; done)); (case hp => exact (Reps.none _ _)); intro v830 w7 ho8 hb hg_ hnew_; clear hg_ hnew_; (rw [← Ny829.out] at ho8); have HO831 := aM_ (k5_ ho8 (bZ_ HB.out)); replace BK828 := b5_ BK828 hb; replace HB := b4_ HB hb; clear hb ho8; have hcz9_0 := c0_ BK828; have hfz9_0 := bF_ BK828.out 0) | (refine gs_ 11 Tryz.func47 #[.agg #[.slice A0_0 l0_0.length c0_0]] ?_; (with_reducible refine (spec_l7Valid.calls k _ _ l0_0 true _ ?side1 HC0_0.out A2.out).mono ?_); (case side1 => repeat (first | exact (k4_ HR0_0.out HB.out) | with_reducible first | apply cA_ | apply cN_ | apply cD_)); rintro e w10 ⟨rfl, hb⟩; refine ⟨_, rfl, ?_⟩; replace HO831 := k9_ HO831 hb; replace BK828 := b5_ BK828 hb; replace HB := b4_ HB hb; (try clear hb); have hcz11_0 := c0_ BK828; have hfz11_0 := bF_ BK828.out 0) | ((with_reducible refine gD_ (N := 17) rfl ?_); refine Kd.R_make (Kd.int .i64) _ 3 rfl (N := 17) rfl 56 _ _ rfl (l0_0.length : Int) rfl rfl Tryz.underlying56 (.int .i64 0) 8 info3 rfl (by decide) (by omega) 0 (ok := fun _ => True) (okp := fun _ => True) rfl (fun _ hk => hk) trivial (oD_ ‹_›) (Nat.le_trans (Nat.mul_le_mul_right _ (oD_ ‹_› : (l0_0.length : Int).toNat ≤ 35184372088832)) (by omega)) (Below.refl _ _) (Nat.le_refl _) ?_; intro v834 w12 ho13 hb hg_ hnew_; clear hg_ hnew_; (rw [← Ny833.out] at ho13); have HO835 := aM_ (k5_ (Kd.R_new' ho13 (Kd.R_lt HO831.out)) (bZ_ HB.out)); replace HO831 := aM_ (Kd.R_elder' HO831.out (Kd.R_base ho13) hb); replace BK828 := b5_ BK828 hb; replace HB := b4_ HB hb; clear hb ho13))
 go_loopg [6] k (fun kq v6 w' => ∃ (x5_1 : List Int) (x6_1 : Int), v6 = .int .i64 x6_1 ∧ Aside0 (spec_JoiningStates.l0 kq y829 x5_1 x6_1 l0_0 = some (r1, r2)) ∧ Aside0 (kq ≤ k) ∧ Aside0 (Kd.R (Kd.int .i64) 3 w' w.heap.size (fun k_ => some k_ ≠ (v834 : Value).ownBlock) v830 y829) ∧ Aside0 (Kd.R (Kd.int .i64) 3 w' w.heap.size (fun k_ => some k_ ≠ (v830 : Value).ownBlock) v834 x5_1) ∧ Aside0 (w'.heap[gb828]? = some (.cells #[(.slice A0_0 l0_0.length c0_0)] 33 (0, 0))) ∧ Aside0 (Below w.heap.size w w'))
 case atStart => exact ⟨(y833), (0), (by rfl), H', ⟨Nat.le_refl _⟩, ⟨by exact kM_ HO831.out (fun _ hk => hk.2)⟩, ⟨by exact kM_ HO835.out (fun _ hk => hk.2)⟩, ⟨BK828.out⟩, ⟨HB.out⟩⟩
 clear H'
 try clear p2
 try clear c4b0
 try clear c4b1
 try clear c5b0
 try clear c5b1
 try clear hcz11_0
 try clear hcz9_0
 try clear hfz11_0
 try clear hfz9_0
 obtain ⟨x5_1, x6_1, rfl, HA, HK1, HO_4, HO_5, BK828, HB⟩ := hrel
 cases gk with
 | zero => exact absurd HA.out (by simp [spec_JoiningStates.l0])
 | succ k1 =>
  have H := HA.out
  clear HA
  simp only [spec_JoiningStates.l0] at H
  by_cases c14 : x6_1 < (l0_0.length : Int)
  rotate_left
  ·
   rw [if_neg c14] at H
   have c14b0 := dF_ c14
   clear c14
   have H' := aM_ H
   clear H
   have hcz28_0 := c0_ BK828
   have hfz28_0 := bF_ BK828.out 0
   go_wp2
   go_loopg [4, 8] k1 (fun kq v4 v8 w' => ∃ (x4_2 : List Int) (x8_2 : Int), v8 = .int .i64 x8_2 ∧ Aside0 (spec_JoiningStates.l2 kq x4_2 x5_1 x8_2 = some (r1, r2)) ∧ Aside0 (kq ≤ k1) ∧ Aside0 (Kd.R (Kd.int .i64) 3 w' w.heap.size (fun k_ => some k_ ≠ (v834 : Value).ownBlock) v4 x4_2) ∧ Aside0 (Kd.R (Kd.int .i64) 3 w' w.heap.size (fun k_ => some k_ ≠ (v4 : Value).ownBlock) v834 x5_1) ∧ Aside0 (w'.heap[gb828]? = some (.cells #[(.slice A0_0 l0_0.length c0_0)] 33 (0, 0))) ∧ Aside0 (Below w.heap.size w w'))
   case atStart => exact ⟨(y829), (0), (by rfl), H', ⟨Nat.le_refl _⟩, ⟨HO_4.out⟩, ⟨HO_5.out⟩, ⟨BK828.out⟩, ⟨HB.out⟩⟩
   clear H'
   try clear p2
   try clear q2
   try clear hx2
   try clear hf2
   try clear c4b0
   try clear c4b1
   try clear c5b0
   try clear c5b1
   try clear p6
   try clear p8
   try clear q8
   try clear hx8
   try clear c14b0
   try clear c16b0
   try clear c17b0
   try clear c18b0
   try clear c19b0
   try clear c20b0
   try clear c21b0
   try clear p22
   try clear q22
   try clear hx22
   try clear hf22
   try clear hcz11_0
   try clear hcz15_0
   try clear hcz23_0
   try clear hcz27_0
   try clear hcz28_0
   try clear hcz9_0
   try clear hfz11_0
   try clear hfz15_0
   try clear hfz23_0
   try clear hfz27_0
   try clear hfz28_0
   try clear hfz9_0
   try clear hx22_0
   try clear hx836_0
   try clear hx836_1
   try clear hx837_0
   try clear hx837_1
   try clear hx838_0
   try clear hx838_1
   try clear hx839_0
   try clear p2
   try clear p22
   try clear p836
   try clear p837
   try clear p838
   try clear p839
   try clear q22
   try clear q836
   try clear q837
   try clear q838
   try clear q839
   obtain ⟨x4_2, x8_2, rfl, HA, HK2, HO_4, HO_5, BK828, HB⟩ := hrel
   cases gk with
   | zero => exact absurd HA.out (by simp [spec_JoiningStates.l2])
   | succ k2 =>
    have H := HA.out
    clear HA
    simp only [spec_JoiningStates.l2] at H
    by_cases c29 : x8_2 < (x5_1.length : Int)
    rotate_left
    ·
     rw [if_neg c29] at H
     have c29b0 := dF_ c29
     clear c29
     simp only [Option.some.injEq, Prod.mk.injEq] at H
     obtain ⟨rfl, rfl⟩ := H
     obtain ⟨Ao36, co36, eo36⟩ := kS_ HO_5.out
     subst eo36
     go_wp2
     go_ret2
     exact ⟨_, by rfl, by exact kM_ HO_4.out (fun _ hk => trivial), by exact HB.out⟩
    rw [if_pos c29] at H
    have c29b0 := dT_ c29
    clear c29
    by_cases c30 : 0 ≤ x8_2
    rotate_left
    ·
     rw [if_neg c30] at H
     exact absurd H (by simp)
    rw [if_pos c30] at H
    have c30b0 := dT_ c30
    clear c30
    by_cases c31 : (rd x5_1 x8_2) > 1
    ·
     rw [if_pos c31] at H
     have c31b0 := dT_ c31
     clear c31
     by_cases c32 : x4_2.length < 17592186044416
     rotate_left
     ·
      rw [if_neg c32] at H
      exact absurd H (by simp)
     rw [if_pos c32] at H
     have LMc32 := aM_ c32
     clear c32
     obtain ⟨y842, hy842⟩ : ∃ y_ : List Int, y_ = (x4_2 ++ [x8_2]) := ⟨_, rfl⟩
     replace H : (spec_JoiningStates.l2 k2 y842 x5_1 (wrap64 (x8_2 + 1))) = some (r1, r2) := by (try rw [hy842]); first | with_reducible exact H | with_reducible exact oS_ H | exact H
     have Ny842 := aM_ hy842
     clear hy842
     have H' := aM_ H
     clear H
     obtain ⟨Ao33, co33, eo33⟩ := kS_ HO_5.out
     subst eo33
     have p841 : 0 ≤ (x8_2 : Int) := oD_ ‹_›
     have q841 : x8_2 < (x5_1.length : Int) := oD_ ‹_›
     obtain ⟨ad841, e841, hx841_0⟩ := Kd.at_int (kR_ HO_5.out).2.2 x8_2 p841 q841
     cases e841
     replace p841 := eq_true p841
     replace q841 := eq_true q841
     go_wp2_with (first | ((with_reducible refine gate_builtin (b := .append) (xs := #[.tmp 62, .tmp 64]) rfl ?_); at_builtin; refine Kd.R_append (Kd.int .i64) (w0 := w) w.heap.size rfl (.tmp 62) (.tmp 64) 56 3 (.int .i64 0) 8 rfl Tryz.underlying56 info3 rfl (by decide) (by omega) u4 x4_2 x8_2 [.int .i64 x8_2] (fun k_ => some k_ ≠ (.slice (some ad841) x5_1.length co33 : Value).ownBlock) (fun _ => False) rfl rfl ?aP (fun _ hk => hk.elim) ?aF ?aO ?aB ?aS ?aL ?_; (case aP => exact rfl); (case aB => exact HB.out); (case aF => exact (fun k_ hk => Kd.fresh' (Kd.R_lt HO_5.out) k_ hk)); (case aO => exact HO_4.out); (case aS => exact (bZ_ HB.out)); (case aL => have := LMc32.out; omega); intro v843 w34 ho hb hg hat; rw [← Ny842.out] at ho; have n0_ := aM_ (Kd.R_after (ok := (fun _ => True)) (by exact kM_ HO_5.out (fun _ hk => ⟨trivial, hk⟩)) hg hat); have n1_ := aM_ (blk_grown (g := gb828) (o := .cells #[.slice A0_0 l0_0.length c0_0] 33 (0, 0)) BK828.out hg (k6_ HO_4.out BK828.out (by decide))); have n2_ := aM_ (hb); have n3_ := aM_ (ho); clear HO_5; clear BK828; clear HB; clear HO_4; have HO_5 := n0_; have BK828 := n1_; have HB := n2_; have HO844 := n3_; clear n0_ n1_ n2_ n3_; clear ho hb hg hat))
     go_roundg k2
     case measure => have := HK1.out; have := HK2.out; omega
     case rel => exact ⟨(y842), (wrap64 (x8_2 + 1)), (by rfl), H', ⟨by have := HK1.out; have := HK2.out; omega⟩, ⟨HO844.out⟩, ⟨by exact kM_ HO_5.out (fun _ hk => hk.2)⟩, ⟨BK828.out⟩, ⟨HB.out⟩⟩
    rw [if_neg c31] at H
    have c31b0 := dF_ c31
    clear c31
    have H' := aM_ H
    clear H
    obtain ⟨Ao35, co35, eo35⟩ := kS_ HO_5.out
    subst eo35
    have p841 : 0 ≤ (x8_2 : Int) := oD_ ‹_›
    have q841 : x8_2 < (x5_1.length : Int) := oD_ ‹_›
    obtain ⟨ad841, e841, hx841_0⟩ := Kd.at_int (kR_ HO_5.out).2.2 x8_2 p841 q841
    cases e841
    replace p841 := eq_true p841
    replace q841 := eq_true q841
    go_wp2
    go_roundg k2
    case measure => have := HK1.out; have := HK2.out; omega
    case rel => exact ⟨(x4_2), (wrap64 (x8_2 + 1)), (by rfl), H', ⟨by have := HK1.out; have := HK2.out; omega⟩, ⟨HO_4.out⟩, ⟨HO_5.out⟩, ⟨BK828.out⟩, ⟨HB.out⟩⟩
  rw [if_pos c14] at H
  have c14b0 := dT_ c14
  clear c14
  have H' := aM_ H
  clear H
  have hcz15_0 := c0_ BK828
  have hfz15_0 := bF_ BK828.out 0
  go_wp2
  go_loopg [7] k1 (fun kq v7 w' => ∃ (x5_2 : List Int) (x7_2 : Int), v7 = .int .i64 x7_2 ∧ Aside0 (spec_JoiningStates.l1 kq y829 x5_2 x6_1 x7_2 l0_0 = some (r1, r2)) ∧ Aside0 (kq ≤ k1) ∧ Aside0 (Kd.R (Kd.int .i64) 3 w' w.heap.size (fun k_ => some k_ ≠ (v834 : Value).ownBlock) v830 y829) ∧ Aside0 (Kd.R (Kd.int .i64) 3 w' w.heap.size (fun k_ => some k_ ≠ (v830 : Value).ownBlock) v834 x5_2) ∧ Aside0 (w'.heap[gb828]? = some (.cells #[(.slice A0_0 l0_0.length c0_0)] 33 (0, 0))) ∧ Aside0 (Below w.heap.size w w'))
  case atStart => exact ⟨(x5_1), (0), (by rfl), H', ⟨Nat.le_refl _⟩, ⟨HO_4.out⟩, ⟨HO_5.out⟩, ⟨BK828.out⟩, ⟨HB.out⟩⟩
  clear H'
  try clear p2
  try clear c4b0
  try clear c4b1
  try clear c5b0
  try clear c5b1
  try clear c14b0
  try clear hcz11_0
  try clear hcz15_0
  try clear hcz9_0
  try clear hfz11_0
  try clear hfz15_0
  try clear hfz9_0
  try clear p2
  obtain ⟨x5_2, x7_2, rfl, HA, HK2, HO_4, HO_5, BK828, HB⟩ := hrel
  cases gk with
  | zero => exact absurd HA.out (by simp [spec_JoiningStates.l1])
  | succ k2 =>
   have H := HA.out
   clear HA
   simp only [spec_JoiningStates.l1] at H
   by_cases c16 : 0 ≤ x6_1
   rotate_left
   ·
    rw [if_neg c16] at H
    exact absurd H (by simp)
   rw [if_pos c16] at H
   have c16b0 := dT_ c16
   clear c16
   by_cases c17 : x6_1 < (l0_0.length : Int)
   rotate_left
   ·
    rw [if_neg c17] at H
    exact absurd H (by simp)
   rw [if_pos c17] at H
   have c17b0 := dT_ c17
   clear c17
   by_cases c18 : x7_2 < (((rd_T72 l0_0 x6_1).f1).length : Int)
   rotate_left
   ·
    rw [if_neg c18] at H
    have c18b0 := dF_ c18
    clear c18
    have H' := aM_ H
    clear H
    have hcz27_0 := c0_ BK828
    have hfz27_0 := bF_ BK828.out 0
    have p836 : 0 ≤ (x6_1 : Int) := oD_ ‹_›
    have q836 : x6_1 < (l0_0.length : Int) := oD_ ‹_›
    obtain ⟨ad836, A836_1, c836_1, e836, hx836_0, hx836_1, hl836_1, hi836_1⟩ := at_T72 HR0_0.out x6_1 p836 q836
    cases e836
    replace hx836_0 := cb_ HB hx836_0
    replace hx836_1 := cb_ HB hx836_1
    have HR836_1 := aM_ hi836_1
    have HC836_1 := aM_ hl836_1
    clear hi836_1 hl836_1
    replace p836 := eq_true p836
    replace q836 := eq_true q836
    go_wp2
    go_roundg k2
    case measure => have := HK1.out; have := HK2.out; omega
    case rel => exact ⟨(x5_2), (wrap64 (x6_1 + 1)), (by rfl), H', ⟨by have := HK1.out; have := HK2.out; omega⟩, ⟨HO_4.out⟩, ⟨HO_5.out⟩, ⟨BK828.out⟩, ⟨HB.out⟩⟩
   rw [if_pos c18] at H
   have c18b0 := dT_ c18
   clear c18
   by_cases c19 : 0 ≤ x7_2
   rotate_left
   ·
    rw [if_neg c19] at H
    exact absurd H (by simp)
   rw [if_pos c19] at H
   have c19b0 := dT_ c19
   clear c19
   by_cases c20 : 0 ≤ ((rd_T88 ((rd_T72 l0_0 x6_1).f1) x7_2).f1)
   rotate_left
   ·
    rw [if_neg c20] at H
    exact absurd H (by simp)
   rw [if_pos c20] at H
   have c20b0 := dT_ c20
   clear c20
   by_cases c21 : ((rd_T88 ((rd_T72 l0_0 x6_1).f1) x7_2).f1) < (x5_2.length : Int)
   rotate_left
   ·
    rw [if_neg c21] at H
    exact absurd H (by simp)
   rw [if_pos c21] at H
   have c21b0 := dT_ c21
   clear c21
   obtain ⟨y840, hy840⟩ : ∃ y_ : List Int, y_ = (x5_2.set (((rd_T88 ((rd_T72 l0_0 x6_1).f1) x7_2).f1) : Int).toNat (wrap64 ((rd x5_2 ((rd_T88 ((rd_T72 l0_0 x6_1).f1) x7_2).f1)) + 1))) := ⟨_, rfl⟩
   replace H : (spec_JoiningStates.l1 k2 y829 y840 x6_1 (wrap64 (x7_2 + 1)) l0_0) = some (r1, r2) := by (try rw [hy840]); first | with_reducible exact H | with_reducible exact oS_ H | exact H
   have Ny840 := aM_ hy840
   clear hy840
   have H' := aM_ H
   clear H
   have hcz23_0 := c0_ BK828
   have hfz23_0 := bF_ BK828.out 0
   have p836 : 0 ≤ (x6_1 : Int) := oD_ ‹_›
   have q836 : x6_1 < (l0_0.length : Int) := oD_ ‹_›
   obtain ⟨ad836, A836_1, c836_1, e836, hx836_0, hx836_1, hl836_1, hi836_1⟩ := at_T72 HR0_0.out x6_1 p836 q836
   cases e836
   replace hx836_0 := cb_ HB hx836_0
   replace hx836_1 := cb_ HB hx836_1
   have HR836_1 := aM_ hi836_1
   have HC836_1 := aM_ hl836_1
   clear hi836_1 hl836_1
   replace p836 := eq_true p836
   replace q836 := eq_true q836
   have p837 : 0 ≤ (x6_1 : Int) := oD_ ‹_›
   have q837 : x6_1 < (l0_0.length : Int) := oD_ ‹_›
   obtain ⟨ad837, A837_1, c837_1, e837, hx837_0, hx837_1, hl837_1, hi837_1⟩ := at_T72 HR0_0.out x6_1 p837 q837
   obtain rfl : ad836 = ad837 := (by injection e837)
   replace hx837_0 := cb_ HB hx837_0
   replace hx837_1 := cb_ HB hx837_1
   have HR837_1 := aM_ hi837_1
   have HC837_1 := aM_ hl837_1
   clear hi837_1 hl837_1
   replace p837 := eq_true p837
   replace q837 := eq_true q837
   have ea_ := Option.some.inj (hx836_1.symm.trans hx837_1)
   injection ea_ with ea_ en_ ec_
   subst ea_
   subst ec_
   clear en_
   have p838 : 0 ≤ (x7_2 : Int) := oD_ ‹_›
   have q838 : x7_2 < (((rd_T72 l0_0 x6_1).f1).length : Int) := oD_ ‹_›
   obtain ⟨ad838, e838, hx838_0, hx838_1⟩ := at_T88 HR837_1.out x7_2 p838 q838
   cases e838
   replace hx838_0 := cb_ HB hx838_0
   replace hx838_1 := cb_ HB hx838_1
   replace p838 := eq_true p838
   replace q838 := eq_true q838
   obtain ⟨Ao24, co24, eo24⟩ := kS_ HO_5.out
   subst eo24
   have p839 : 0 ≤ (((rd_T88 ((rd_T72 l0_0 x6_1).f1) x7_2).f1) : Int) := oD_ ‹_›
   have q839 : ((rd_T88 ((rd_T72 l0_0 x6_1).f1) x7_2).f1) < (x5_2.length : Int) := oD_ ‹_›
   obtain ⟨ad839, e839, hx839_0⟩ := Kd.at_int (kR_ HO_5.out).2.2 ((rd_T88 ((rd_T72 l0_0 x6_1).f1) x7_2).f1) p839 q839
   cases e839
   replace p839 := eq_true p839
   replace q839 := eq_true q839
   have p22 : 0 ≤ (((rd_T88 ((rd_T72 l0_0 x6_1).f1) x7_2).f1) : Int) := oD_ ‹_›
   have q22 : (((rd_T88 ((rd_T72 l0_0 x6_1).f1) x7_2).f1) : Int) < ((x5_2.length : Int) : Int) := oD_ ‹_›
   obtain ⟨go22, co22, eo22, gb22, gl22, cl22, HG22⟩ := Kd.R_form HO_5.out (by omega)
   (cases eo22)
   have GB22 := aM_ gb22
   have GG22 := aM_ HG22
   clear gb22 gl22 HG22
   (simp only [add_plain] at hx839_0)
   (try simp only [Int.toNat_natCast] at hx839_0)
   obtain ⟨hx22_0, hf22_0⟩ := kC_ 0 HO_5.out (((rd_T88 ((rd_T72 l0_0 x6_1).f1) x7_2).f1) : Int) p22 q22
   (try simp only [Int.toNat_natCast] at hx22_0 hf22_0)
   replace p22 := eq_true p22
   replace q22 := eq_true q22
   have HP25 := Kd.R_putg HO_5.out (((rd_T88 ((rd_T72 l0_0 x6_1).f1) x7_2).f1) : Int) (wrap64 ((rd x5_2 ((rd_T88 ((rd_T72 l0_0 x6_1).f1) x7_2).f1)) + 1))
   go_wp2_with (first | ((with_reducible refine gate_store (t := 3) (p := 50) rfl ?_); refine store_event (t := 3) (p := 50) (v := ?vo_w26) (w1 := (wr.setCell ⟨go22, (((rd_T88 ((rd_T72 l0_0 x6_1).f1) x7_2).f1) : Int).toNat, none⟩ (.int .i64 (wrap64 ((rd x5_2 ((rd_T88 ((rd_T72 l0_0 x6_1).f1) x7_2).f1)) + 1))))) ?hg ?ho ?hn ?hr ?_; (case ho => rfl); (case hg => rfl); (case hn => rfl); (case hr => (go_simp; done)); intro w26 hw; have hg : wr.grownBy w26 (some go22) := (by rw [hw]; exact HP25.2); have hp_ : Kd.R (Kd.int .i64) 3 w26 w.heap.size (fun k_ => some k_ ≠ (v830 : Value).ownBlock) (.slice (some ⟨go22, 0, none⟩) x5_2.length co24) y840 := (by rw [hw, Ny840.out]; exact HP25.1); clear HP25; replace HO_4 := aM_ (Kd.R_after (v := (.slice (some ⟨go22, 0, none⟩) x5_2.length co24)) (v1 := (.slice (some ⟨go22, 0, none⟩) x5_2.length co24)) (ok := (fun _ => True)) (by exact kM_ HO_4.out (fun _ hk => ⟨trivial, hk⟩)) hg (.inl rfl)); replace BK828 := aM_ (blk_grown (g := gb828) (o := .cells #[.slice (some ad836) l0_0.length c0_0] 33 (0, 0)) BK828.out hg (k6_ HO_5.out BK828.out (by decide))); replace HO_5 := aM_ (hp_); replace HB := aM_ ((by rw [hw]; exact bS_ (HB.out) GB22.out : Below w.heap.size w w26)); clear hg hw hp_))
   go_roundg k2
   case measure => have := HK1.out; have := HK2.out; omega
   case rel => exact ⟨(y840), (wrap64 (x7_2 + 1)), (by rfl), H', ⟨by have := HK1.out; have := HK2.out; omega⟩, ⟨by exact kM_ HO_4.out (fun _ hk => hk.2)⟩, ⟨HO_5.out⟩, ⟨BK828.out⟩, ⟨HB.out⟩⟩
def laws_FnExactJoiningStates.f (k : Nat) (l0_0 : List S90) : Option Bool := (some true : Option Bool)
structure laws_FnExactJoiningStates.All (k : Nat) (l : List S90) (tx tx2 : List S72) (r1 r1m : List Int) (r2 : Bool) (kx m : Int) : Prop where
 hto : laws_toMachine.f k l = some tx
 sp : spec_JoiningStates.f k tx = some (r1, r2)
 im : impl_JoiningStates.f k tx = some (r1, r2)
 eqm : laws_eqIntS.f k r1 r1 = some true
 eqt : laws_eqMachine.f k tx tx = some true
 mkt : laws_markMachine.f tx 1 = some (kx, tx2)
 kpos : ¬ kx < 0
 mkm : laws_markIntS.f k r1 1 = some (m, r1m)
 hem : laws_heldIntS.f k r1m 1 = some m
 mpos : ¬ m < 0
def laws_FnExactJoiningStates.Pure : Prop := ∀ (l : List S90), l.length ≤ 9223372036854775807 → (∀ x ∈ l, x.f1.length ≤ 9223372036854775807) → ∃ k0 c, laws_szMachine.f k0 l 1048576 = some c ∧ (c < 0 ∨ (¬ c < 0 ∧ ∃ k tx tx2 r1 r1m r2 kx m, laws_FnExactJoiningStates.All k l tx tx2 r1 r1m r2 kx m))
structure laws_FnExactJoiningStates.I4 (w W : World) (A0 : Option Addr) (n0 c0 p : Nat) (vW : Value) (lw : List Int) : Prop where
 h1 : W.heap[w.heap.size]? = some (.cells #[.slice A0 n0 c0] 24 (0, 0))
 hW : Kd.R (Kd.int .i64) 3 W w.heap.size (fun k => k < p) vW lw
 hB : Below w.heap.size w W
 lo : w.heap.size < p
structure laws_FnExactJoiningStates.I7 (w W : World) (A0 : Option Addr) (n0 c0 p b6 q : Nat) (okG : Nat → Prop) (vW vG : Value) (lw lg : List Int) : Prop where
 i4 : laws_FnExactJoiningStates.I4 w W A0 n0 c0 p vW lw
 hG : Kd.R (Kd.int .i64) 3 W w.heap.size okG vG lg
 lo : p ≤ b6 ∧ b6 < q
section
variable {w W W1 : World} {A0 : Option Addr} {n0 c0 p b6 q : Nat} {okG S : Nat → Prop} {vW vG : Value} {lw lg : List Int}
theorem laws_FnExactJoiningStates.I4.below (h : laws_FnExactJoiningStates.I4 w W A0 n0 c0 p vW lw) (hb : Below W.heap.size W W1) : laws_FnExactJoiningStates.I4 w W1 A0 n0 c0 p vW lw :=
 ⟨bB_ h.h1 hb, kB_ h.hW hb, bT_ h.hB hb, h.lo⟩
theorem laws_FnExactJoiningStates.I4.kept (h : laws_FnExactJoiningStates.I4 w W A0 n0 c0 p vW lw) (hk : Kept W W1 S) (hb : Below w.heap.size w W1) (hS : ∀ k, S k → p ≤ k) : laws_FnExactJoiningStates.I4 w W1 A0 n0 c0 p vW lw :=
 ⟨blk_kept h.h1 hk (fun z => by have := hS _ z; have := h.lo; omega), Kd.R_kept h.hW hk (fun k hk z => by have := hS _ z; omega), hb, h.lo⟩
theorem laws_FnExactJoiningStates.I7.below (h : laws_FnExactJoiningStates.I7 w W A0 n0 c0 p b6 q okG vW vG lw lg) (hb : Below W.heap.size W W1) : laws_FnExactJoiningStates.I7 w W1 A0 n0 c0 p b6 q okG vW vG lw lg :=
 ⟨h.i4.below hb, kB_ h.hG hb, h.lo⟩
theorem laws_FnExactJoiningStates.I7.kept (h : laws_FnExactJoiningStates.I7 w W A0 n0 c0 p b6 q (fun k => b6 < k ∧ k < q) vW vG lw lg) (hk : Kept W W1 S) (hb : Below w.heap.size w W1) (hS : ∀ k, S k → p ≤ k ∧ k < b6) : laws_FnExactJoiningStates.I7 w W1 A0 n0 c0 p b6 q (fun k => b6 < k ∧ k < q) vW vG lw lg :=
 ⟨h.i4.kept hk hb (fun k z => (hS k z).1), Kd.R_kept h.hG hk (fun k hk z => by have := hS _ z; omega), h.lo⟩
end
theorem laws_FnExactJoiningStates.C_below {w W : World} {A : Option Addr} {n : Nat} {l : List S90} (h : Kd.C k90 w A n l) (hb : Below w.heap.size w W) : Kd.C k90 W A n l := k4_ h hb
theorem laws_FnExactJoiningStates.walk (P : laws_FnExactJoiningStates.Pure) (w : World) (A0 : Option Addr) (c0 : Nat) (l0_0 : List S90) (hr0 : Kd.C k90 w A0 l0_0.length l0_0) (hc0 : l0_0.length ≤ c0) :
  Calls Tryz.prog 12 #[.agg #[.slice A0 l0_0.length c0]] w fun e w' => e = .returned (.bool true) ∧ Below w.heap.size w w' := by
 obtain ⟨k0, c, hz, hP⟩ := P l0_0 hr0.2.1 (by
  intro x hx
  obtain ⟨i, hi, rfl⟩ := List.getElem_of_mem hx
  obtain ⟨_, _, _, _, _, _, _, h9⟩ := at_T90 hr0 (i : Int) (by omega) (by omega)
  have h8 := h9.2.1
  unfold rd_T90 at h8
  rw [Int.toNat_natCast, List.getD_eq_getElem?_getD, List.getElem?_eq_getElem hi] at h8
  exact h8)
 have hu24 := Tryz.underlying24
 have hu33 := Tryz.underlying33
 have HZ := aM_ (fun (W : World) (hb : Below w.heap.size w W) => laws_szMachine.calls k0 A0 c0 l0_0 1048576 c W (laws_FnExactJoiningStates.C_below hr0 hb) hc0 hz)
 have HR := aM_ hr0
 have HC := aM_ hc0
 clear hr0 hc0 hz P
 have h1n : (w.alloc (.cells #[.slice A0 l0_0.length c0] 24 (0, 0))).heap[w.heap.size]? = some (.cells #[.slice A0 l0_0.length c0] 24 (0, 0)) := blk_new _ _
 have hbn : Below w.heap.size w (w.alloc (.cells #[.slice A0 l0_0.length c0] 24 (0, 0))) := (Below.refl w.heap.size w).alloc (Nat.le_refl _) _
 have H1 := aM_ (And.intro h1n hbn)
 clear h1n hbn
 rcases hP with hneg | ⟨hneg, k, tx, tx2, r1, r1m, r2, kx, m, hA⟩
 ·
  have c3 : decide (c < 0) = true := dT_ hneg
  clear hneg
  go_enter Tryz.func12, Tryz.ntmps12
  go_wp2_with fail
  refine (HZ.out _ H1.out.2).mono ?_
  rintro e w1 ⟨rfl, hb⟩
  have HB := aM_ (bT_ H1.out.2 hb)
  clear hb
  go_wp2_with fail
  go_ret
  exact ⟨rfl, HB.out⟩
 have c3 : decide (c < 0) = false := dF_ hneg
 have HA := aM_ hA
 clear hneg hA
 go_enter Tryz.func12, Tryz.ntmps12
 go_wp2_with fail
 refine (HZ.out _ H1.out.2).mono ?_
 rintro e w1 ⟨rfl, hb⟩
 have HB := aM_ (And.intro (bB_ H1.out.1 hb) (bT_ H1.out.2 hb))
 clear hb H1 HZ
 have h1c : w1.cell? ⟨w.heap.size, 0, none⟩ = some (.slice A0 l0_0.length c0) := (bC_ HB.out.1 0).trans rfl
 go_wp2_with fail
 refine (laws_toMachine.calls k _ _ l0_0 tx _ (laws_FnExactJoiningStates.C_below HR.out HB.out.2) HC.out HA.out.hto).mono ?_
 rintro e w2 ⟨v0, rfl, ho, hb⟩
 have HB2 := aM_ (And.intro (bB_ HB.out.1 hb) (bT_ HB.out.2 hb))
 obtain ⟨A1, c1, e1⟩ := Kd.S_slice ho
 subst e1
 have HO := aM_ ho
 clear ho hb HB h1c
 go_wp2_with fail
 refine (spec_JoiningStates.calls k _ _ tx r1 r2 _ (Kd.S_reads' HO.out).2.2 (Kd.S_reads' HO.out).2.1 HA.out.sp).mono ?_
 rintro e w3 ⟨vW, rfl, hs, hb⟩
 obtain ⟨A2, c2, e2⟩ := kS_ hs
 subst e2
 have hlt := bL_ (bB_ HB2.out.1 hb)
 have h4 : laws_FnExactJoiningStates.I4 w w3 A0 l0_0.length c0 w3.heap.size (.slice A2 r1.length c2) r1 := ⟨bB_ HB2.out.1 hb, kM_ (Kd.R_bound (k5_ hs (bZ_ HB2.out.2))) (fun k hk => hk.2.2.1), bT_ HB2.out.2 hb, hlt⟩
 have H4 := aM_ h4
 clear hs hb HB2 HO h4 hlt
 have h1c : w3.cell? ⟨w.heap.size, 0, none⟩ = some (.slice A0 l0_0.length c0) := (bC_ H4.out.h1 0).trans rfl
 go_wp2_with fail
 refine (laws_toMachine.calls k _ _ l0_0 tx _ (laws_FnExactJoiningStates.C_below HR.out H4.out.hB) HC.out HA.out.hto).mono ?_
 rintro e w4 ⟨vX, rfl, ho, hb⟩
 have H5 := aM_ (H4.out.below hb)
 obtain ⟨A3, c3, e3⟩ := Kd.S_slice ho
 subst e3
 have HX := aM_ (show Kd.S k72 72 w4 w.heap.size (fun k => w3.heap.size ≤ k ∧ k < w4.heap.size) (.slice A3 tx.length c3) tx from Kd.S_lower (Kd.S_mono (Kd.S_bound ho) (fun k hk => ⟨hk.2.1, hk.2.2.1⟩)) (bZ_ H4.out.hB))
 have HLT := aM_ (bZ_ hb)
 clear ho hb H4 h1c
 have h6 : (w4.alloc (.cells #[.slice A3 tx.length c3] 33 (0, 0))).heap[w4.heap.size]? = some (.cells #[.slice A3 tx.length c3] 33 (0, 0)) := blk_new _ _
 have H6 := aM_ h6
 have h6c : (w4.alloc (.cells #[.slice A3 tx.length c3] 33 (0, 0))).cell? ⟨w4.heap.size, 0, none⟩ = some (.slice A3 tx.length c3) := (bC_ H6.out 0).trans rfl
 clear h6
 have HX6 := aM_ (Kd.S_alloc HX.out (.cells #[.slice A3 tx.length c3] 33 (0, 0)))
 have H56 := aM_ (H5.out.below ((Below.refl w4.heap.size w4).alloc (Nat.le_refl _) (.cells #[.slice A3 tx.length c3] 33 (0, 0))))
 clear HX H5
 go_wp2_with fail
 refine (impl_JoiningStates.calls k _ _ tx r1 r2 _ (Kd.S_reads' HX6.out).2.2 (Kd.S_reads' HX6.out).2.1 HA.out.im).mono ?_
 rintro e w5 ⟨vG, rfl, hs, hb⟩
 obtain ⟨A4, c4, e4⟩ := kS_ hs
 subst e4
 have hbs := bZ_ hb
 have HL5 := aM_ (show w4.heap.size < w5.heap.size by simp at hbs; omega)
 have HX7 := aM_ (Kd.S_below HX6.out hb)
 have H6b := b5_ H6 hb
 have h7 : laws_FnExactJoiningStates.I7 w w5 A0 l0_0.length c0 w3.heap.size w4.heap.size w5.heap.size (fun k => w4.heap.size < k ∧ k < w5.heap.size) (.slice A2 r1.length c2) (.slice A4 r1.length c4) r1 r1 := ⟨H56.out.below hb, k5_ (kM_ (Kd.R_bound hs) (fun k hk => ⟨by have := hk.2.1; simp at this; omega, hk.2.2.1⟩)) (bZ_ H56.out.hB), HLT.out, HL5.out⟩
 have H7 := aM_ h7
 clear h7 hs hb hbs HX6 H56 H6 h6c
 have er2 : (r2 != r2) = false := by simp
 go_wp2_with fail
 refine (laws_eqIntS.calls k _ _ r1 _ _ r1 true _ (kR_ H7.out.hG).2.2 (kR_ H7.out.hG).2.1 (kR_ H7.out.i4.hW).2.2 (kR_ H7.out.i4.hW).2.1 HA.out.eqm).mono ?_
 rintro e w6 ⟨rfl, hb0⟩
 have hb : Below w5.heap.size w5 w6 := by first | exact hb0 | exact hb0.below
 have H8 := aM_ (H7.out.below hb)
 have HX8 := aM_ (Kd.S_below HX7.out hb)
 have H6c := b5_ H6b hb
 clear hb hb0 H7 HX7 H6b
 go_wp2_with fail
 have H9 := aM_ (H8.out.below (bD_ (Below.refl w6.heap.size w6)))
 have HX9 := aM_ (Kd.S_drew HX8.out)
 have H6d := aM_ (b1_ H6c.out)
 clear H8 HX8 H6c
 refine start_ (n := 5) (S := fun w' => w'.cell? ⟨w4.heap.size, 0, none⟩ = some (.slice A3 tx.length c3) ∧ w'.cell? ⟨w.heap.size, 0, none⟩ = some (.slice A0 l0_0.length c0)) (ds := []) #[fy, fy, fy, fy, fy] (by kernel_rfl) rfl rfl ⟨(bC_ H6d.out 0).trans rfl, (bC_ H9.out.i4.h1 0).trans rfl⟩ (fun hHeld => ?_)
 generalize w6.drew = w7 at H9 HX9 H6d hHeld ⊢
 refine take_ (i := 0) (N := some 41) (v := ?_) (a' := ?_) #[ty, fy, fy, fy, fy] rfl rfl (by kernel_rfl) (fun _ _ _ h => h) (Or.inl ⟨by rfl, ?_⟩) hHeld ?_ ?_; rotate_left; (rintro w' ⟨s0, s1⟩; go_simp; with_reducible rfl); rotate_left; (simp only [Act.put, sA_, sB_, sC_, i6_, i3_]; rfl)
 refine take_ (i := 1) (N := some 42) (v := ?_) (a' := ?_) #[ty, ty, fy, fy, fy] rfl rfl (by kernel_rfl) (fun _ _ _ h => h) (Or.inl ⟨by rfl, ?_⟩) hHeld ?_ ?_; rotate_left; (rintro w' ⟨s0, s1⟩; go_simp; with_reducible rfl); rotate_left; (simp only [Act.put, sA_, sB_, sC_, i6_, i3_]; rfl)
 refine one_ (i := 2) (N := some 43) #[ty, ty, ty, fy, fy] rfl rfl (by kernel_rfl) (by decide) (fun K hK => ?_)
 refine goes_ Tryz.func15 (by kernel_rfl) rfl #[.agg #[.slice A0 l0_0.length c0]] (by rfl) rfl rfl (by (try simp only [sD_, sE_, sF_]); first | done | rfl) ?_
 refine (laws_toMachine.calls k _ _ l0_0 tx _ (laws_FnExactJoiningStates.C_below HR.out H9.out.i4.hB) HC.out HA.out.hto).mono ?_
 rintro e w8 ⟨vY, rfl, ho, hb⟩
 refine ⟨_, rfl, ?_⟩
 obtain ⟨A5, c5, e5⟩ := Kd.S_slice ho
 subst e5
 have HY := aM_ ho
 have H10 := aM_ (H9.out.below hb)
 have HX10 := aM_ (Kd.S_below HX9.out hb)
 have H6e := b5_ H6d hb
 clear ho hb H9 HX9 H6d hHeld
 refine hK.out _ _ ⟨(bC_ H6e.out 0).trans rfl, (bC_ H10.out.i4.h1 0).trans rfl⟩ (fun hHeld => ?_)
 clear hK K
 refine norm_ (by show Act.put _ (some 43) _ = _; simp only [Act.put, sA_, sB_, sC_, i6_, i3_]; rfl) ?_
 refine one_ (i := 3) (N := some 44) #[ty, ty, ty, ty, fy] rfl rfl (by kernel_rfl) (by decide) (fun K hK => ?_)
 refine goes_ Tryz.func18 (by kernel_rfl) rfl #[.agg #[.slice A3 tx.length c3], .agg #[.slice A5 tx.length c5]] (by rfl) rfl rfl (by (try simp only [sD_, sE_, sF_]); first | done | rfl) ?_
 refine (laws_eqMachine.calls k _ _ tx _ _ tx true _ (Kd.S_reads' HX10.out).2.2 (Kd.S_reads' HX10.out).2.1 (Kd.S_reads' HY.out).2.2 (Kd.S_reads' HY.out).2.1 HA.out.eqt).mono ?_
 rintro e w9 ⟨rfl, hb⟩
 refine ⟨_, rfl, ?_⟩
 have H11 := aM_ (H10.out.below hb)
 have HX11 := aM_ (Kd.S_below HX10.out hb)
 have H6f := b5_ H6e hb
 clear hb H10 HX10 H6e hHeld HY
 refine hK.out _ _ ⟨(bC_ H6f.out 0).trans rfl, (bC_ H11.out.i4.h1 0).trans rfl⟩ (fun hHeld => ?_)
 clear hK K
 refine norm_ (by show Act.put _ (some 44) _ = _; simp only [Act.put, sA_, sB_, sC_, i6_, i3_]; rfl) ?_
 refine pure_ (i := 4) (N := some 45) (v := ?_) (a' := ?_) #[ty, ty, ty, ty, ty] rfl rfl (by kernel_rfl) (fun _ _ _ h => h) (Or.inl ⟨by rfl, ?_⟩) ?_ ?_; rotate_left; (intro w'; go_simp; with_reducible rfl); rotate_left; (simp only [Act.put, sA_, sB_, sC_, i6_, i3_]; rfl)
 refine done_ (by kernel_rfl) ?_
 clear hHeld
 have h6c : w9.cell? ⟨w4.heap.size, 0, none⟩ = some (.slice A3 tx.length c3) := (bC_ H6f.out 0).trans rfl
 go_wp2_with fail
 refine (laws_markMachine.calls (fun k => w3.heap.size ≤ k ∧ k < w4.heap.size) (.slice A3 tx.length c3) tx 1 kx tx2 w w9 H11.out.i4.hB HX11.out HA.out.mkt).mono ?_
 rintro e w10 ⟨rfl, _, hb, hk⟩
 have H12 := aM_ (H11.out.kept hk hb (fun k z => z))
 clear hb hk H11 HX11 H6f h6c
 have ck : decide (kx < 0) = false := dF_ HA.out.kpos
 go_wp2_with fail
 refine (laws_eqIntS.calls k _ _ r1 _ _ r1 true _ (kR_ H12.out.hG).2.2 (kR_ H12.out.hG).2.1 (kR_ H12.out.i4.hW).2.2 (kR_ H12.out.i4.hW).2.1 HA.out.eqm).mono ?_
 rintro e w11 ⟨rfl, hb0⟩
 have hb : Below w10.heap.size w10 w11 := by first | exact hb0 | exact hb0.below
 have H13 := aM_ (H12.out.below hb)
 clear hb hb0 H12
 go_wp2_with fail
 refine (laws_markIntS.calls k (fun k => w4.heap.size < k ∧ k < w5.heap.size) (.slice A4 r1.length c4) r1 1 m r1m w w11 H13.out.i4.hB H13.out.hG HA.out.mkm).mono ?_
 rintro e w12 ⟨rfl, hg, hb, hk⟩
 have hlen : r1m.length = r1.length := ((kR_ hg).1).symm
 have h14 : laws_FnExactJoiningStates.I7 w w12 A0 l0_0.length c0 w3.heap.size w4.heap.size w5.heap.size (fun k_ => ((w4.heap.size < k_ ∧ k_ < w5.heap.size) ∨ w11.heap.size ≤ k_)) (.slice A2 r1.length c2) (.slice A4 r1.length c4) r1 r1m := ⟨H13.out.i4.kept hk hb (fun k z => by have := H13.out.lo; omega), hg, H13.out.lo⟩
 have H14 := aM_ h14
 have HLN := aM_ hlen
 clear h14 hg hb hk hlen H13
 go_wp2_with fail
 have hh := fun (W : World) (hC : Kd.C (Kd.int .i64) W A4 r1m.length r1m) (hc : r1m.length ≤ c4) => laws_heldIntS.calls k A4 c4 r1m 1 m W hC hc HA.out.hem
 rw [HLN.out] at hh
 have HH := aM_ hh
 clear hh
 refine (HH.out w12 (by rw [← HLN.out]; exact (kR_ H14.out.hG).2.2) (kR_ H14.out.hG).2.1).mono ?_
 rintro e w13 ⟨rfl, hb0⟩
 have hb : Below w12.heap.size w12 w13 := by first | exact hb0 | exact hb0.below
 have H15 := aM_ (H14.out.below hb)
 clear hb hb0 H14
 have cm : decide (m < 0) = false := dF_ HA.out.mpos
 have cmm : (m != m) = false := by simp
 have h1c : w13.cell? ⟨w.heap.size, 0, none⟩ = some (.slice A0 l0_0.length c0) := (bC_ H15.out.i4.h1 0).trans rfl
 go_wp2_with fail
 refine (laws_toMachine.calls k _ _ l0_0 tx _ (laws_FnExactJoiningStates.C_below HR.out H15.out.i4.hB) HC.out HA.out.hto).mono ?_
 rintro e w14 ⟨v6, rfl, ho, hb⟩
 obtain ⟨A6, c6, e6⟩ := Kd.S_slice ho
 subst e6
 have HO6 := aM_ ho
 have H16 := aM_ (H15.out.below hb)
 clear ho hb H15 h1c
 go_wp2_with fail
 refine (impl_JoiningStates.calls k _ _ tx r1 r2 _ (Kd.S_reads' HO6.out).2.2 (Kd.S_reads' HO6.out).2.1 HA.out.im).mono ?_
 rintro e w15 ⟨v7, rfl, hs, hb⟩
 obtain ⟨A7, c7, e7⟩ := kS_ hs
 subst e7
 have HS7 := aM_ hs
 have H17 := aM_ (H16.out.below hb)
 clear hs hb H16 HO6
 go_wp2_with fail
 refine (laws_eqIntS.calls k _ _ r1 _ _ r1 true _ (kR_ HS7.out).2.2 (kR_ HS7.out).2.1 (kR_ H17.out.i4.hW).2.2 (kR_ H17.out.i4.hW).2.1 HA.out.eqm).mono ?_
 rintro e w16 ⟨rfl, hb0⟩
 have hb : Below w15.heap.size w15 w16 := by first | exact hb0 | exact hb0.below
 have H18 := aM_ (H17.out.below hb)
 clear hb hb0 H17 HS7
 go_wp2_with fail
 refine (HH.out w16 (by rw [← HLN.out]; exact (kR_ H18.out.hG).2.2) (kR_ H18.out.hG).2.1).mono ?_
 rintro e w17 ⟨rfl, hb0⟩
 have hb : Below w16.heap.size w16 w17 := by first | exact hb0 | exact hb0.below
 have H19 := aM_ (H18.out.below hb)
 clear hb hb0 H18
 go_wp2_with fail
 go_ret
 exact ⟨rfl, H19.out.i4.hB⟩
end Go.Proofs.YtnnkedeohfbkeaaGreatDoor.P
namespace Go.Proofs.YtnnkedeohfbkeaaGreatDoor.L
open Go.RowKit Go.Proofs.YtnnkedeohfbkeaaGreatDoor.P Go.Proofs.YtnnkedeohfbkeaaGreatDoor.M Go.Proofs.YtnnkedeohfbkeaaGreatDoorW.PrintWords Go.Proofs.YtnnkedeohfbkeaaGreatDoorW.PrintLast Go.Proofs.YtnnkedeohfbkeaaGreatDoorW.PrintMore
theorem eqIntS_loop (l m : List Int) (hl : l.length ≤ 4611686018427387903) (h : l.length = m.length) : ∀ (d n : Nat), n + d = l.length → Ev (fun k => laws_eqIntS.l0 k l m (n : Int)) (decide (l.drop n = m.drop n)) := by
 intro d
 induction d with
 | zero =>
  intro n hn
  refine Ev.step (fun k => laws_eqIntS.l0.eq_2 ..) (Ev.ifF (by omega) ?_)
  rw [List.drop_of_length_le (by omega), List.drop_of_length_le (by omega)]; simpa using Ev.now true
 | succ d ih =>
  intro n hn
  have h1 : n < l.length := by omega
  refine Ev.step (fun k => laws_eqIntS.l0.eq_2 ..) (Ev.ifT (by omega) (Ev.ifT (by omega) (Ev.ifT (by omega) ?_)))
  rw [drop_cons_getD 0 h1, drop_cons_getD 0 (show n < m.length from by omega)]
  simp only [rd_nat]
  by_cases e : l.getD n 0 = m.getD n 0
  ·
   refine Ev.ifT e ?_
   simpa only [wrap64_succ n (by omega), e, List.cons.injEq, true_and] using ih (n + 1) (by omega)
  refine Ev.ifF e ?_
  simpa only [e, List.cons.injEq, false_and, decide_false] using Ev.now false
theorem eqIntS_ev (l m : List Int) (hl : l.length ≤ 4611686018427387903) : Ev (fun k => laws_eqIntS.f k l m) (decide (l = m)) := by
 by_cases h : l.length = m.length
 ·
  refine Ev.congr (fun k => by unfold laws_eqIntS.f; rw [if_pos (by omega)]) ?_
  simpa using eqIntS_loop l m hl h l.length 0 (by omega)
 refine Ev.congr (fun k => by unfold laws_eqIntS.f; rw [if_neg (by omega)]) ?_
 have : l ≠ m := fun e => h (by rw [e])
 simpa [this] using Ev.now false
def marks (n : Nat) (l : List Int) : List Int := (List.range n).map (fun j : Nat => (j : Int) + 1) ++ l.drop n
theorem marks_length (n : Nat) (l : List Int) (h : n ≤ l.length) : (marks n l).length = l.length := by simp [marks]; omega
theorem marks_set (n : Nat) (l : List Int) (h : n < l.length) : (marks n l).set n ((n : Int) + 1) = marks (n + 1) l := by
 unfold marks
 rw [List.set_append_right _ _ (by simp), show ((List.range n).map fun j : Nat => (j : Int) + 1).length = n from by simp, Nat.sub_self, drop_cons_getD 0 h, List.set_cons_zero, List.range_succ, List.map_append, List.append_assoc]
 rfl
theorem markIntS_loop (l : List Int) (hl : l.length ≤ 4611686018427387900) : ∀ (d n : Nat), n + d = l.length → Ev (fun k => laws_markIntS.l0 k (marks n l) ((n : Int) + 1) (n : Int)) ((l.length : Int) + 1, marks l.length l) := by
 intro d
 induction d with
 | zero =>
  intro n hn
  refine Ev.step (fun k => laws_markIntS.l0.eq_2 ..) (Ev.ifF (by rw [marks_length n l (by omega)]; omega) ?_)
  rw [show n = l.length from by omega]; exact Ev.now _
 | succ d ih =>
  intro n hn
  refine Ev.step (fun k => laws_markIntS.l0.eq_2 ..) (Ev.ifT (by rw [marks_length n l (by omega)]; omega) (Ev.ifT (by omega) ?_))
  have := ih (n + 1) (by omega)
  rw [← marks_set n l (by omega)] at this
  rw [show wrap64 ((n : Int) + 1 + 1) = ((n + 1 : Nat) : Int) + 1 from by rw [wrap64_id (by omega) (by omega)]; omega]
  simpa only [Int.toNat_natCast, wrap64_succ n (by omega)] using this
theorem markIntS_ev (l : List Int) (hl : l.length ≤ 4611686018427387900) : Ev (fun k => laws_markIntS.f k l 1) ((l.length : Int) + 1, marks l.length l) := by
 have := markIntS_loop l hl l.length 0 (by omega)
 simpa [laws_markIntS.f, marks] using this
theorem marks_getD (n : Nat) (l : List Int) (j : Nat) (h : j < n) : (marks n l).getD j 0 = (j : Int) + 1 := by
 simp [marks, List.getD_eq_getElem?_getD, List.getElem?_append, h]
theorem heldIntS_loop (l : List Int) (hl : l.length ≤ 4611686018427387900) : ∀ (d n : Nat), n + d = l.length → Ev (fun k => laws_heldIntS.l0 k (marks l.length l) ((n : Int) + 1) (n : Int)) ((l.length : Int) + 1) := by
 intro d
 induction d with
 | zero =>
  intro n hn
  refine Ev.step (fun k => laws_heldIntS.l0.eq_2 ..) (Ev.ifF (by rw [marks_length _ l (by omega)]; omega) ?_)
  rw [show n = l.length from by omega]; exact Ev.now _
 | succ d ih =>
  intro n hn
  refine Ev.step (fun k => laws_heldIntS.l0.eq_2 ..) (Ev.ifT (by rw [marks_length _ l (by omega)]; omega) (Ev.ifT (by omega) (Ev.ifT (by rw [rd_nat, marks_getD _ _ _ (by omega)]) ?_)))
  rw [show wrap64 ((n : Int) + 1 + 1) = ((n + 1 : Nat) : Int) + 1 from by rw [wrap64_id (by omega) (by omega)]; omega]
  simpa only [wrap64_succ n (by omega)] using ih (n + 1) (by omega)
theorem heldIntS_ev (l : List Int) (hl : l.length ≤ 4611686018427387900) : Ev (fun k => laws_heldIntS.f k (marks l.length l) 1) ((l.length : Int) + 1) := by
 simpa [laws_heldIntS.f] using heldIntS_loop l hl l.length 0 (by omega)
end Go.Proofs.YtnnkedeohfbkeaaGreatDoor.L
namespace Go.Proofs.YtnnkedeohfbkeaaGreatDoor.Pure
open Go.RowKit Go.Proofs.YtnnkedeohfbkeaaGreatDoor.P Go.Proofs.YtnnkedeohfbkeaaGreatDoor.M Go.Proofs.YtnnkedeohfbkeaaGreatDoorW.PrintWords Go.Proofs.YtnnkedeohfbkeaaGreatDoorW.PrintLast Go.Proofs.YtnnkedeohfbkeaaGreatDoorW.PrintMore
open Go.Proofs.YtnnkedeohfbkeaaGreatDoor.L
open Mach
def cntE (x : List Int) (es : List Edg) : List Int := es.foldl (fun x e => x.set e.f1.toNat (wrap64 (rd x e.f1 + 1))) x
theorem cntE_length : ∀ (es : List Edg) (x : List Int), (cntE x es).length = x.length
 | [], _ => rfl
 | e :: es, x => by
  have := cntE_length es (x.set e.f1.toNat (wrap64 (rd x e.f1 + 1)))
  rw [List.length_set] at this
  exact this
def sel (x : List Int) : Nat → Nat → List Int → List Int
 | 0, _, out => out
 | d + 1, i, out => sel x d (i + 1) (if rd x (i : Int) > 1 then out ++ [(i : Int)] else out)
theorem sel_length (x : List Int) : ∀ (d i : Nat) (out : List Int), (sel x d i out).length ≤ out.length + d
 | 0, _, _ => Nat.le_refl _
 | d + 1, i, out => by
  have := sel_length x d (i + 1) (if rd x (i : Int) > 1 then out ++ [(i : Int)] else out)
  rw [sel]
  refine Nat.le_trans this ?_
  split
  ·
   rw [List.length_append, List.length_singleton]; omega
  omega
theorem spec_sel (x : List Int) (hx : x.length ≤ 481) : ∀ (d i : Nat) (out : List Int), i + d = x.length → out.length ≤ i → Ev (fun k => spec_JoiningStates.l2 k out x (i : Int)) (sel x d i out, true) := by
 intro d
 induction d with
 | zero =>
  intro i out hi ho
  exact Ev.step (fun k => spec_JoiningStates.l2.eq_2 ..) (Ev.ifF (by omega) (Ev.now _))
 | succ d ih =>
  intro i out hi ho
  refine Ev.step (fun k => spec_JoiningStates.l2.eq_2 ..) (Ev.ifT (by omega) (Ev.ifT (by omega) ?_))
  rw [wrap64_succ i (by omega), sel]
  by_cases h : rd x (i : Int) > 1
  ·
   rw [if_pos h]
   exact Ev.ifT h (Ev.ifT (by omega) (ih (i + 1) _ (by omega) (by rw [List.length_append, List.length_singleton]; omega)))
  rw [if_neg h]
  exact Ev.ifF h (ih (i + 1) _ (by omega) (by omega))
theorem impl_sel (x : List Int) (hx : x.length ≤ 481) : ∀ (d i : Nat) (out : List Int), i + d = x.length → out.length ≤ i → Ev (fun k => impl_JoiningStates.l1 k out x (x.length : Int) (i : Int)) (sel x d i out, true) := by
 intro d
 induction d with
 | zero =>
  intro i out hi ho
  exact Ev.step (fun k => impl_JoiningStates.l1.eq_2 ..) (Ev.ifF (by omega) (Ev.now _))
 | succ d ih =>
  intro i out hi ho
  refine Ev.step (fun k => impl_JoiningStates.l1.eq_2 ..) (Ev.ifT (by omega) (Ev.ifT (by omega) (Ev.ifT (by omega) ?_)))
  rw [wrap64_succ i (by omega), sel]
  by_cases h : rd x (i : Int) > 1
  ·
   rw [if_pos h]
   exact Ev.ifT h (Ev.ifT (by omega) (ih (i + 1) _ (by omega) (by rw [List.length_append, List.length_singleton]; omega)))
  rw [if_neg h]
  exact Ev.ifF h (ih (i + 1) _ (by omega) (by omega))
theorem spec_in (m : List Stt) (hl : m.length ≤ 481) (i : Nat) (hi : i < m.length) (hx : m[i].f1.length ≤ 26) (hok : ∀ e ∈ m[i].f1, EdgeOk m.length e) (r : List Int × Bool) : ∀ (d j : Nat) (x : List Int), j + d = m[i].f1.length → x.length = m.length →
  Ev (fun k => spec_JoiningStates.l0 k [] (cntE x (m[i].f1.drop j)) ((i + 1 : Nat) : Int) m) r → Ev (fun k => spec_JoiningStates.l1 k [] x (i : Int) (j : Int) m) r := by
 intro d
 induction d with
 | zero =>
  intro j x hj hxl hr
  rw [List.drop_eq_nil_of_le (by omega)] at hr
  refine Ev.step (fun k => spec_JoiningStates.l1.eq_2 ..) (Ev.ifT (by omega) (Ev.ifT (by omega) (Ev.ifF (by rw [rd_st hi]; omega) ?_)))
  rw [wrap64_succ i (by omega)]
  exact hr
 | succ d ih =>
  intro j x hj hxl hr
  have hjl : j < m[i].f1.length := by omega
  obtain ⟨_, _, q2, q3⟩ := hok _ (List.getElem_mem hjl)
  rw [List.drop_eq_getElem_cons hjl] at hr
  refine Ev.step (fun k => spec_JoiningStates.l1.eq_2 ..) (Ev.ifT (by omega) (Ev.ifT (by omega) (Ev.ifT (by rw [rd_st hi]; omega) (Ev.ifT (by omega) ?_))))
  rw [rd_st hi, rd_edge hjl, wrap64_succ j (by omega)]
  exact Ev.ifT q2 (Ev.ifT (by omega) (ih (j + 1) _ (by omega) (by rw [List.length_set]; exact hxl) hr))
theorem spec_out (m : List Stt) (hl : m.length ≤ 481) (hx : ∀ x ∈ m, x.f1.length ≤ 26 ∧ ∀ e ∈ x.f1, EdgeOk m.length e) (r : List Int × Bool) : ∀ (d i : Nat) (x : List Int), i + d = m.length → x.length = m.length →
  Ev (fun k => spec_JoiningStates.l2 k [] (cntE x ((m.drop i).flatMap fun s => s.f1)) 0) r → Ev (fun k => spec_JoiningStates.l0 k [] x (i : Int) m) r := by
 intro d
 induction d with
 | zero =>
  intro i x hi hxl hr
  rw [List.drop_eq_nil_of_le (by omega)] at hr
  exact Ev.step (fun k => spec_JoiningStates.l0.eq_2 ..) (Ev.ifF (by omega) hr)
 | succ d ih =>
  intro i x hi hxl hr
  have hil : i < m.length := by omega
  obtain ⟨x1, x2⟩ := hx _ (List.getElem_mem hil)
  rw [List.drop_eq_getElem_cons hil, List.flatMap_cons] at hr
  refine Ev.step (fun k => spec_JoiningStates.l0.eq_2 ..) (Ev.ifT (by omega) (spec_in m hl i hil x1 x2 r m[i].f1.length 0 x (by omega) hxl ?_))
  rw [List.drop_zero]
  refine ih (i + 1) _ (by omega) (by rw [cntE_length]; exact hxl) ?_
  have e : cntE x (m[i].f1 ++ (m.drop (i + 1)).flatMap fun s => s.f1) = cntE (cntE x m[i].f1) ((m.drop (i + 1)).flatMap fun s => s.f1) := by unfold cntE; rw [List.foldl_append]
  rw [← e]
  exact hr
theorem impl_cnt (E : List Edg) (n : Nat) (hE : E.length ≤ 1000000) (hn : n ≤ 481) (hok : ∀ e ∈ E, EdgeOk n e) (r : List Int × Bool) : ∀ (d j : Nat) (x : List Int), j + d = E.length → x.length = n →
  Ev (fun k => impl_JoiningStates.l1 k [] (cntE x (E.drop j)) (n : Int) 0) r → Ev (fun k => impl_JoiningStates.l0 k x [] E (E.length : Int) (j : Int)) r := by
 intro d
 induction d with
 | zero =>
  intro j x hj hxl hr
  rw [List.drop_eq_nil_of_le (by omega)] at hr
  refine Ev.step (fun k => impl_JoiningStates.l0.eq_2 ..) (Ev.ifF (by omega) ?_)
  rw [hxl]
  exact hr
 | succ d ih =>
  intro j x hj hxl hr
  have hjl : j < E.length := by omega
  obtain ⟨_, _, q2, q3⟩ := hok _ (List.getElem_mem hjl)
  rw [List.drop_eq_getElem_cons hjl] at hr
  refine Ev.step (fun k => impl_JoiningStates.l0.eq_2 ..) (Ev.ifT (by omega) (Ev.ifT (by omega) (Ev.ifT (by omega) ?_)))
  rw [rd_edge hjl, wrap64_succ j (by omega)]
  exact Ev.ifT q2 (Ev.ifT (by omega) (ih (j + 1) _ (by omega) (by rw [List.length_set]; exact hxl) hr))
theorem edges_all (m : List Stt) (hl : m.length ≤ 481) (hx : ∀ x ∈ m, x.f1.length ≤ 26) : ∀ (d i : Nat) (out : List Edg), i + d = m.length → out.length ≤ 26 * i → Ev (fun k => impl_Machine_edges.l0 k out m (m.length : Int) (i : Int)) (out ++ (m.drop i).flatMap fun s => s.f1) := by
 intro d
 induction d with
 | zero =>
  intro i out hi ho
  rw [List.drop_eq_nil_of_le (by omega)]
  refine Ev.step (fun k => impl_Machine_edges.l0.eq_2 ..) (Ev.ifF (by omega) ?_)
  rw [List.flatMap_nil, List.append_nil]
  exact Ev.now _
 | succ d ih =>
  intro i out hi ho
  have hil : i < m.length := by omega
  have h26 := hx _ (List.getElem_mem hil)
  have he := ih (i + 1) (out ++ m[i].f1) (by omega) (by rw [List.length_append]; omega)
  refine Ev.step (fun k => impl_Machine_edges.l0.eq_2 ..) (Ev.ifT (by omega) (Ev.ifT (by omega) (Ev.ifT (by omega) ?_)))
  rw [rd_st hil, wrap64_succ i (by omega), List.drop_eq_getElem_cons hil, List.flatMap_cons, ← List.append_assoc]
  exact Ev.ifT (by omega) he
theorem flat_len : ∀ (m : List Stt), (∀ x ∈ m, x.f1.length ≤ 26) → (m.flatMap fun s => s.f1).length ≤ 26 * m.length
 | [], _ => by simp
 | x :: m, h => by
  have h1 := flat_len m fun y hy => h y (List.mem_cons_of_mem _ hy)
  have h2 := h x List.mem_cons_self
  rw [List.flatMap_cons, List.length_append, List.length_cons]
  omega
theorem both (m : List Stt) (hx : ∀ x ∈ m, x.f1.length ≤ 1048576) : ∃ (r1 : List Int) (r2 : Bool), Ev (fun k => spec_JoiningStates.f k m) (r1, r2) ∧ Ev (fun k => impl_JoiningStates.f k m) (r1, r2) ∧ r1.length ≤ 1000000 := by
 unfold spec_JoiningStates.f impl_JoiningStates.f impl_IsMachine.f impl_Machine_edges.f
 rcases mach_both m hx with ⟨ws, h, rfl, h1, h2⟩ | ⟨h1, h2⟩
 ·
  have hl : (machW ws).length ≤ 481 := by rw [machW_length]; exact dL_length h
  have h26 : ∀ x ∈ machW ws, x.f1.length ≤ 26 := fun x hx => machW_edges x hx
  have hok := machW_ok h
  obtain ⟨E, hE⟩ : ∃ E, E = (machW ws).flatMap fun s => s.f1 := ⟨_, rfl⟩
  have hEl : E.length ≤ 1000000 := by rw [hE]; exact Nat.le_trans (flat_len (machW ws) h26) (by omega)
  have hEok : ∀ e ∈ E, EdgeOk (machW ws).length e := by
   intro e he
   rw [hE] at he
   obtain ⟨x, hx1, hx2⟩ := List.mem_flatMap.1 he
   exact (hok x hx1).2 e hx2
  have hz : (List.replicate (((machW ws).length : Int)).toNat (0 : Int)).length = (machW ws).length := by rw [List.length_replicate]; omega
  have hcl := cntE_length E (List.replicate (((machW ws).length : Int)).toNat (0 : Int))
  rw [hz] at hcl
  obtain ⟨y, hy⟩ : ∃ y, y = cntE (List.replicate (((machW ws).length : Int)).toNat (0 : Int)) E := ⟨_, rfl⟩
  rw [← hy] at hcl
  have s1 := spec_sel y (by omega) y.length 0 [] (by omega) (by simp)
  have s2 := impl_sel y (by omega) y.length 0 [] (by omega) (by simp)
  have sl := sel_length y y.length 0 []
  refine ⟨sel y y.length 0 [], true, Ev.some_bind (Ev.bind h1 (Ev.ifT rfl (Ev.ifT (by omega) (Ev.ifT (by omega) ?_)))), Ev.bind (Ev.bind h2 (Ev.now _)) (Ev.ifT rfl (Ev.ifT (by omega) (Ev.ifT (by omega) (Ev.bind (a := E) ?_ ?_)))), by simp at sl; omega⟩
  ·
   refine spec_out (machW ws) hl (fun x hx => ⟨h26 x hx, (hok x hx).2⟩) _ (machW ws).length 0 _ (by omega) hz ?_
   rw [List.drop_zero, ← hE, ← hy]
   exact s1
  ·
   have := edges_all (machW ws) hl h26 (machW ws).length 0 [] (by omega) (by simp)
   rw [List.drop_zero, List.nil_append, ← hE] at this
   exact this
  refine impl_cnt E (machW ws).length hEl hl hEok _ E.length 0 _ (by omega) hz ?_
  rw [List.drop_zero, ← hy, ← hcl]
  exact s2
 exact ⟨[], false, Ev.some_bind (Ev.bind h1 (Ev.ifF Bool.false_ne_true (Ev.now _))), Ev.bind (Ev.bind h2 (Ev.now _)) (Ev.ifF Bool.false_ne_true (Ev.now _)), by simp⟩
theorem FnExactJoiningStates : laws_FnExactJoiningStates.Pure := by
 intro l hl hx
 obtain ⟨c, ⟨k0, hc⟩, hr⟩ := szMachine_ev l hl hx
 refine ⟨k0, c, hc k0 (Nat.le_refl _), ?_⟩
 rcases hr with hneg | ⟨h0, h1, h2⟩
 ·
  exact .inl hneg
 refine .inr ⟨by omega, ?_⟩
 obtain ⟨r1, r2, b1, b2, b3⟩ := both (toM l) (toM_edges h2)
 obtain ⟨k1, e1⟩ := toMachine_ev l h1 h2
 obtain ⟨k2, e2⟩ := b1
 obtain ⟨k3, e3⟩ := b2
 have he := eqIntS_ev r1 r1 (by omega)
 rw [decide_eq_true rfl] at he
 obtain ⟨k4, e4⟩ := he
 obtain ⟨k5, e5⟩ := MMk.eqMachine_ev (toM l) (by rw [toM_length]; omega) (fun x hx => by have := toM_edges h2 x hx; omega)
 obtain ⟨k6, e6⟩ := markIntS_ev r1 (by omega)
 obtain ⟨k7, e7⟩ := heldIntS_ev r1 (by omega)
 let k := k1 + k2 + k3 + k4 + k5 + k6 + k7
 obtain ⟨m1, m2⟩ := MMk.mark_big (l := toM l) (by rw [toM_length]; omega) (toM_edges h2)
 exact ⟨k, toM l, _, r1, _, r2, _, _, ⟨e1 k (by omega), e2 k (by omega), e3 k (by omega), e4 k (by omega), e5 k (by omega), m1, by omega, e6 k (by omega), e7 k (by omega), by omega⟩⟩
end Go.Proofs.YtnnkedeohfbkeaaGreatDoor.Pure
namespace Go.Proofs.YtnnkedeohfbkeaaGreatDoor.fnExactJoiningStates
open Go.ChangeShapes Go.WideShapes Go.ChangeAt Go.RowKit Go.Proofs.YtnnkedeohfbkeaaGreatDoor.P
open Go.ChangeMaps (open_string shut_string)
def laidL : List (String × DataW Unit) := [("unicode/utf8.acceptRanges", Rows.laid_unicode_utf8_acceptRanges), ("unicode/utf8.first", Rows.laid_unicode_utf8_first)]
theorem own : ownKnob Tryz.prog.godebug = none := by kernel_rfl
theorem laidOut : laidOutB Tryz.prog = true := by kernel_rfl
theorem lifted (os : Os) (started : os.Started) (H : Type) (enc : TypeId × Value → H) :
    ReturnsInHanded {} Tryz.checked os 12 .any (fun w args => (Rows.fnExactJoiningStatesSpec.pre enc Tryz.prog Tryz.f12 [] false w args ∧ laidMetH Tryz.prog laidL w) ∧ sizedMet enc Tryz.prog Tryz.f12 (OpenSpec.ofChange Rows.fnExactJoiningStatesSpec) false w args) (Rows.fnExactJoiningStatesSpec.post enc Tryz.prog Tryz.f12 false true false false) := by
  refine returnsInHanded_of_change_and (C := Tryz.checked) (X := fun w _ => laidMetH Tryz.prog laidL w) (fun _ _ _ hh h => h.of_heap hh) own started (by kernel_rfl) Tryz.func12
    (ChangeSpec.witness_shaped (enc := enc) (C := Tryz.checked) (os := os) (X := fun w _ => laidMetH Tryz.prog laidL w) false (World.laidAll Tryz.prog os laidL) #[.agg #[.slice none 0 0]] 8 (World.laidAll_os _ _ _) (World.shaped_of_ZipB (by kernel_rfl) (by kernel_rfl)) (by kernel_rfl) (by kernel_rfl) (by kernel_rfl)
      (by rw [MakeChecks.laidMetH_plain _ _ _ (by kernel_rfl)]; exact laidMet_laidAll _ (by kernel_rfl) (by kernel_rfl))) ?_
  intro W base args ds gs before hval0 hW hcnd hsz0 hL_ _
  have hsz : (DataW.weightsEach Tryz.prog (Tryz.f12.params.toList ++ Rows.fnExactJoiningStatesSpec.plain.varTypes Tryz.prog) (ds ++ gs)).all (· ≤ reachBytes) = true := hsz0
  have hval : ∀ (j : Nat) t v, Tryz.f12.params[j]? = some t → args[j]? = some v → Value.okWide Tryz.prog W .any base t v := hval0
  have hW' := hW
  obtain ⟨p, q, hA0, hV, rfl, hfz, hnd⟩ := hW
  have hA : DataW.TrodAll enc Tryz.prog W 0 (fun _ => true) true Tryz.f12.params.toList args.toList ds p := hA0
  rw [Tryz.params12] at hA hval hsz
  obtain ⟨v0, vs0, d0, ds0, p0, q0, hargs, rfl, rfl, h0, r0⟩ := trodAll_cons hA
  obtain ⟨rfl, rfl, rfl⟩ := trodAll_nil r0
  obtain rfl : args = #[v0] := by cases args; simp_all
  obtain ⟨rfl, rfl⟩ := trodVars_none hV
  have k0 := h0
  have lt0 : ∀ x ∈ p0, x.block < W.heap.size := by obtain ⟨m, hm⟩ := k0; exact DataW.trod_lt m _ _ _ hm
  obtain ⟨A0, c0, l0, ev0, hc0, hr0⟩ := OM.machine (hval 0 24 v0 rfl rfl) h0
  subst ev0
  clear hA0 hval0 hsz0 hsz
  refine (laws_FnExactJoiningStates.walk Pure.FnExactJoiningStates W A0 c0 l0 hr0 hc0).mono fun e W' ⟨he, bel⟩ => ?_
  subst he
  exact ⟨_, rfl, _, _, _, [], _, [], hW', trodAll_mk1 (shut_bool Tryz.underlying4 _), (trodAll_cons_mk (Below.trod laidOut (by kernel_rfl) (of_decide_eq_true (by kernel_rfl)) k0 bel lt0) trodAll_mk0), rfl, bel.frame _, fun h => by cases h⟩
theorem over : Rows.fnExactJoiningStatesRow.holds Tryz.pinned (OpenSpec.ofChange Rows.fnExactJoiningStatesSpec) :=
  OpenClaim.holds_of_wide 12 Tryz.f12 rfl rfl rfl rfl rfl rfl rfl ⟨rfl, rfl, rfl, rfl, rfl⟩ rfl rfl rfl rfl rfl (by kernel_rfl) Tryz.func12 (by kernel_rfl)
    (of_decide_eq_true (by kernel_rfl)) (by unfold Func.isWrapper; first | (rw [if_pos (by decide +kernel)]; kernel_rfl) | (rw [if_neg (by decide +kernel)]; exact ⟨rfl, rfl⟩))
    (fun os started H enc _ => lifted os started H enc)
theorem proved : Rows.FnExactJoiningStatesSaid := over
end Go.Proofs.YtnnkedeohfbkeaaGreatDoor.fnExactJoiningStates
namespace Go.Proofs.YtnnkedeohfbkeaaGreatDoor
theorem fnExactJoiningStates_holds : Rows.FnExactJoiningStatesSaid := fnExactJoiningStates.proved
theorem fnExactJoiningStates_card : Rows.FnExactJoiningStatesCardSaid :=
  Claim7.holds_tied_plain_at .later [] [.data, .pinned] true (true, "d24746f385e5a6b2389916c9b9ccdfc43770af261716950c3f87901a77ac8579") false
    fnExactJoiningStates_holds (fun _ h => by cases h) (by kernel_rfl) (fun _ h => by cases h) fnExactJoiningStates_row_tie rfl ⟨rfl, rfl⟩ (by kernel_rfl) rfl
    (fun f fn hf hfn => by
      obtain rfl : f = 12 := Option.some.inj ((show Tryz.prog.funcNamed "loop.example/g01243/laws.FnExactJoiningStates" = some 12 by kernel_rfl).symm.trans hf) |>.symm
      obtain rfl : fn = Tryz.f12 := (Option.some.inj (Tryz.func12.symm.trans hfn)).symm
      exact ⟨by kernel_rfl, fun j t ht => by
        rw [Tryz.params12] at ht
        have hm : t ∈ [24] := by simpa using Array.mem_of_getElem? ht
        have hall : ([24].all fun u => !Tryz.prog.wantsStandIn u) = true := by kernel_rfl
        exact (show Tryz.prog.wantsStandIn t = false by simpa using List.all_eq_true.1 hall t hm)⟩)
    (by kernel_rfl)
end Go.Proofs.YtnnkedeohfbkeaaGreatDoor
