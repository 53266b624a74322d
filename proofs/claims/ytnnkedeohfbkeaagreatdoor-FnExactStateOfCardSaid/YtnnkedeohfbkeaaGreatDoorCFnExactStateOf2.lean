/-
  Part 3 of the proof that FnExactStateOf returns true for every input: the functions that it reaches, each with its contract, and the law.
  Conditions: those of the given statement, no others.
-/
import Derived.Test.YtnnkedeohfbkeaaGreatDoorCFnExactStateOfW0
import Derived.Shelf.Abstract
import Derived.StillTailTactics
import Derived.Deep.RegionHeld3
import Derived.Deep.DrawnRows
import Derived.Test.YtnnkedeohfbkeaaGreatDoorProg
import Derived.Ground.NamesProg
import Derived.Shelf.Strings.SlTrimAscii
import Derived.Shelf.Sort.Plain
import Derived.Shelf.Slices.In.SortNone
import Derived.Shelf.Slices.CompactS
import Derived.RangeFuncBox
import Derived.RangeFuncLeaves
import Derived.OwnWalkIn
import Derived.TacticsInMore
import Derived.LoopNIn
import Derived.LoopIn
import Derived.Maps.AppendAt
import Derived.Sort.OwnSorted
import Derived.Lib.OwnBridge
import Derived.Test.YtnnkedeohfbkeaaGreatDoorCFnExactStateOf0
import Derived.Test.YtnnkedeohfbkeaaGreatDoorCFnExactStateOf1
set_option linter.unusedVariables false
set_option linter.unusedSimpArgs false
set_option maxHeartbeats 8000000
set_option maxRecDepth 100000
namespace Go.Proofs.YtnnkedeohfbkeaaGreatDoor.P
open Go.RowKit Go.Proofs.YtnnkedeohfbkeaaGreatDoorW.PrintWords Go.Proofs.YtnnkedeohfbkeaaGreatDoorW.PrintLast Go.Proofs.YtnnkedeohfbkeaaGreatDoorW.PrintMore
open Go.Proofs.YtnnkedeohfbkeaaGreatDoorW.PrintWords renaming blk_frozen → bF_, blk_cell → bC_, below_set → bS_, blk_below → bB_, below_step → bT_, pw_below_drewN → bN_, below_size → bZ_, below_drew1 → bD_, below_alloc → bA_, blk_far → bR_, gate_callee → gC_, gate_dst → gD_, box_event → bE_, blk_drew → b1_, blk_put → bP_, blk_drewN → b2_, blk_alloc → b3_, blk_lt → bL_, cell_far → cF_
open Go.Proofs.YtnnkedeohfbkeaaGreatDoorW.PrintLast renaming any_of → aO_, i64_w → i6_, i32_w → i3_, take_ofW → tW_
open Go.Proofs.YtnnkedeohfbkeaaGreatDoorW.PrintWords.Kd renaming R_below → kB_, R_mono → kM_, R_far → kF_, R_reads' → kR_, R_types → kT_, R_slice → kS_, R_celln → kC_, R_alloc → k1_, R_drewN → k2_, R_drew → k3_, C_below → k4_, R_lower → k5_, R_ne → k6_, own_blk → k7_
open Go.Proofs.YtnnkedeohfbkeaaGreatDoorW.PrintWords.LeO renaming none → l0_, bind → l1_, ite → l2_, refl → l3_
open World renaming block_lt_of_cell? → wB_
open _root_.Option renaming bind_eq_some_iff → oB_
open _root_.ByteArray renaming empty → eB_
open List renaming setIfInBounds_toArray → sA_, set_cons_zero → sB_, set_cons_succ → sC_, map_toArray → sD_, map_cons → sE_, map_nil → sF_, length_drop → sG_, length_take → sH_
open Bool renaming true → ty, false → fy
open Aside0 renaming mk → aM_
attribute [local go_sem] max2_int min2_int max_two min_two max_three min_three max_four min_four
def iF17.l0 : Nat → List ByteArray → List ByteArray → List (S96) → Int → Int → Option (List ByteArray)
 | 0, _, _, _, _, _ => none
 | k + 1, x3, x5, x15, x16, x17 => if x17 < x16 then (if 0 ≤ x17 then (if x17 < (x15.length : Int) then (if (rd_T96 x15 x17).f2 = true then (if x17 < (x3.length : Int) then (if x5.length < 8796093022208 then (iF17.l0 k x3 (x5 ++ [rdOf eB_ x3 x17]) x15 x16 (wrap64 (x17 + 1))) else (none)) else (none)) else (iF17.l0 k x3 x5 x15 x16 (wrap64 (x17 + 1)))) else (none)) else (none)) else (some x5)
def iF17.f (k : Nat) (l0_0 : List (S96)) : Option (List ByteArray) := (iF15.f k l0_0).bind fun bt377 => (iF17.l0 k bt377.1 (([] : List ByteArray)) l0_0 (l0_0.length : Int) 0)
theorem iF17.mono_l : ∀ k, (∀ y0 y1 y2 y3 y4, LeO (iF17.l0 k y0 y1 y2 y3 y4) (iF17.l0 (k + 1) y0 y1 y2 y3 y4))
 | 0 => fun _ _ _ _ _ r h => by simp [iF17.l0] at h
 | k + 1 => by
  have ih0 := iF17.mono_l k
  intro y0 y1 y2 y3 y4
  unfold iF17.l0
  repeat' with_reducible first | exact ih0 _ _ _ _ _ | exact iF15.mono _ _ | exact l3_ _ | exact l0_ _ | refine l2_ ?_ ?_ | refine l1_ ?_ (fun _ => ?_)
theorem iF17.mono : ∀ a0 k, LeO (iF17.f k a0) (iF17.f (k + 1) a0) := by
 intro a0 k
 have ih0 := iF17.mono_l k
 unfold iF17.f
 repeat' with_reducible first | exact ih0 _ _ _ _ _ | exact iF15.mono _ _ | exact l3_ _ | exact l0_ _ | refine l2_ ?_ ?_ | refine l1_ ?_ (fun _ => ?_)
theorem iF17.calls (k : Nat) (A0_0 : Option Addr) (c0_0 : Nat) (l0_0 : List (S96)) (r : List ByteArray) (w : World) (hr0_0 : Kd.C k96 w A0_0 l0_0.length l0_0) (hc0_0 : l0_0.length ≤ c0_0) (h : iF17.f k l0_0 = some r) :
  Calls Tryz.prog 90 #[.agg #[.slice A0_0 l0_0.length c0_0]] w fun e w' => ∃ v0_ : Value, e = .returned (v0_) ∧ Kd.R Kd.string 9 w' w.heap.size (fun _ => True) v0_ r ∧ Below w.heap.size w w' := by
 have hu28 := Tryz.underlying28
 have hu96 := Tryz.underlying96
 have HR0_0 := aM_ hr0_0
 have HC0_0 := aM_ hc0_0
 clear hr0_0 hc0_0
 have HB := aM_ (Below.refl w.heap.size w)
 have H : ((iF15.f k l0_0).bind fun bt377 => (iF17.l0 k bt377.1 (([] : List ByteArray)) l0_0 (l0_0.length : Int) 0)) = some r := h
 clear h
 replace H := oB_.mp H
 obtain ⟨⟨t377, t380⟩, A20, H⟩ := H
 try dsimp only at H
 have A2 := aM_ A20
 clear A20
 obtain ⟨y381, hy381⟩ : ∃ y_ : List ByteArray, y_ = (([] : List ByteArray)) := ⟨_, rfl⟩
 replace H : (iF17.l0 k t377 y381 l0_0 (l0_0.length : Int) 0) = some r := by (try rw [hy381]); first | with_reducible exact H | with_reducible exact oS_ H | exact H
 have Ny381 := aM_ hy381
 clear hy381
 have H' := aM_ H
 clear H
 go_enter Tryz.func90, Tryz.ntmps90
 go_wp2_with (first | (refine bx_ 1 #[.slice A0_0 l0_0.length c0_0] 28 ?_; intro gb376 hg w3 hbox hb; have BK376 := aM_ (hbox); have GW376 := gw_ hg HB; replace HB := b4_ HB hb; clear hb hbox hg; have hcz4_0 := c0_ BK376; have hfz4_0 := bF_ BK376.out 0) | (refine gs_ 10 Tryz.func94 #[.agg #[.slice A0_0 l0_0.length c0_0]] ?_; (with_reducible refine (iF15.calls k _ _ l0_0 t377 t380 _ ?side1 HC0_0.out A2.out).mono ?_); (case side1 => repeat (first | exact (k4_ HR0_0.out HB.out) | with_reducible first | apply cA_ | apply cN_ | apply cD_)); rintro e w5 ⟨v378, rfl, ho0, hb⟩; refine ⟨_, rfl, ?_⟩; have HO379 := aM_ (k5_ ho0 (bZ_ HB.out)); replace BK376 := b5_ BK376 hb; replace HB := b4_ HB hb; (try clear hb); (try clear ho0)) | ((with_reducible refine gD_ (N := 13) rfl ?_); refine Kd.R_lit Kd.string _ 9 ?hg (N := 13) ?hd (xs := ([] : List ByteArray)) (inner := []) (ok := fun _ => True) (okp := fun _ => True) ?hr ?hp (fun _ hk => hk) trivial (Below.refl _ _) (Nat.le_refl _) (by simp) ?_; (case hd => rfl); (case hg => rfl); (case hr => (go_simp; done)); (case hp => exact (Reps.none _ _)); intro v382 w6 ho7 hb hg_ hnew_; clear hg_ hnew_; (rw [← Ny381.out] at ho7); have HO383 := aM_ (k5_ (Kd.R_new' ho7 (Kd.R_lt HO379.out)) (bZ_ HB.out)); replace HO379 := aM_ (Kd.R_elder' HO379.out (Kd.R_base ho7) hb); replace BK376 := b5_ BK376 hb; replace HB := b4_ HB hb; clear hb ho7; have hcz8_0 := c0_ BK376; have hfz8_0 := bF_ BK376.out 0))
 go_loopg [5, 17] k (fun kq v5 v17 w' => ∃ (x5_1 : List ByteArray) (x17_1 : Int), v17 = .int .i64 x17_1 ∧ Aside0 (iF17.l0 kq t377 x5_1 l0_0 (l0_0.length : Int) x17_1 = some r) ∧ Aside0 (kq ≤ k) ∧ Aside0 (Kd.R Kd.string 9 w' w.heap.size (fun k_ => some k_ ≠ (v5 : Value).ownBlock) v378 t377) ∧ Aside0 (Kd.R Kd.string 9 w' w.heap.size (fun k_ => some k_ ≠ (v378 : Value).ownBlock) v5 x5_1) ∧ Aside0 (w'.heap[gb376]? = some (.cells #[(.slice A0_0 l0_0.length c0_0)] 28 (0, 0))) ∧ Aside0 (Below w.heap.size w w'))
 case atStart => exact ⟨(y381), (0), (by rfl), H', ⟨Nat.le_refl _⟩, ⟨by exact kM_ HO379.out (fun _ hk => hk.2)⟩, ⟨by exact kM_ HO383.out (fun _ hk => hk.2)⟩, ⟨BK376.out⟩, ⟨HB.out⟩⟩
 clear H'
 try clear p2
 try clear hcz4_0
 try clear hcz8_0
 try clear hfz4_0
 try clear hfz8_0
 obtain ⟨x5_1, x17_1, rfl, HA, HK1, HO_3, HO_5, BK376, HB⟩ := hrel
 cases gk with
 | zero => exact absurd HA.out (by simp [iF17.l0])
 | succ k1 =>
  have H := HA.out
  clear HA
  simp only [iF17.l0] at H
  by_cases c9 : x17_1 < (l0_0.length : Int)
  rotate_left
  ·
   rw [if_neg c9] at H
   have c9b0 := dF_ c9
   clear c9
   obtain rfl := Option.some.inj H
   go_wp2
   go_ret
   exact ⟨_, by rfl, by exact kM_ HO_5.out (fun _ hk => trivial), by exact HB.out⟩
  rw [if_pos c9] at H
  have c9b0 := dT_ c9
  clear c9
  by_cases c10 : 0 ≤ x17_1
  rotate_left
  ·
   rw [if_neg c10] at H
   exact absurd H (by simp)
  rw [if_pos c10] at H
  have c10b0 := dT_ c10
  clear c10
  by_cases c11 : x17_1 < (l0_0.length : Int)
  rotate_left
  ·
   rw [if_neg c11] at H
   exact absurd H (by simp)
  rw [if_pos c11] at H
  have c11b0 := dT_ c11
  clear c11
  obtain ⟨bq12, hbq12⟩ : ∃ b_ : Bool, b_ = ((rd_T96 l0_0 x17_1).f2) := ⟨_, rfl⟩
  replace H : (if bq12 = true then (if x17_1 < (t377.length : Int) then (if x5_1.length < 8796093022208 then (iF17.l0 k1 t377 (x5_1 ++ [rdOf eB_ t377 x17_1]) l0_0 (l0_0.length : Int) (wrap64 (x17_1 + 1))) else (none)) else (none)) else (iF17.l0 k1 t377 x5_1 l0_0 (l0_0.length : Int) (wrap64 (x17_1 + 1)))) = some r := by rw [← hbq12] at H; exact H
  have Nbq12 := aM_ hbq12
  clear hbq12
  by_cases c13 : bq12 = true
  rotate_left
  ·
   replace c13 := Bool.eq_false_iff.mpr c13
   subst c13
   replace H : (iF17.l0 k1 t377 x5_1 l0_0 (l0_0.length : Int) (wrap64 (x17_1 + 1))) = some r := by rw [if_neg (show ¬ (false = true) by decide)] at H; exact H
   have H' := aM_ H
   clear H
   have p384 : 0 ≤ (x17_1 : Int) := oD_ ‹_›
   have q384 : x17_1 < (l0_0.length : Int) := oD_ ‹_›
   obtain ⟨ad384, e384, hx384_0, hx384_1, hx384_2⟩ := at_T96 HR0_0.out x17_1 p384 q384
   (try rw [← Nbq12.out] at hx384_2)
   cases e384
   replace hx384_0 := cb_ HB hx384_0
   replace hx384_1 := cb_ HB hx384_1
   replace hx384_2 := cb_ HB hx384_2
   replace p384 := eq_true p384
   replace q384 := eq_true q384
   go_wp2_with (first | (refine bx_ 7 #[.int .i64 0, .int .i64 0, .bool false] 96 ?_; intro gb385 hg w21 hbox hb; replace HO_3 := k9_ HO_3 hb; replace HO_5 := k9_ HO_5 hb; have BK385 := aM_ (hbox); have GW385 := gw_ hg HB; replace HB := b4_ HB hb; have NB376_385 := nb_ hg BK376; have NB385_376 := ns_ NB376_385; replace BK376 := b5_ BK376 hb; clear hb hbox hg; have hnb22 := NB385_376.out; have hnc22 := NB376_385.out; have hcz23_0 := c0_ BK385; have hcz23_1 := c1_ BK385; have hcz23_2 := c2_ BK385; have hfz23_0 := bF_ BK385.out 0; have hfz23_1 := bF_ BK385.out 1; have hfz23_2 := bF_ BK385.out 2))
   go_roundg k1
   case measure => have := HK1.out; omega
   case rel => exact ⟨(x5_1), (wrap64 (x17_1 + 1)), (by rfl), H', ⟨by have := HK1.out; omega⟩, ⟨by exact kM_ (kG_ (kG_ (kG_ (kT_ HO_3.out BK385.out (by decide))))) (fun _ hk => hk.1)⟩, ⟨by exact kM_ (kG_ (kG_ (kG_ (kT_ HO_5.out BK385.out (by decide))))) (fun _ hk => hk.1)⟩, ⟨by exact br_ NB376_385.out (br_ NB376_385.out (br_ NB376_385.out (BK376.out)))⟩, ⟨by repeat with_reducible first | exact HB.out | apply bA_ | apply bN_ | apply bD_ | refine bS_ ?_ (Aside0.out ‹_›)⟩⟩
  subst c13
  rw [if_pos rfl] at H
  by_cases c14 : x17_1 < (t377.length : Int)
  rotate_left
  ·
   rw [if_neg c14] at H
   exact absurd H (by simp)
  rw [if_pos c14] at H
  have c14b0 := dT_ c14
  clear c14
  by_cases c15 : x5_1.length < 8796093022208
  rotate_left
  ·
   rw [if_neg c15] at H
   exact absurd H (by simp)
  rw [if_pos c15] at H
  have LMc15 := aM_ c15
  clear c15
  obtain ⟨y387, hy387⟩ : ∃ y_ : List ByteArray, y_ = (x5_1 ++ [rdOf eB_ t377 x17_1]) := ⟨_, rfl⟩
  replace H : (iF17.l0 k1 t377 y387 l0_0 (l0_0.length : Int) (wrap64 (x17_1 + 1))) = some r := by (try rw [hy387]); first | with_reducible exact H | with_reducible exact oS_ H | exact H
  have Ny387 := aM_ hy387
  clear hy387
  have H' := aM_ H
  clear H
  have p384 : 0 ≤ (x17_1 : Int) := oD_ ‹_›
  have q384 : x17_1 < (l0_0.length : Int) := oD_ ‹_›
  obtain ⟨ad384, e384, hx384_0, hx384_1, hx384_2⟩ := at_T96 HR0_0.out x17_1 p384 q384
  (try rw [← Nbq12.out] at hx384_2)
  cases e384
  replace hx384_0 := cb_ HB hx384_0
  replace hx384_1 := cb_ HB hx384_1
  replace hx384_2 := cb_ HB hx384_2
  replace p384 := eq_true p384
  replace q384 := eq_true q384
  go_wp2_with (first | (refine bx_ 7 #[.int .i64 0, .int .i64 0, .bool false] 96 ?_; intro gb385 hg w16 hbox hb; replace HO_3 := k9_ HO_3 hb; replace HO_5 := k9_ HO_5 hb; have BK385 := aM_ (hbox); have GW385 := gw_ hg HB; replace HB := b4_ HB hb; have NB376_385 := nb_ hg BK376; have NB385_376 := ns_ NB376_385; replace BK376 := b5_ BK376 hb; clear hb hbox hg; have hnb17 := NB385_376.out; have hnc17 := NB376_385.out; have hcz18_0 := c0_ BK385; have hcz18_1 := c1_ BK385; have hcz18_2 := c2_ BK385; have hfz18_0 := bF_ BK385.out 0; have hfz18_1 := bF_ BK385.out 1; have hfz18_2 := bF_ BK385.out 2; obtain ⟨Ao19, co19, eo19⟩ := kS_ HO_3.out; subst eo19; have p386 : 0 ≤ (x17_1 : Int) := oD_ ‹_›; have q386 : x17_1 < (t377.length : Int) := oD_ ‹_›; obtain ⟨ad386, e386, hx386_0⟩ := Kd.at_string (kR_ HO_3.out).2.2 x17_1 p386 q386; cases e386; have hn386_0 : ad386.block ≠ gb385 := k7_ (k6_ HO_3.out BK385.out (by decide)); have hn386_1 : ad386.block ≠ gb385 := k7_ (k6_ HO_3.out BK385.out (by decide)); have hn386_2 : ad386.block ≠ gb385 := k7_ (k6_ HO_3.out BK385.out (by decide)); replace hx386_0 := (cF_ (p := ⟨gb385, 0, none⟩) (by (rw [add_block]; exact hn386_0)) (.int .i64 ((rd_T96 l0_0 x17_1).f0))).trans hx386_0; replace hx386_0 := (cF_ (p := ⟨gb385, 1, none⟩) (by (rw [add_block]; exact hn386_1)) (.int .i64 ((rd_T96 l0_0 x17_1).f1))).trans hx386_0; replace hx386_0 := (cF_ (p := ⟨gb385, 2, none⟩) (by (rw [add_block]; exact hn386_2)) (.bool true)).trans hx386_0; clear hn386_0; clear hn386_1; clear hn386_2; replace p386 := eq_true p386; replace q386 := eq_true q386) | ((with_reducible refine gate_builtin (b := .append) (xs := #[.tmp 24, .tmp 29]) rfl ?_); at_builtin; refine Kd.R_append Kd.string (w0 := w) w.heap.size rfl (.tmp 24) (.tmp 29) 51 9 (.string ⟨#[]⟩) 16 rfl Tryz.underlying51 info9 rfl (by decide) (by omega) u5 x5_1 (rdOf eB_ t377 x17_1) [.string (rdOf eB_ t377 x17_1)] (fun k_ => some k_ ≠ (.slice (some ad386) t377.length co19 : Value).ownBlock) (fun _ => False) rfl (by (go_simp; done)) ?aP (fun _ hk => hk.elim) ?aF ?aO ?aB ?aS ?aL ?_; (case aP => exact rfl); (case aB => exact (by repeat with_reducible first | exact HB.out | apply bA_ | apply bN_ | apply bD_ | refine bS_ ?_ (Aside0.out ‹_›))); (case aF => exact (fun k_ hk => Kd.fresh' (Kd.R_lt (by exact (kM_ (kG_ (kG_ (kG_ (kT_ HO_3.out BK385.out (by decide))))) (fun _ h_ => h_.1)))) k_ hk)); (case aO => exact (by exact kM_ (kG_ (kG_ (kG_ (kT_ HO_5.out BK385.out (by decide))))) (fun _ hk => hk.1))); (case aS => exact (bZ_ (by repeat with_reducible first | exact HB.out | apply bA_ | apply bN_ | apply bD_ | refine bS_ ?_ (Aside0.out ‹_›)))); (case aL => have := LMc15.out; omega); intro v388 w20 ho hb hg hat; rw [← Ny387.out] at ho; have n0_ := aM_ (Kd.R_after (ok := (fun _ => True)) (by exact kM_ (kG_ (kG_ (kG_ (kT_ HO_3.out BK385.out (by decide))))) (fun _ hk => ⟨trivial, hk.1⟩)) hg hat); have n1_ := aM_ (blk_grown (g := gb376) (o := .cells #[.slice (some ad384) l0_0.length c0_0] 28 (0, 0)) (by exact br_ NB376_385.out (br_ NB376_385.out (br_ NB376_385.out (BK376.out)))) hg (k6_ HO_5.out BK376.out (by decide))); have n2_ := aM_ (blk_grown (g := gb385) (o := .cells #[.int .i64 ((rd_T96 l0_0 x17_1).f0), .int .i64 ((rd_T96 l0_0 x17_1).f1), .bool true] 96 (0, 0)) (by refine bP_ (cs := #[.int .i64 ((rd_T96 l0_0 x17_1).f0), .int .i64 ((rd_T96 l0_0 x17_1).f1), .bool false]) ?_ 2 _ rfl; refine bP_ (cs := #[.int .i64 ((rd_T96 l0_0 x17_1).f0), .int .i64 0, .bool false]) ?_ 1 _ rfl; refine bP_ (cs := #[.int .i64 0, .int .i64 0, .bool false]) ?_ 0 _ rfl; exact BK385.out) hg (k6_ HO_5.out BK385.out (by decide))); have n3_ := aM_ (hb); have n4_ := aM_ (ho); clear HO_3; clear BK376; clear BK385; clear HB; clear HO_5; have HO_3 := n0_; have BK376 := n1_; have BK385 := n2_; have HB := n3_; have HO389 := n4_; clear n0_ n1_ n2_ n3_ n4_; clear ho hb hg hat))
  go_roundg k1
  case measure => have := HK1.out; omega
  case rel => exact ⟨(y387), (wrap64 (x17_1 + 1)), (by rfl), H', ⟨by have := HK1.out; omega⟩, ⟨by exact kM_ HO_3.out (fun _ hk => hk.2)⟩, ⟨HO389.out⟩, ⟨BK376.out⟩, ⟨HB.out⟩⟩
def iF16.f (k : Nat) (l0_0 : List S96) (a1 : ByteArray) : Option (List ByteArray) := (iF17.f k l0_0).bind fun ws => if ws.length ≤ 9223372036854775807 then filt (fun x => xF75.f x a1) ws else none
theorem iF16.mono : ∀ a0 a1 k, LeO (iF16.f k a0 a1) (iF16.f (k + 1) a0 a1) := by
 intro a0 a1 k
 exact l1_ (iF17.mono _ _) fun ws => l3_ _
set_option maxHeartbeats 1000000 in
theorem iF16.lit (a1 x : ByteArray) (b : Bool) (B : Nat) (W : World) (hc : W.cell? ⟨B, 0, none⟩ = some (.string a1)) (h : xF75.f x a1 = some b) :
  Calls Tryz.prog 119 (#[.string x] ++ #[.pointer (some ⟨B, 0, none⟩)]) W fun e W' => e = .returned (.bool (!b)) ∧ Below W.heap.size W W' := by
 show Calls Tryz.prog 119 #[.string x, .pointer (some ⟨B, 0, none⟩)] W _
 have HH := aM_ (xF75.calls x a1 b W h)
 clear h
 go_enter Tryz.func119, Tryz.ntmps119
 go_wp2_with (go_at_call 120; refine HH.out.mono ?_; rintro e w' ⟨rfl, hd⟩; have HB := aM_ hd; clear hd)
 go_ret
 exact ⟨rfl, HB.out.below⟩
set_option maxHeartbeats 2000000 in
theorem iF16.calls (k : Nat) (A0_0 : Option Addr) (c0_0 : Nat) (l0_0 : List S96) (a1 : ByteArray) (r : List ByteArray) (w : World) (hr0_0 : Kd.C k96 w A0_0 l0_0.length l0_0) (hc0_0 : l0_0.length ≤ c0_0) (h : iF16.f k l0_0 a1 = some r) :
  Calls Tryz.prog 98 #[.agg #[.slice A0_0 l0_0.length c0_0], .string a1] w fun e w' => ∃ v0_ : Value, e = .returned v0_ ∧ Kd.R Kd.string 9 w' w.heap.size (fun _ => True) v0_ r ∧ Below w.heap.size w w' := by
 unfold iF16.f at h
 cases hw : iF17.f k l0_0 with
 | none => rw [hw] at h; cases h
 | some ws =>
 rw [hw, Option.bind_some] at h
 by_cases hl : ws.length ≤ 9223372036854775807
 rotate_left
 ·
  rw [if_neg hl] at h; cases h
 rw [if_pos hl] at h
 obtain ⟨q, hq, hr⟩ := filt_some h
 have HQ := aM_ hq
 have HR := aM_ hr
 have HG := aM_ hl
 have HW1 := aM_ ((Below.refl w.heap.size w).alloc (Nat.le_refl _) (.cells #[.slice A0_0 l0_0.length c0_0] 28))
 have HW2 := aM_ (HW1.out.alloc (by simp) (.cells #[.string a1] 9))
 have HC := aM_ (iF17.calls k A0_0 c0_0 l0_0 ws ((w.alloc (.cells #[.slice A0_0 l0_0.length c0_0] 28)).alloc (.cells #[.string a1] 9)) (k4_ hr0_0 HW2.out) hc0_0 hw)
 clear h hq hr hl hw hr0_0
 go_enter Tryz.func98, Tryz.ntmps98
 go_wp2_with fail
 refine HC.out.mono ?_
 clear HC
 rintro e w1 ⟨v, rfl, hr, hb0⟩
 obtain ⟨A, c, hv⟩ := kS_ hr
 subst hv
 have HC1 := aM_ ((hb0.cell (p := ⟨w.heap.size + 1, 0, none⟩) (by simp)).trans (show ((w.alloc (.cells #[.slice A0_0 l0_0.length c0_0] 28)).alloc (.cells #[.string a1] 9)).cell? ⟨w.heap.size + 1, 0, none⟩ = some (.string a1) from by simp))
 have HD := aM_ (xF1.calls (fun x => !q x) 119 #[.pointer (some ⟨w.heap.size + 1, 0, none⟩)] (Go.Proofs.enters_of Tryz.func119 (by kernel_rfl) rfl) (fun _ => True) ((w.alloc (.cells #[.slice A0_0 l0_0.length c0_0] 28)).alloc (.cells #[.string a1] 9)).heap.size A c ws w1 hb0.size hr HG.out (fun W x hm hk => iF16.lit a1 x (q x) (w.heap.size + 1) W (Go.Proofs.YtnnkedeohfbkeaaGreatDoorW.PrintWords.cell_kept HC1.out hk (by simp)) (HQ.out x hm)))
 have HB2 := aM_ (HW2.out.trans (hb0.mono HW2.out.size))
 clear hr hb0
 go_wp2_with fail
 refine HD.out.mono ?_
 clear HD
 rintro e w3 ⟨v3, rfl, hr3, hb3⟩
 have H3 := aM_ (And.intro hr3 hb3)
 clear hr3 hb3
 go_wp2_with fail
 go_ret
 refine ⟨_, rfl, ?_, HB2.out.trans (H3.out.2.mono HW2.out.size)⟩
 have := H3.out.1
 simp only [DF.keep, Bool.not_not] at this
 rw [HR.out]
 exact k5_ this HW2.out.size
def iF11.cut (a1 x : ByteArray) : ByteArray := x.extract a1.size x.size
def iF11.f (k : Nat) (l0_0 : List S96) (a1 : ByteArray) : Option (List ByteArray) := (iF16.f k l0_0 a1).bind fun ws => if ws.length ≤ 1000000000 ∧ (ws.all fun x => decide (a1.size ≤ x.size ∧ x.size ≤ 1000000000)) = true then some (ws.map (iF11.cut a1)) else none
theorem iF11.mono : ∀ a0 a1 k, LeO (iF11.f k a0 a1) (iF11.f (k + 1) a0 a1) := by
 intro a0 a1 k
 exact l1_ (iF16.mono _ _ _) fun ws => l3_ _
def iF11.row (a1 : ByteArray) (ws : List ByteArray) (i : Nat) : List ByteArray := (ws.take i).map (iF11.cut a1) ++ ws.drop i
theorem iF11.row_length (a1 : ByteArray) (ws : List ByteArray) (i : Nat) : (iF11.row a1 ws i).length = ws.length := by
 unfold iF11.row
 rw [List.length_append, List.length_map, List.length_take, List.length_drop]
 omega
theorem iF11.row_get (a1 : ByteArray) (ws : List ByteArray) (i : Nat) (h : i < ws.length) : rdOf eB_ (iF11.row a1 ws i) (i : Int) = rdOf eB_ ws (i : Int) := by
 unfold iF11.row rdOf
 rw [Int.toNat_natCast, List.getD_eq_getElem?_getD, List.getD_eq_getElem?_getD, List.getElem?_append_right (by rw [List.length_map, List.length_take]; omega), List.length_map, List.length_take, List.getElem?_drop]
 rw [show i + (i - min i ws.length) = i from by omega]
theorem iF11.row_set (a1 : ByteArray) (ws : List ByteArray) (i : Nat) (h : i < ws.length) : (iF11.row a1 ws i).set i (iF11.cut a1 (rdOf eB_ ws (i : Int))) = iF11.row a1 ws (i + 1) := by
 unfold iF11.row rdOf
 have hl : ((ws.take i).map (iF11.cut a1)).length = i := by rw [List.length_map, List.length_take]; omega
 rw [List.set_append_right _ _ (by omega), hl, Nat.sub_self, Int.toNat_natCast, List.drop_eq_getElem_cons h, List.set_cons_zero, List.take_succ_eq_append_getElem h, List.map_append, List.append_assoc, List.getD_eq_getElem?_getD, List.getElem?_eq_getElem h]
 rfl
set_option maxHeartbeats 4000000 in
theorem iF11.calls (k : Nat) (A0_0 : Option Addr) (c0_0 : Nat) (l0_0 : List S96) (a1 : ByteArray) (r : List ByteArray) (w : World) (hr0_0 : Kd.C k96 w A0_0 l0_0.length l0_0) (hc0_0 : l0_0.length ≤ c0_0) (h : iF11.f k l0_0 a1 = some r) :
  Calls Tryz.prog 71 #[.agg #[.slice A0_0 l0_0.length c0_0], .string a1] w fun e w' => ∃ v0_ : Value, e = .returned v0_ ∧ Kd.R Kd.string 9 w' w.heap.size (fun _ => True) v0_ r ∧ Below w.heap.size w w' := by
 unfold iF11.f at h
 cases hw : iF16.f k l0_0 a1 with
 | none => rw [hw] at h; cases h
 | some ws =>
 rw [hw, Option.bind_some] at h
 by_cases hl : ws.length ≤ 1000000000 ∧ (ws.all fun x => decide (a1.size ≤ x.size ∧ x.size ≤ 1000000000)) = true
 rotate_left
 ·
  rw [if_neg hl] at h; cases h
 rw [if_pos hl] at h
 obtain rfl := Option.some.inj h
 have HG := aM_ hl
 have HW1 := aM_ ((Below.refl w.heap.size w).alloc (Nat.le_refl _) (.cells #[.slice A0_0 l0_0.length c0_0] 28))
 have HC := aM_ (iF16.calls k A0_0 c0_0 l0_0 a1 ws (w.alloc (.cells #[.slice A0_0 l0_0.length c0_0] 28)) (k4_ hr0_0 HW1.out) hc0_0 hw)
 clear h hl hw hr0_0
 go_enter Tryz.func71, Tryz.ntmps71
 go_wp2_with fail
 refine HC.out.mono ?_
 clear HC
 rintro e w1 ⟨v, rfl, hr, hb0⟩
 obtain ⟨A, c, hv⟩ := kS_ hr
 subst hv
 obtain ⟨n, hn⟩ : ∃ n, ws.length = n := ⟨_, rfl⟩
 have HN := aM_ hn
 rw [hn] at hr
 rw [hn]
 have hnb : n ≤ 1000000000 := by have := HG.out.1; omega
 have HO := aM_ (show Kd.R Kd.string 9 w1 w.heap.size (fun _ => True) (.slice A n c) (iF11.row a1 ws 0) from by
  unfold iF11.row
  rw [List.take_zero, List.map_nil, List.nil_append, List.drop_zero]
  exact k5_ hr HW1.out.size)
 have HB := aM_ (HW1.out.trans (hb0.mono HW1.out.size))
 clear hr hb0 hn HW1
 go_wp2_with fail
 go_loopg [13] n (fun gg v13 w' => ∃ i : Nat, i ≤ n ∧ n - i ≤ gg ∧ v13 = .int .i64 (i : Int) ∧ Aside0 (Kd.R Kd.string 9 w' w.heap.size (fun _ => True) (.slice A n c) (iF11.row a1 ws i)) ∧ Aside0 (Below w.heap.size w w'))
 case atStart => exact ⟨0, Nat.zero_le _, by omega, rfl, HO, HB⟩
 clear HO HB
 obtain ⟨i, hi, hg, rfl, HO, HB⟩ := hrel
 by_cases hlt : i < n
 rotate_left
 ·
  have hltz : ¬ (i : Int) < (n : Int) := by omega
  obtain rfl : i = n := by omega
  go_wp2_with fail
  go_ret
  refine ⟨_, rfl, ?_, HB.out⟩
  have h1 := HO.out
  unfold iF11.row at h1
  rw [List.take_of_length_le (by rw [HN.out]; omega), List.drop_of_length_le (by rw [HN.out]; omega), List.append_nil] at h1
  exact h1
 have hltz : (i : Int) < (n : Int) := by omega
 obtain ⟨go, co, eo, gb, gl, cl, HGG⟩ := Kd.R_form HO.out (by rw [iF11.row_length, HN.out]; omega)
 injection eo with ea_ en_ ec_
 subst ea_
 have GB := aM_ gb
 clear gb gl HGG en_ ec_
 have hcell := kC_ eB_ HO.out (i : Int) (by omega) hltz
 rw [iF11.row_get a1 ws i (by rw [HN.out]; exact hlt), Int.toNat_natCast] at hcell
 obtain ⟨hx0, hf0⟩ := hcell
 have HS := aM_ (show a1.size ≤ (rdOf eB_ ws (i : Int)).size ∧ (rdOf eB_ ws (i : Int)).size ≤ 1000000000 from by
  have h1 := List.all_eq_true.1 HG.out.2 (rdOf eB_ ws (i : Int)) (by
   unfold rdOf
   rw [List.getD_eq_getElem?_getD, Int.toNat_natCast, List.getElem?_eq_getElem (by rw [HN.out]; exact hlt)]
   exact List.getElem_mem _)
  simpa using h1)
 have HX := aM_ (And.intro (Kd.R_putn HO.out (i : Int) (iF11.cut a1 (rdOf eB_ ws (i : Int)))) (Kd.R_putg HO.out (i : Int) (iF11.cut a1 (rdOf eB_ ws (i : Int)))).2)
 obtain ⟨x, hx⟩ : ∃ x, rdOf eB_ ws (i : Int) = x := ⟨_, rfl⟩
 have HXX := aM_ hx
 rw [hx] at hx0 HS HX
 have hs1 := HS.out.1
 have hs2 := HS.out.2
 clear hx
 have xc : wr.cell? ⟨go, i, none⟩ = _ := hx0
 have xf : wr.frozen? ⟨go, i, none⟩ = false := hf0
 clear hx0 hf0 HO
 go_wp2_with fail
 go_roundg (n - (i + 1))
 case measure => omega
 refine ⟨i + 1, by omega, by omega, by go_num, ⟨?_⟩, ⟨bS_ HB.out GB.out⟩⟩
 have h1 := HX.out.1
 rw [← HXX.out, Int.toNat_natCast, iF11.row_set a1 ws i (by rw [HN.out]; exact hlt), HXX.out] at h1
 exact h1
mutual
def iF12.l0 : Nat → List ByteArray → List ByteArray → Int → Int → List (S96) → Option (List ByteArray)
 | 0, _, _, _, _, _ => none
 | k + 1, x5, x17, x18, x19, x392000 => if x19 < x18 then (if 0 ≤ x19 then (if x19 < (x17.length : Int) then ((iF11.f k x392000 (rdOf eB_ x17 x19)).bind fun t400 => (iF12.l1 k x5 (⟨#[]⟩ : ByteArray) x17 x18 x19 t400 (t400.length : Int) 0 x392000)) else (none)) else (none)) else (some x5)
def iF12.l1 : Nat → List ByteArray → ByteArray → List ByteArray → Int → Int → List ByteArray → Int → Int → List (S96) → Option (List ByteArray)
 | 0, _, _, _, _, _, _, _, _, _ => none
 | k + 1, x5, x8, x17, x18, x19, x25, x26, x27, x392000 => if x27 < x26 then (if 0 ≤ x27 then (if x27 < (x25.length : Int) then (if (rdOf eB_ x25 x27).size + 1 ≤ 9223372036854775807 then (if x8.size + ((rdOf eB_ x25 x27) ++ (⟨#[44]⟩ : ByteArray)).size ≤ 9223372036854775807 then (iF12.l1 k x5 (x8 ++ ((rdOf eB_ x25 x27) ++ (⟨#[44]⟩ : ByteArray))) x17 x18 x19 x25 x26 (wrap64 (x27 + 1)) x392000) else (none)) else (none)) else (none)) else (none)) else (if x5.length < 8796093022208 then (iF12.l0 k (x5 ++ [x8]) x17 x18 (wrap64 (x19 + 1)) x392000) else (none))
end
def iF12.f (k : Nat) (l0_0 : List (S96)) : Option (List ByteArray) := (iF15.f k l0_0).bind fun bt392 => (iF12.l0 k (([] : List ByteArray)) bt392.1 (bt392.1.length : Int) 0 l0_0)
theorem iF12.mono_l : ∀ k, (∀ y0 y1 y2 y3 y4, LeO (iF12.l0 k y0 y1 y2 y3 y4) (iF12.l0 (k + 1) y0 y1 y2 y3 y4)) ∧ (∀ y0 y1 y2 y3 y4 y5 y6 y7 y8, LeO (iF12.l1 k y0 y1 y2 y3 y4 y5 y6 y7 y8) (iF12.l1 (k + 1) y0 y1 y2 y3 y4 y5 y6 y7 y8))
 | 0 => ⟨fun _ _ _ _ _ r h => by simp [iF12.l0] at h, fun _ _ _ _ _ _ _ _ _ r h => by simp [iF12.l1] at h⟩
 | k + 1 => by
  obtain ⟨ih0, ih1⟩ := iF12.mono_l k
  refine ⟨?_, ?_⟩
  ·
   intro y0 y1 y2 y3 y4
   unfold iF12.l0
   repeat' with_reducible first | exact ih0 _ _ _ _ _ | exact ih1 _ _ _ _ _ _ _ _ _ | exact iF11.mono _ _ _ | exact iF15.mono _ _ | exact l3_ _ | exact l0_ _ | refine l2_ ?_ ?_ | refine l1_ ?_ (fun _ => ?_)
  intro y0 y1 y2 y3 y4 y5 y6 y7 y8
  unfold iF12.l1
  repeat' with_reducible first | exact ih0 _ _ _ _ _ | exact ih1 _ _ _ _ _ _ _ _ _ | exact iF11.mono _ _ _ | exact iF15.mono _ _ | exact l3_ _ | exact l0_ _ | refine l2_ ?_ ?_ | refine l1_ ?_ (fun _ => ?_)
theorem iF12.mono : ∀ a0 k, LeO (iF12.f k a0) (iF12.f (k + 1) a0) := by
 intro a0 k
 obtain ⟨ih0, ih1⟩ := iF12.mono_l k
 unfold iF12.f
 repeat' with_reducible first | exact ih0 _ _ _ _ _ | exact ih1 _ _ _ _ _ _ _ _ _ | exact iF11.mono _ _ _ | exact iF15.mono _ _ | exact l3_ _ | exact l0_ _ | refine l2_ ?_ ?_ | refine l1_ ?_ (fun _ => ?_)
theorem iF12.calls (k : Nat) (A0_0 : Option Addr) (c0_0 : Nat) (l0_0 : List (S96)) (r : List ByteArray) (w : World) (hr0_0 : Kd.C k96 w A0_0 l0_0.length l0_0) (hc0_0 : l0_0.length ≤ c0_0) (h : iF12.f k l0_0 = some r) :
  Calls Tryz.prog 96 #[.agg #[.slice A0_0 l0_0.length c0_0]] w fun e w' => ∃ v0_ : Value, e = .returned (v0_) ∧ Kd.R Kd.string 9 w' w.heap.size (fun _ => True) v0_ r ∧ Below w.heap.size w w' := by
 have hu28 := Tryz.underlying28
 have HR0_0 := aM_ hr0_0
 have HC0_0 := aM_ hc0_0
 clear hr0_0 hc0_0
 have HB := aM_ (Below.refl w.heap.size w)
 have H : ((iF15.f k l0_0).bind fun bt392 => (iF12.l0 k (([] : List ByteArray)) bt392.1 (bt392.1.length : Int) 0 l0_0)) = some r := h
 clear h
 replace H := oB_.mp H
 obtain ⟨⟨t392, t395⟩, A20, H⟩ := H
 try dsimp only at H
 have A2 := aM_ A20
 clear A20
 obtain ⟨y396, hy396⟩ : ∃ y_ : List ByteArray, y_ = (([] : List ByteArray)) := ⟨_, rfl⟩
 replace H : (iF12.l0 k y396 t392 (t392.length : Int) 0 l0_0) = some r := by (try rw [hy396]); first | with_reducible exact H | with_reducible exact oS_ H | exact H
 have Ny396 := aM_ hy396
 clear hy396
 have H' := aM_ H
 clear H
 go_enter Tryz.func96, Tryz.ntmps96
 go_wp2_with (first | (refine bx_ 1 #[.slice A0_0 l0_0.length c0_0] 28 ?_; intro gb391 hg w3 hbox hb; have BK391 := aM_ (hbox); have GW391 := gw_ hg HB; replace HB := b4_ HB hb; clear hb hbox hg; have hcz4_0 := c0_ BK391; have hfz4_0 := bF_ BK391.out 0) | (refine gs_ 13 Tryz.func94 #[.agg #[.slice A0_0 l0_0.length c0_0]] ?_; (with_reducible refine (iF15.calls k _ _ l0_0 t392 t395 _ ?side1 HC0_0.out A2.out).mono ?_); (case side1 => repeat (first | exact (k4_ HR0_0.out HB.out) | with_reducible first | apply cA_ | apply cN_ | apply cD_)); rintro e w5 ⟨v393, rfl, ho0, hb⟩; refine ⟨_, rfl, ?_⟩; have HO394 := aM_ (k5_ ho0 (bZ_ HB.out)); replace BK391 := b5_ BK391 hb; replace HB := b4_ HB hb; (try clear hb); (try clear ho0)) | ((with_reducible refine gD_ (N := 16) rfl ?_); refine Kd.R_lit Kd.string _ 9 ?hg (N := 16) ?hd (xs := ([] : List ByteArray)) (inner := []) (ok := fun _ => True) (okp := fun _ => True) ?hr ?hp (fun _ hk => hk) trivial (Below.refl _ _) (Nat.le_refl _) (by simp) ?_; (case hd => rfl); (case hg => rfl); (case hr => (go_simp; done)); (case hp => exact (Reps.none _ _)); intro v397 w6 ho7 hb hg_ hnew_; clear hg_ hnew_; (rw [← Ny396.out] at ho7); have HO398 := aM_ (k5_ (Kd.R_new' ho7 (Kd.R_lt HO394.out)) (bZ_ HB.out)); replace HO394 := aM_ (Kd.R_elder' HO394.out (Kd.R_base ho7) hb); replace BK391 := b5_ BK391 hb; replace HB := b4_ HB hb; clear hb ho7; obtain ⟨Ao8, co8, eo8⟩ := kS_ HO394.out; subst eo8))
 go_loopg [5, 19] k (fun kq v5 v19 w' => ∃ (x5_1 : List ByteArray) (x19_1 : Int), v19 = .int .i64 x19_1 ∧ Aside0 (iF12.l0 kq x5_1 t392 (t392.length : Int) x19_1 l0_0 = some r) ∧ Aside0 (kq ≤ k) ∧ Aside0 (Kd.R Kd.string 9 w' w.heap.size (fun k_ => some k_ ≠ ((.slice Ao8 t392.length co8) : Value).ownBlock) v5 x5_1) ∧ Aside0 (Kd.R Kd.string 9 w' w.heap.size (fun k_ => some k_ ≠ (v5 : Value).ownBlock) (.slice Ao8 t392.length co8) t392) ∧ Aside0 (w'.heap[gb391]? = some (.cells #[(.slice A0_0 l0_0.length c0_0)] 28 (0, 0))) ∧ Aside0 (Below w.heap.size w w'))
 case atStart => exact ⟨(y396), (0), (by rfl), H', ⟨Nat.le_refl _⟩, ⟨by exact kM_ HO398.out (fun _ hk => hk.2)⟩, ⟨by exact kM_ HO394.out (fun _ hk => hk.2)⟩, ⟨BK391.out⟩, ⟨HB.out⟩⟩
 clear H'
 try clear p2
 try clear hcz4_0
 try clear hfz4_0
 obtain ⟨x5_1, x19_1, rfl, HA, HK1, HO_5, HO_17, BK391, HB⟩ := hrel
 cases gk with
 | zero => exact absurd HA.out (by simp [iF12.l0])
 | succ k1 =>
  have H := HA.out
  clear HA
  simp only [iF12.l0] at H
  by_cases c9 : x19_1 < (t392.length : Int)
  rotate_left
  ·
   rw [if_neg c9] at H
   have c9b0 := dF_ c9
   clear c9
   obtain rfl := Option.some.inj H
   go_wp2
   go_ret
   exact ⟨_, by rfl, by exact kM_ HO_5.out (fun _ hk => trivial), by exact HB.out⟩
  rw [if_pos c9] at H
  have c9b0 := dT_ c9
  clear c9
  by_cases c10 : 0 ≤ x19_1
  rotate_left
  ·
   rw [if_neg c10] at H
   exact absurd H (by simp)
  rw [if_pos c10] at H
  have c10b0 := dT_ c10
  clear c10
  by_cases c11 : x19_1 < (t392.length : Int)
  rotate_left
  ·
   rw [if_neg c11] at H
   exact absurd H (by simp)
  rw [if_pos c11] at H
  have c11b0 := dT_ c11
  clear c11
  replace H := oB_.mp H
  obtain ⟨t400, A120, H⟩ := H
  try dsimp only at H
  have A12 := aM_ A120
  clear A120
  have H' := aM_ H
  clear H
  have p399 : 0 ≤ (x19_1 : Int) := oD_ ‹_›
  have q399 : x19_1 < (t392.length : Int) := oD_ ‹_›
  obtain ⟨ad399, e399, hx399_0⟩ := Kd.at_string (kR_ HO_17.out).2.2 x19_1 p399 q399
  cases e399
  replace p399 := eq_true p399
  replace q399 := eq_true q399
  have hcz13_0 := c0_ BK391
  have hfz13_0 := bF_ BK391.out 0
  go_wp2_with (first | (refine gs_ 25 Tryz.func71 #[.agg #[.slice A0_0 l0_0.length c0_0], .string (rdOf eB_ t392 x19_1)] ?_; (with_reducible refine (iF11.calls k1 _ _ l0_0 (rdOf eB_ t392 x19_1) t400 _ ?side1 HC0_0.out A12.out).mono ?_); (case side1 => repeat (first | exact (k4_ HR0_0.out HB.out) | with_reducible first | apply cA_ | apply cN_ | apply cD_)); rintro e w14 ⟨v401, rfl, ho0, hb⟩; refine ⟨_, rfl, ?_⟩; have HO402 := aM_ (k5_ (Kd.R_new' (Kd.R_new' ho0 (Kd.R_lt HO_5.out)) (Kd.R_lt HO_17.out)) (bZ_ HB.out)); replace HO_5 := aM_ (Kd.R_elder' HO_5.out (Kd.R_base ho0) hb); replace HO_17 := aM_ (Kd.R_elder' HO_17.out (Kd.R_base ho0) hb); replace BK391 := b5_ BK391 hb; replace HB := b4_ HB hb; (try clear hb); (try clear ho0); obtain ⟨Ao15, co15, eo15⟩ := kS_ HO402.out; subst eo15))
  go_loopg [8, 27] k1 (fun kq v8 v27 w' => ∃ (x8_2 : ByteArray) (x27_2 : Int), v8 = .string x8_2 ∧ v27 = .int .i64 x27_2 ∧ Aside0 (iF12.l1 kq x5_1 x8_2 t392 (t392.length : Int) x19_1 t400 (t400.length : Int) x27_2 l0_0 = some r) ∧ Aside0 (kq ≤ k1) ∧ Aside0 (Kd.R Kd.string 9 w' w.heap.size (fun k_ => some k_ ≠ ((.slice (some ad399) t392.length co8) : Value).ownBlock ∧ some k_ ≠ ((.slice Ao15 t400.length co15) : Value).ownBlock) u5 x5_1) ∧ Aside0 (Kd.R Kd.string 9 w' w.heap.size (fun k_ => some k_ ≠ (u5 : Value).ownBlock ∧ some k_ ≠ ((.slice Ao15 t400.length co15) : Value).ownBlock) (.slice (some ad399) t392.length co8) t392) ∧ Aside0 (Kd.R Kd.string 9 w' w.heap.size (fun k_ => some k_ ≠ (u5 : Value).ownBlock ∧ some k_ ≠ ((.slice (some ad399) t392.length co8) : Value).ownBlock) (.slice Ao15 t400.length co15) t400) ∧ Aside0 (w'.heap[gb391]? = some (.cells #[(.slice A0_0 l0_0.length c0_0)] 28 (0, 0))) ∧ Aside0 (Below w.heap.size w w'))
  case atStart => exact ⟨((⟨#[]⟩ : ByteArray)), (0), (by rfl), (by rfl), H', ⟨Nat.le_refl _⟩, ⟨HO_5.out⟩, ⟨HO_17.out⟩, ⟨by exact kM_ HO402.out (fun _ hk => ⟨hk.1.2, hk.2⟩)⟩, ⟨BK391.out⟩, ⟨HB.out⟩⟩
  clear H'
  try clear p2
  try clear p3
  try clear q3
  try clear hx3
  try clear c9b0
  try clear c10b0
  try clear c11b0
  try clear hcz13_0
  try clear hcz4_0
  try clear hfz13_0
  try clear hfz4_0
  try clear hx399_0
  try clear p2
  try clear p399
  try clear q399
  obtain ⟨x8_2, x27_2, rfl, rfl, HA, HK2, HO_5, HO_17, HO_25, BK391, HB⟩ := hrel
  cases gk with
  | zero => exact absurd HA.out (by simp [iF12.l1])
  | succ k2 =>
   have H := HA.out
   clear HA
   simp only [iF12.l1] at H
   by_cases c16 : x27_2 < (t400.length : Int)
   rotate_left
   ·
    rw [if_neg c16] at H
    have c16b0 := dF_ c16
    clear c16
    by_cases c21 : x5_1.length < 8796093022208
    ·
     rw [if_pos c21] at H
     have LMc21 := aM_ c21
     clear c21
     obtain ⟨y404, hy404⟩ : ∃ y_ : List ByteArray, y_ = (x5_1 ++ [x8_2]) := ⟨_, rfl⟩
     replace H : (iF12.l0 k2 y404 t392 (t392.length : Int) (wrap64 (x19_1 + 1)) l0_0) = some r := by (try rw [hy404]); first | with_reducible exact H | with_reducible exact oS_ H | exact H
     have Ny404 := aM_ hy404
     clear hy404
     have H' := aM_ H
     clear H
     go_wp2_with (first | ((with_reducible refine gate_builtin (b := .append) (xs := #[.tmp 36, .tmp 38]) rfl ?_); at_builtin; refine Kd.R_append Kd.string (w0 := w) w.heap.size rfl (.tmp 36) (.tmp 38) 51 9 (.string ⟨#[]⟩) 16 rfl Tryz.underlying51 info9 rfl (by decide) (by omega) u5 x5_1 x8_2 [.string x8_2] (fun k_ => some k_ ≠ (.slice (some ad399) t392.length co8 : Value).ownBlock ∧ some k_ ≠ (.slice Ao15 t400.length co15 : Value).ownBlock) (fun _ => False) rfl rfl ?aP (fun _ hk => hk.elim) ?aF ?aO ?aB ?aS ?aL ?_; (case aP => exact rfl); (case aB => exact HB.out); (case aF => exact (fun k_ hk => ⟨Kd.fresh' (Kd.R_lt HO_17.out) k_ hk, Kd.fresh' (Kd.R_lt HO_25.out) k_ hk⟩)); (case aO => exact HO_5.out); (case aS => exact (bZ_ HB.out)); (case aL => have := LMc21.out; omega); intro v405 w22 ho hb hg hat; rw [← Ny404.out] at ho; have n0_ := aM_ (Kd.R_after (ok := (fun k_ => some k_ ≠ (.slice Ao15 t400.length co15 : Value).ownBlock)) (by exact kM_ HO_17.out (fun _ hk => ⟨hk.2, hk.1⟩)) hg hat); have n1_ := aM_ (Kd.R_after (ok := (fun k_ => some k_ ≠ (.slice (some ad399) t392.length co8 : Value).ownBlock)) (by exact kM_ HO_25.out (fun _ hk => ⟨hk.2, hk.1⟩)) hg hat); have n2_ := aM_ (blk_grown (g := gb391) (o := .cells #[.slice A0_0 l0_0.length c0_0] 28 (0, 0)) BK391.out hg (k6_ HO_5.out BK391.out (by decide))); have n3_ := aM_ (hb); have n4_ := aM_ (ho); clear HO_17; clear HO_25; clear BK391; clear HB; clear HO_5; have HO_17 := n0_; have HO_25 := n1_; have BK391 := n2_; have HB := n3_; have HO406 := n4_; clear n0_ n1_ n2_ n3_ n4_; clear ho hb hg hat))
     go_roundg k2
     case measure => have := HK1.out; have := HK2.out; omega
     case rel => exact ⟨(y404), (wrap64 (x19_1 + 1)), (by rfl), H', ⟨by have := HK1.out; have := HK2.out; omega⟩, ⟨by exact kM_ HO406.out (fun _ hk => hk.1)⟩, ⟨by exact kM_ HO_17.out (fun _ hk => hk.2)⟩, ⟨BK391.out⟩, ⟨HB.out⟩⟩
    rw [if_neg c21] at H
    exact absurd H (by simp)
   rw [if_pos c16] at H
   have c16b0 := dT_ c16
   clear c16
   by_cases c17 : 0 ≤ x27_2
   rotate_left
   ·
    rw [if_neg c17] at H
    exact absurd H (by simp)
   rw [if_pos c17] at H
   have c17b0 := dT_ c17
   clear c17
   by_cases c18 : x27_2 < (t400.length : Int)
   rotate_left
   ·
    rw [if_neg c18] at H
    exact absurd H (by simp)
   rw [if_pos c18] at H
   have c18b0 := dT_ c18
   clear c18
   by_cases c19 : (rdOf eB_ t400 x27_2).size + 1 ≤ 9223372036854775807
   rotate_left
   ·
    rw [if_neg c19] at H
    exact absurd H (by simp)
   rw [if_pos c19] at H
   have c19b0 := eq_true c19
   have c19b1 := dT_ c19
   try have c19b2 : (9223372036854775807 < (rdOf eB_ t400 x27_2).size + 1) = False := eq_false (Nat.not_lt.2 c19)
   by_cases c20 : x8_2.size + ((rdOf eB_ t400 x27_2) ++ (⟨#[44]⟩ : ByteArray)).size ≤ 9223372036854775807
   ·
    rw [if_pos c20] at H
    have c20b0 := eq_true c20
    have c20b1 := dT_ c20
    try have c20b2 : (9223372036854775807 < x8_2.size + ((rdOf eB_ t400 x27_2) ++ (⟨#[44]⟩ : ByteArray)).size) = False := eq_false (Nat.not_lt.2 c20)
    have H' := aM_ H
    clear H
    have p403 : 0 ≤ (x27_2 : Int) := oD_ ‹_›
    have q403 : x27_2 < (t400.length : Int) := oD_ ‹_›
    obtain ⟨ad403, e403, hx403_0⟩ := Kd.at_string (kR_ HO_25.out).2.2 x27_2 p403 q403
    cases e403
    replace p403 := eq_true p403
    replace q403 := eq_true q403
    go_wp2
    go_roundg k2
    case measure => have := HK1.out; have := HK2.out; omega
    case rel => exact ⟨(x8_2 ++ ((rdOf eB_ t400 x27_2) ++ (⟨#[44]⟩ : ByteArray))), (wrap64 (x27_2 + 1)), (by rfl), (by rfl), H', ⟨by have := HK1.out; have := HK2.out; omega⟩, ⟨HO_5.out⟩, ⟨HO_17.out⟩, ⟨HO_25.out⟩, ⟨BK391.out⟩, ⟨HB.out⟩⟩
   rw [if_neg c20] at H
   exact absurd H (by simp)
def iF13.l0 : Nat → Int → List Int → List (S96) → Int → Int → Option (List Int)
 | 0, _, _, _, _, _ => none
 | k + 1, x1, x5, x10, x11, x12 => if x12 < x11 then (if 0 ≤ x12 then (if x12 < (x10.length : Int) then (if ((rd_T96 x10 x12).f1) = x1 then (if x5.length < 17592186044416 then (iF13.l0 k x1 (x5 ++ [x12]) x10 x11 (wrap64 (x12 + 1))) else (none)) else (iF13.l0 k x1 x5 x10 x11 (wrap64 (x12 + 1)))) else (none)) else (none)) else (some x5)
def iF13.f (k : Nat) (l0_0 : List (S96)) (a1 : Int) : Option (List Int) := iF13.l0 k a1 (([] : List Int)) l0_0 (l0_0.length : Int) 0
theorem iF13.mono_l : ∀ k, (∀ y0 y1 y2 y3 y4, LeO (iF13.l0 k y0 y1 y2 y3 y4) (iF13.l0 (k + 1) y0 y1 y2 y3 y4))
 | 0 => fun _ _ _ _ _ r h => by simp [iF13.l0] at h
 | k + 1 => by
  have ih0 := iF13.mono_l k
  intro y0 y1 y2 y3 y4
  unfold iF13.l0
  repeat' with_reducible first | exact ih0 _ _ _ _ _ | exact l3_ _ | exact l0_ _ | refine l2_ ?_ ?_ | refine l1_ ?_ (fun _ => ?_)
theorem iF13.mono : ∀ a0 a1 k, LeO (iF13.f k a0 a1) (iF13.f (k + 1) a0 a1) := by
 intro a0 a1 k
 have ih0 := iF13.mono_l k
 unfold iF13.f
 repeat' with_reducible first | exact ih0 _ _ _ _ _ | exact l3_ _ | exact l0_ _ | refine l2_ ?_ ?_ | refine l1_ ?_ (fun _ => ?_)
theorem iF13.calls (k : Nat) (A0_0 : Option Addr) (c0_0 : Nat) (l0_0 : List (S96)) (a1 : Int) (r : List Int) (w : World) (hr0_0 : Kd.C k96 w A0_0 l0_0.length l0_0) (hc0_0 : l0_0.length ≤ c0_0) (h : iF13.f k l0_0 a1 = some r) :
  Calls Tryz.prog 97 #[.agg #[.slice A0_0 l0_0.length c0_0], .int .i64 a1] w fun e w' => ∃ v0_ : Value, e = .returned (v0_) ∧ Kd.R (Kd.int .i64) 3 w' w.heap.size (fun _ => True) v0_ r ∧ Below w.heap.size w w' := by
 have hu28 := Tryz.underlying28
 have hu96 := Tryz.underlying96
 have HR0_0 := aM_ hr0_0
 have HC0_0 := aM_ hc0_0
 clear hr0_0 hc0_0
 have HB := aM_ (Below.refl w.heap.size w)
 have H : (iF13.l0 k a1 (([] : List Int)) l0_0 (l0_0.length : Int) 0) = some r := h
 clear h
 obtain ⟨y408, hy408⟩ : ∃ y_ : List Int, y_ = (([] : List Int)) := ⟨_, rfl⟩
 replace H : (iF13.l0 k a1 y408 l0_0 (l0_0.length : Int) 0) = some r := by (try rw [hy408]); first | with_reducible exact H | with_reducible exact oS_ H | exact H
 have Ny408 := aM_ hy408
 clear hy408
 have H' := aM_ H
 clear H
 go_enter Tryz.func97, Tryz.ntmps97
 go_wp2_with (first | (refine bx_ 2 #[.slice A0_0 l0_0.length c0_0] 28 ?_; intro gb407 hg w3 hbox hb; have BK407 := aM_ (hbox); have GW407 := gw_ hg HB; replace HB := b4_ HB hb; clear hb hbox hg) | ((with_reducible refine gD_ (N := 8) rfl ?_); refine Kd.R_lit (Kd.int .i64) _ 3 ?hg (N := 8) ?hd (xs := ([] : List Int)) (inner := []) (ok := fun _ => True) (okp := fun _ => True) ?hr ?hp (fun _ hk => hk) trivial (Below.refl _ _) (Nat.le_refl _) (by simp) ?_; (case hd => rfl); (case hg => rfl); (case hr => (go_simp; done)); (case hp => exact (Reps.none _ _)); intro v409 w4 ho5 hb hg_ hnew_; clear hg_ hnew_; (rw [← Ny408.out] at ho5); have HO410 := aM_ (k5_ ho5 (bZ_ HB.out)); replace BK407 := b5_ BK407 hb; replace HB := b4_ HB hb; clear hb ho5; have hcz6_0 := c0_ BK407; have hfz6_0 := bF_ BK407.out 0))
 go_loopg [5, 12] k (fun kq v5 v12 w' => ∃ (x5_1 : List Int) (x12_1 : Int), v12 = .int .i64 x12_1 ∧ Aside0 (iF13.l0 kq a1 x5_1 l0_0 (l0_0.length : Int) x12_1 = some r) ∧ Aside0 (kq ≤ k) ∧ Aside0 (Kd.R (Kd.int .i64) 3 w' w.heap.size (fun _ => True) v5 x5_1) ∧ Aside0 (w'.heap[gb407]? = some (.cells #[(.slice A0_0 l0_0.length c0_0)] 28 (0, 0))) ∧ Aside0 (Below w.heap.size w w'))
 case atStart => exact ⟨(y408), (0), (by rfl), H', ⟨Nat.le_refl _⟩, ⟨HO410.out⟩, ⟨BK407.out⟩, ⟨HB.out⟩⟩
 clear H'
 try clear p2
 try clear hcz6_0
 try clear hfz6_0
 obtain ⟨x5_1, x12_1, rfl, HA, HK1, HO_5, BK407, HB⟩ := hrel
 cases gk with
 | zero => exact absurd HA.out (by simp [iF13.l0])
 | succ k1 =>
  have H := HA.out
  clear HA
  simp only [iF13.l0] at H
  by_cases c7 : x12_1 < (l0_0.length : Int)
  rotate_left
  ·
   rw [if_neg c7] at H
   have c7b0 := dF_ c7
   clear c7
   obtain rfl := Option.some.inj H
   go_wp2
   go_ret
   exact ⟨_, by rfl, by exact HO_5.out, by exact HB.out⟩
  rw [if_pos c7] at H
  have c7b0 := dT_ c7
  clear c7
  by_cases c8 : 0 ≤ x12_1
  rotate_left
  ·
   rw [if_neg c8] at H
   exact absurd H (by simp)
  rw [if_pos c8] at H
  have c8b0 := dT_ c8
  clear c8
  by_cases c9 : x12_1 < (l0_0.length : Int)
  rotate_left
  ·
   rw [if_neg c9] at H
   exact absurd H (by simp)
  rw [if_pos c9] at H
  have c9b0 := dT_ c9
  clear c9
  by_cases c10 : ((rd_T96 l0_0 x12_1).f1) = a1
  ·
   rw [if_pos c10] at H
   have c10b0 : (((rd_T96 l0_0 x12_1).f1) == a1) = true := beq_iff_eq.mpr c10
   have c10b1 : (((rd_T96 l0_0 x12_1).f1) != a1) = false := bne_eq_false_iff_eq.mpr c10
   clear c10
   by_cases c11 : x5_1.length < 17592186044416
   rotate_left
   ·
    rw [if_neg c11] at H
    exact absurd H (by simp)
   rw [if_pos c11] at H
   have LMc11 := aM_ c11
   clear c11
   obtain ⟨y413, hy413⟩ : ∃ y_ : List Int, y_ = (x5_1 ++ [x12_1]) := ⟨_, rfl⟩
   replace H : (iF13.l0 k1 a1 y413 l0_0 (l0_0.length : Int) (wrap64 (x12_1 + 1))) = some r := by (try rw [hy413]); first | with_reducible exact H | with_reducible exact oS_ H | exact H
   have Ny413 := aM_ hy413
   clear hy413
   have H' := aM_ H
   clear H
   have p411 : 0 ≤ (x12_1 : Int) := oD_ ‹_›
   have q411 : x12_1 < (l0_0.length : Int) := oD_ ‹_›
   obtain ⟨ad411, e411, hx411_0, hx411_1, hx411_2⟩ := at_T96 HR0_0.out x12_1 p411 q411
   cases e411
   replace hx411_0 := cb_ HB hx411_0
   replace hx411_1 := cb_ HB hx411_1
   replace hx411_2 := cb_ HB hx411_2
   replace p411 := eq_true p411
   replace q411 := eq_true q411
   go_wp2_with (first | (refine bx_ 7 #[.int .i64 0, .int .i64 0, .bool false] 96 ?_; intro gb412 hg w12 hbox hb; replace HO_5 := k9_ HO_5 hb; have BK412 := aM_ (hbox); have GW412 := gw_ hg HB; replace HB := b4_ HB hb; have NB407_412 := nb_ hg BK407; have NB412_407 := ns_ NB407_412; replace BK407 := b5_ BK407 hb; clear hb hbox hg; have hnb13 := NB412_407.out; have hnc13 := NB407_412.out; have hcz14_0 := c0_ BK412; have hcz14_1 := c1_ BK412; have hcz14_2 := c2_ BK412; have hfz14_0 := bF_ BK412.out 0; have hfz14_1 := bF_ BK412.out 1; have hfz14_2 := bF_ BK412.out 2) | ((with_reducible refine gate_builtin (b := .append) (xs := #[.tmp 21, .tmp 23]) rfl ?_); at_builtin; refine Kd.R_append (Kd.int .i64) (w0 := w) w.heap.size rfl (.tmp 21) (.tmp 23) 56 3 (.int .i64 0) 8 rfl Tryz.underlying56 info3 rfl (by decide) (by omega) u5 x5_1 x12_1 [.int .i64 x12_1] (fun _ => True) (fun _ => False) rfl (by (go_simp; done)) ?aP (fun _ hk => hk.elim) ?aF ?aO ?aB ?aS ?aL ?_; (case aP => exact rfl); (case aB => exact (by repeat with_reducible first | exact HB.out | apply bA_ | apply bN_ | apply bD_ | refine bS_ ?_ (Aside0.out ‹_›))); (case aF => exact (fun _ _ => trivial)); (case aO => exact (by exact kM_ (kG_ (kG_ (kG_ (kT_ HO_5.out BK412.out (by decide))))) (fun _ hk => trivial))); (case aS => exact (bZ_ (by repeat with_reducible first | exact HB.out | apply bA_ | apply bN_ | apply bD_ | refine bS_ ?_ (Aside0.out ‹_›)))); (case aL => have := LMc11.out; omega); intro v414 w15 ho hb hg hat; rw [← Ny413.out] at ho; have n0_ := aM_ (blk_grown (g := gb407) (o := .cells #[.slice (some ad411) l0_0.length c0_0] 28 (0, 0)) (by exact br_ NB407_412.out (br_ NB407_412.out (br_ NB407_412.out (BK407.out)))) hg (k6_ HO_5.out BK407.out (by decide))); have n1_ := aM_ (blk_grown (g := gb412) (o := .cells #[.int .i64 ((rd_T96 l0_0 x12_1).f0), .int .i64 ((rd_T96 l0_0 x12_1).f1), .bool ((rd_T96 l0_0 x12_1).f2)] 96 (0, 0)) (by refine bP_ (cs := #[.int .i64 ((rd_T96 l0_0 x12_1).f0), .int .i64 ((rd_T96 l0_0 x12_1).f1), .bool false]) ?_ 2 _ rfl; refine bP_ (cs := #[.int .i64 ((rd_T96 l0_0 x12_1).f0), .int .i64 0, .bool false]) ?_ 1 _ rfl; refine bP_ (cs := #[.int .i64 0, .int .i64 0, .bool false]) ?_ 0 _ rfl; exact BK412.out) hg (k6_ HO_5.out BK412.out (by decide))); have n2_ := aM_ (hb); have n3_ := aM_ (ho); clear BK407; clear BK412; clear HB; clear HO_5; have BK407 := n0_; have BK412 := n1_; have HB := n2_; have HO415 := n3_; clear n0_ n1_ n2_ n3_; clear ho hb hg hat))
   go_roundg k1
   case measure => have := HK1.out; omega
   case rel => exact ⟨(y413), (wrap64 (x12_1 + 1)), (by rfl), H', ⟨by have := HK1.out; omega⟩, ⟨HO415.out⟩, ⟨BK407.out⟩, ⟨HB.out⟩⟩
  rw [if_neg c10] at H
  have c10b0 : (((rd_T96 l0_0 x12_1).f1) == a1) = false := beq_eq_false_iff_ne.mpr c10
  have c10b1 : (((rd_T96 l0_0 x12_1).f1) != a1) = true := bne_iff_ne.mpr c10
  have H' := aM_ H
  clear H
  have p411 : 0 ≤ (x12_1 : Int) := oD_ ‹_›
  have q411 : x12_1 < (l0_0.length : Int) := oD_ ‹_›
  obtain ⟨ad411, e411, hx411_0, hx411_1, hx411_2⟩ := at_T96 HR0_0.out x12_1 p411 q411
  cases e411
  replace hx411_0 := cb_ HB hx411_0
  replace hx411_1 := cb_ HB hx411_1
  replace hx411_2 := cb_ HB hx411_2
  replace p411 := eq_true p411
  replace q411 := eq_true q411
  go_wp2_with (first | (refine bx_ 7 #[.int .i64 0, .int .i64 0, .bool false] 96 ?_; intro gb412 hg w16 hbox hb; replace HO_5 := k9_ HO_5 hb; have BK412 := aM_ (hbox); have GW412 := gw_ hg HB; replace HB := b4_ HB hb; have NB407_412 := nb_ hg BK407; have NB412_407 := ns_ NB407_412; replace BK407 := b5_ BK407 hb; clear hb hbox hg; have hnb17 := NB412_407.out; have hnc17 := NB407_412.out; have hcz18_0 := c0_ BK412; have hcz18_1 := c1_ BK412; have hcz18_2 := c2_ BK412; have hfz18_0 := bF_ BK412.out 0; have hfz18_1 := bF_ BK412.out 1; have hfz18_2 := bF_ BK412.out 2))
  go_roundg k1
  case measure => have := HK1.out; omega
  case rel => exact ⟨(x5_1), (wrap64 (x12_1 + 1)), (by rfl), H', ⟨by have := HK1.out; omega⟩, ⟨by exact kM_ (kG_ (kG_ (kG_ (kT_ HO_5.out BK412.out (by decide))))) (fun _ hk => trivial)⟩, ⟨by exact br_ NB407_412.out (br_ NB407_412.out (br_ NB407_412.out (BK407.out)))⟩, ⟨by repeat with_reducible first | exact HB.out | apply bA_ | apply bN_ | apply bD_ | refine bS_ ?_ (Aside0.out ‹_›)⟩⟩
def iF14.fB (E : List ByteArray) : Nat → List ByteArray
 | 0 => []
 | i + 1 => if SM.has_ (iF14.fB E i) (rdOf eB_ E (i : Int)) = true then iF14.fB E i else iF14.fB E i ++ [rdOf eB_ E (i : Int)]
def iF14.sB (N : List S96) (E : List ByteArray) : Nat → List S72
 | 0 => []
 | i + 1 => if SM.has_ (iF14.fB E i) (rdOf eB_ E (i : Int)) = true then iF14.sB N E i else iF14.sB N E i ++ [⟨(rd_T96 N (i : Int)).f2, []⟩]
def iF14.iB (E : List ByteArray) : Nat → List Int
 | 0 => []
 | i + 1 => iF14.iB E i ++ [SM.at_ (iF14.fB E (i + 1)) (rdOf eB_ E (i : Int))]
theorem iF14.fB_length (N : List S96) (E : List ByteArray) : ∀ i, (iF14.fB E i).length = (iF14.sB N E i).length ∧ (iF14.fB E i).length ≤ i
 | 0 => ⟨rfl, Nat.le_refl _⟩
 | i + 1 => by
  obtain ⟨h1, h2⟩ := iF14.fB_length N E i
  rw [iF14.fB, iF14.sB]
  split
  ·
   exact ⟨h1, by omega⟩
  rw [List.length_append, List.length_append]
  exact ⟨by simp [h1], by simp; omega⟩
theorem iF14.iB_length (E : List ByteArray) : ∀ i, (iF14.iB E i).length = i
 | 0 => rfl
 | i + 1 => by rw [iF14.iB, List.length_append, iF14.iB_length E i]; rfl
def iF14.add (N : List S96) (ids : List Int) (ks : List Int) (x : S72) : S72 := ⟨x.f0, x.f1 ++ ks.map fun k => ⟨(rd_T96 N k).f0, rd ids k⟩⟩
def iF14.okk (N : List S96) (ids : List Int) (ks : List Int) : Bool := ks.all fun k => decide (0 ≤ k ∧ k < (N.length : Int) ∧ k < (ids.length : Int))
def iF14.l1 (k : Nat) (N : List S96) (ids : List Int) : (d i : Nat) → List Bool → List S72 → Option (List S72)
 | 0, _, _, sts => some sts
 | d + 1, i, done, sts => if 0 ≤ rd ids (i : Int) ∧ rd ids (i : Int) < (sts.length : Int) ∧ rd ids (i : Int) < (done.length : Int) then
   (if rdOf false done (rd ids (i : Int)) = true then iF14.l1 k N ids d (i + 1) done sts
   else (iF13.f k N (i : Int)).bind fun ks => if iF14.okk N ids ks = true ∧ ks.length ≤ 1000000 ∧ (rd_T72 sts (rd ids (i : Int))).f1.length ≤ 1000000 then iF14.l1 k N ids d (i + 1) (done.set (rd ids (i : Int)).toNat true) (sts.set (rd ids (i : Int)).toNat (iF14.add N ids ks (rd_T72 sts (rd ids (i : Int))))) else none)
   else none
def iF14.f (k : Nat) (l0_0 : List (S96)) : Option ((List (S72)) × List Int) := (iF12.f k l0_0).bind fun E => if E.length = l0_0.length ∧ l0_0.length ≤ 1000000 ∧ SM.okL E = true then
  (iF14.l1 k l0_0 (iF14.iB E l0_0.length) l0_0.length 0 (List.replicate (iF14.sB l0_0 E l0_0.length).length false) (iF14.sB l0_0 E l0_0.length)).bind fun sts => some (sts, iF14.iB E l0_0.length) else none
theorem iF14.l1_mono (k : Nat) (N : List S96) (ids : List Int) : ∀ d i done sts, LeO (iF14.l1 k N ids d i done sts) (iF14.l1 (k + 1) N ids d i done sts)
 | 0, _, _, _ => l3_ _
 | d + 1, i, done, sts => by
  rw [iF14.l1, iF14.l1]
  refine l2_ (l2_ (iF14.l1_mono k N ids d _ _ _) (l1_ (iF13.mono _ _ _) fun ks => l2_ (iF14.l1_mono k N ids d _ _ _) (l0_ _))) (l0_ _)
theorem iF14.mono : ∀ a0 k, LeO (iF14.f k a0) (iF14.f (k + 1) a0) := by
 intro a0 k
 exact l1_ (iF12.mono _ _) fun E => l2_ (l1_ (iF14.l1_mono _ _ _ _ _ _ _) fun _ => l3_ _) (l0_ _)
structure iF14.Inv (w W : World) (A0 : Option Addr) (n0 c0 bt b2 b4 gM : Nat) (v4 vE vI vM : Value) (E : List ByteArray) (ids : List Int) (sts : List S72) (ks : List ByteArray) : Prop where
 ht : W.heap[bt]? = some (.cells #[.slice A0 n0 c0] 28 (0, 0))
 h2 : W.heap[b2]? = some (.cells #[.slice none 0 0] 33 (0, 0))
 h4 : W.heap[b4]? = some (.cells #[v4] 33 (0, 0))
 hE : Kd.R Kd.string 9 W w.heap.size (fun _ => True) vE E
 hI : Kd.R (Kd.int .i64) 3 W w.heap.size (fun _ => True) vI ids
 hM : Kd.S k72 72 W w.heap.size (fun _ => True) vM sts
 hK : SM.Is W gM ks
 hB : Below w.heap.size w W
 n4 : bt ≠ b4 ∧ b2 ≠ b4
 lo : w.heap.size ≤ bt ∧ w.heap.size ≤ b2 ∧ w.heap.size ≤ b4 ∧ w.heap.size ≤ gM
section
variable {w W W1 : World} {A0 : Option Addr} {n0 c0 bt b2 b4 gM : Nat} {v4 vE vI vM u : Value} {E : List ByteArray} {ids : List Int} {sts : List S72} {ks : List ByteArray}
theorem iF14.Inv.alloc (h : iF14.Inv w W A0 n0 c0 bt b2 b4 gM v4 vE vI vM E ids sts ks) (o : Obj) : iF14.Inv w (W.alloc o) A0 n0 c0 bt b2 b4 gM v4 vE vI vM E ids sts ks :=
 ⟨b3_ h.ht o, b3_ h.h2 o, b3_ h.h4 o, k1_ h.hE o, k1_ h.hI o, Kd.S_alloc h.hM o, h.hK.alloc o, bA_ h.hB o, h.n4, h.lo⟩
theorem iF14.Inv.drew (h : iF14.Inv w W A0 n0 c0 bt b2 b4 gM v4 vE vI vM E ids sts ks) : iF14.Inv w W.drew A0 n0 c0 bt b2 b4 gM v4 vE vI vM E ids sts ks :=
 ⟨b1_ h.ht, b1_ h.h2, b1_ h.h4, k3_ h.hE, k3_ h.hI, Kd.S_drew h.hM, h.hK.drew, bD_ h.hB, h.n4, h.lo⟩
theorem iF14.Inv.set4 (h : iF14.Inv w W A0 n0 c0 bt b2 b4 gM v4 vE vI vM E ids sts ks) (u : Value) : iF14.Inv w (W.setCell ⟨b4, 0, none⟩ u) A0 n0 c0 bt b2 b4 gM u vE vI vM E ids sts ks :=
 ⟨bR_ h.ht h.n4.1 u, bR_ h.h2 h.n4.2 u, by refine bP_ (cs := #[v4]) h.h4 0 u rfl, Kd.R_set h.hE h.h4 (by decide) 0 u, Kd.R_set h.hI h.h4 (by decide) 0 u, Kd.S_set h.hM h.h4 (by decide) 0 u, h.hK.far (h.hK.ne_block h.h4) u, bS_ h.hB h.lo.2.2.1, h.n4, h.lo⟩
theorem iF14.Inv.put {ks1 : List ByteArray} (h : iF14.Inv w W A0 n0 c0 bt b2 b4 gM v4 vE vI vM E ids sts ks) (hk : SM.Is W1 gM ks1) (hg : W.grownBy W1 (some gM)) : iF14.Inv w W1 A0 n0 c0 bt b2 b4 gM v4 vE vI vM E ids sts ks1 := by
 have e1 := h.hK.ne_block h.ht
 have e2 := h.hK.ne_block h.h2
 have e4 := h.hK.ne_block h.h4
 obtain ⟨f, hf⟩ := h.hM
 exact ⟨blk_grown h.ht hg (by simpa using e1.symm), blk_grown h.h2 hg (by simpa using e2.symm), blk_grown h.h4 hg (by simpa using e4.symm), SM.R_over h.hE h.hK hg, SM.R_over h.hI h.hK hg, ⟨f, SM.R_over hf h.hK hg⟩, hk, pw_below_grown h.hB _ h.hB.size hg (fun k hk => by cases hk; exact h.lo.2.2.2), h.n4, h.lo⟩
theorem iF14.Inv.withSts {sts1 : List S72} {vM1 : Value} (h : iF14.Inv w W A0 n0 c0 bt b2 b4 gM v4 vE vI vM E ids sts ks) (hM1 : Kd.S k72 72 W1 w.heap.size (fun _ => True) vM1 sts1) (hb : Below w.heap.size w W1) (hg : W.grownBy W1 vM.ownBlock) : iF14.Inv w W1 A0 n0 c0 bt b2 b4 gM v4 vE vI vM1 E ids sts1 ks := by
 have hR := Kd.S_R h.hM
 exact ⟨blk_grown h.ht hg (k6_ hR h.ht (by decide)), blk_grown h.h2 hg (k6_ hR h.h2 (by decide)), blk_grown h.h4 hg (k6_ hR h.h4 (by decide)), Kd.R_over' h.hE (Kd.R_typed hR) (by decide) hg, Kd.R_over' h.hI (Kd.R_typed hR) (by decide) hg, hM1, h.hK.grown hg (h.hK.ne hR), hb, h.n4, h.lo⟩
theorem iF14.Inv.withIds {ids1 : List Int} {vI1 : Value} (h : iF14.Inv w W A0 n0 c0 bt b2 b4 gM v4 vE vI vM E ids sts ks) (hI1 : Kd.R (Kd.int .i64) 3 W1 w.heap.size (fun _ => True) vI1 ids1) (hb : Below w.heap.size w W1) (hg : W.grownBy W1 vI.ownBlock) : iF14.Inv w W1 A0 n0 c0 bt b2 b4 gM v4 vE vI1 vM E ids1 sts ks :=
 ⟨blk_grown h.ht hg (k6_ h.hI h.ht (by decide)), blk_grown h.h2 hg (k6_ h.hI h.h2 (by decide)), blk_grown h.h4 hg (k6_ h.hI h.h4 (by decide)), Kd.R_over' h.hE (Kd.R_typed h.hI) (by decide) hg, hI1, Kd.S_over' h.hM (Kd.R_typed h.hI) (by decide) hg, h.hK.grown hg (h.hK.ne h.hI), hb, h.n4, h.lo⟩
end
def iF14.T8 : Bool × List (List Nat × List Nat) := (true, [([], []), ([0], [0]), ([], []), ([2], [2]), ([], []), ([3, 4], [3, 4]), ([5], [5]), ([6], [6]), ([7], [7]), ([8], [8]), ([1, 9], [1, 9]), ([0, 1, 2, 3, 4, 5, 6, 7, 8, 9, 10], []), ([11, 10, 10, 0, 1, 2, 3, 4, 5, 6, 7, 8, 9, 10], [10, 11])])
def iF14.B8 : List Nat := [0, 1, 0, 4, 0, 28, 60, 124, 252, 508, 1023, 2047, 4095]
theorem iF14.tab8 : rtab .any (opsOf Tryz.f68 8) = iF14.T8 := by kernel_rfl
theorem iF14.bits8 : waitsOk iF14.T8.2 iF14.B8 = true := by kernel_rfl
theorem iF14.okk_at {N : List S96} {ids ks : List Int} (h : iF14.okk N ids ks = true) {j : Nat} (hj : j < ks.length) : ∃ kn : Nat, rd ks (j : Int) = (kn : Int) ∧ (kn : Int) < (N.length : Int) ∧ (kn : Int) < (ids.length : Int) := by
 have h9 := List.all_eq_true.1 h _ (List.getElem_mem hj)
 rw [decide_eq_true_eq] at h9
 have e9 : rd ks (j : Int) = ks[j] := by
  unfold rd
  rw [Int.toNat_natCast, List.getD_eq_getElem?_getD, List.getElem?_eq_getElem hj]
  rfl
 exact ⟨(ks[j]).toNat, by omega, by omega, by omega⟩
theorem iF14.infob : (Tryz.prog.info? 4).map (fun i => (i.zero, i.size, i.bytes)) = some (some (.bool false), 1, 1) := by kernel_rfl
theorem iF14.edge {base : Nat} {W : World} {gM m cM : Nat} {sts : List S72} (hM : Kd.S k72 72 W base (fun _ => True) (.slice (some ⟨gM, 0, none⟩) m cM) sts) (sn : Nat) (hs : sn < m) :
  ∃ (u : Value) (oki : Nat → Prop), W.cell? ⟨gM, sn * 2 + 1, none⟩ = some u ∧ W.frozen? ⟨gM, sn * 2 + 1, none⟩ = false ∧ Kd.R k88 88 W base (fun k => oki k ∨ W.heap.size ≤ k) u (rd_T72 sts (sn : Int)).f1 ∧
   ∀ (w3 : World) (u3 : Value) (y : List S88), Kd.R k88 88 w3 base (fun k => oki k ∨ W.heap.size ≤ k) u3 y → W.grownBy w3 u.ownBlock →
    Kd.S k72 72 (w3.setCell ⟨gM, sn * 2 + 1, none⟩ u3) base (fun _ => True) (.slice (some ⟨gM, 0, none⟩) m cM) (sts.set sn ⟨(rd_T72 sts (sn : Int)).f0, y⟩) ∧ w3.grownBy (w3.setCell ⟨gM, sn * 2 + 1, none⟩ u3) (some gM) ∧ w3.cell? ⟨gM, sn * 2 + 1, none⟩ = some u ∧ w3.frozen? ⟨gM, sn * 2 + 1, none⟩ = false := by
 obtain ⟨oki, ce, hcl, hMe, hcc, hfr, hoki, hH⟩ := Kd.S_elem hM z72 (sn : Int) (by omega) (by omega)
 obtain ⟨u, rfl, hR⟩ := k72_openM hMe
 have h1 := hcc 1 _ rfl
 have f1 := hfr 1
 rw [show (k72).sz = 2 from rfl, Int.toNat_natCast] at h1 f1
 refine ⟨u, oki, h1, f1, kM_ hR (fun _ hk => .inl hk), fun w3 u3 y hR3 hg => ?_⟩
 have hH3 := Kd.H_grown (Kd.H_widen hH) hg (fun k hk => .inl (hR.1 k hk))
 obtain ⟨hc3, hf3⟩ := Kd.H_at hH3 (by omega) (by omega)
 have h3 := hc3 1 _ rfl
 have g3 := hf3 1
 rw [show (k72).sz = 2 from rfl, Int.toNat_natCast] at h3 g3
 have hs0 := Kd.S_seg0 hH3 (by omega) (by omega) (seg := [u3]) (j := 1) (show 2 ≤ 2 from by decide) (x' := (⟨(rd_T72 sts (sn : Int)).f0, y⟩ : S72)) (okp := fun k => oki k ∨ True ∧ W.heap.size ≤ k) (k72_mkM _ _ _ (⟨(rd_T72 sts (sn : Int)).f0, y⟩ : S72) (kM_ hR3 (fun k hk => hk.imp_right fun h => ⟨trivial, h⟩))) (fun _ hk => hk)
 rw [show (k72).sz = 2 from rfl, Int.toNat_natCast] at hs0
 exact ⟨hs0.1, hs0.2, h3, g3⟩
structure iF14.Inv2 (w W : World) (A0 : Option Addr) (n0 c0 bt b2 b4 : Nat) (vM vI vD : Value) (ids : List Int) (sts : List S72) (done : List Bool) : Prop where
 ht : W.heap[bt]? = some (.cells #[.slice A0 n0 c0] 28 (0, 0))
 h2 : W.heap[b2]? = some (.cells #[.slice none 0 0] 33 (0, 0))
 h4 : W.heap[b4]? = some (.cells #[vM] 33 (0, 0))
 hI : Kd.R (Kd.int .i64) 3 W w.heap.size (fun _ => True) vI ids
 hM : Kd.S k72 72 W w.heap.size (fun _ => True) vM sts
 hD : Kd.R Kd.bool 4 W w.heap.size (fun _ => True) vD done
 hB : Below w.heap.size w W
 lo : w.heap.size ≤ bt ∧ w.heap.size ≤ b2 ∧ w.heap.size ≤ b4 ∧ b2 ≠ b4
section
variable {w W W1 W3 : World} {A0 : Option Addr} {n0 c0 bt b2 b4 gM m cM : Nat} {vM vI vD u u3 : Value} {ids : List Int} {sts : List S72} {done : List Bool}
theorem iF14.Inv2.below (h : iF14.Inv2 w W A0 n0 c0 bt b2 b4 vM vI vD ids sts done) (hb : Below W.heap.size W W1) : iF14.Inv2 w W1 A0 n0 c0 bt b2 b4 vM vI vD ids sts done :=
 ⟨bB_ h.ht hb, bB_ h.h2 hb, bB_ h.h4 hb, kB_ h.hI hb, Kd.S_below h.hM hb, kB_ h.hD hb, h.hB.trans (hb.mono h.hB.size), h.lo⟩
theorem iF14.Inv2.alloc (h : iF14.Inv2 w W A0 n0 c0 bt b2 b4 vM vI vD ids sts done) (o : Obj) : iF14.Inv2 w (W.alloc o) A0 n0 c0 bt b2 b4 vM vI vD ids sts done := h.below (bA_ (Below.refl _ _) o)
theorem iF14.Inv2.drew (h : iF14.Inv2 w W A0 n0 c0 bt b2 b4 vM vI vD ids sts done) : iF14.Inv2 w W.drew A0 n0 c0 bt b2 b4 vM vI vD ids sts done := h.below (bD_ (Below.refl _ _))
theorem iF14.Inv2.withDone {done1 : List Bool} (h : iF14.Inv2 w W A0 n0 c0 bt b2 b4 vM vI vD ids sts done) (hD1 : Kd.R Kd.bool 4 W1 w.heap.size (fun _ => True) vD done1) (hg : W.grownBy W1 vD.ownBlock) : iF14.Inv2 w W1 A0 n0 c0 bt b2 b4 vM vI vD ids sts done1 :=
 ⟨blk_grown h.ht hg (k6_ h.hD h.ht (by decide)), blk_grown h.h2 hg (k6_ h.hD h.h2 (by decide)), blk_grown h.h4 hg (k6_ h.hD h.h4 (by decide)), Kd.R_over' h.hI (Kd.R_typed h.hD) (by decide) hg, Kd.S_over' h.hM (Kd.R_typed h.hD) (by decide) hg, hD1, pw_below_grown h.hB _ h.hB.size hg (fun k hk => Kd.R_base h.hD k hk), h.lo⟩
theorem iF14.Inv2.withEdge {x : List S88} {sts1 : List S72} {ok : Nat → Prop} {o : Nat} (h : iF14.Inv2 w W A0 n0 c0 bt b2 b4 (.slice (some ⟨gM, 0, none⟩) m cM) vI vD ids sts done) (hu : Kd.R k88 88 W w.heap.size ok u x) (hb : Below w.heap.size w W3) (hg : W.grownBy W3 u.ownBlock)
  (hM1 : Kd.S k72 72 (W3.setCell ⟨gM, o, none⟩ u3) w.heap.size (fun _ => True) (.slice (some ⟨gM, 0, none⟩) m cM) sts1) (hg1 : W3.grownBy (W3.setCell ⟨gM, o, none⟩ u3) (some gM)) : iF14.Inv2 w (W3.setCell ⟨gM, o, none⟩ u3) A0 n0 c0 bt b2 b4 (.slice (some ⟨gM, 0, none⟩) m cM) vI vD ids sts1 done ∧ ∀ (v : Value) (l : List Int), Kd.R (Kd.int .i64) 3 W w.heap.size (fun _ => True) v l → Kd.R (Kd.int .i64) 3 (W3.setCell ⟨gM, o, none⟩ u3) w.heap.size (fun _ => True) v l := by
 have hMR := Kd.S_R h.hM
 have hty : ∀ k, (Value.slice (some (⟨gM, 0, none⟩ : Addr)) m cM).ownBlock = some k → ∃ cells, W3.heap[k]? = some (.cells cells 72 (0, 0)) := fun k hk => by
  obtain ⟨cells, hc⟩ := Kd.R_typed hMR k hk
  exact ⟨cells, blk_grown hc hg (fun he => by
   obtain ⟨c2, hc2⟩ := Kd.R_typed hu k he.symm
   rw [hc] at hc2
   injection hc2 with hc2
   injection hc2 with _ hc2
   exact absurd hc2 (by decide))⟩
 have hgM : (Value.slice (some (⟨gM, 0, none⟩ : Addr)) m cM).ownBlock = some gM := by simp [Value.ownBlock]
 have hg2 : W3.grownBy (W3.setCell ⟨gM, o, none⟩ u3) (Value.slice (some (⟨gM, 0, none⟩ : Addr)) m cM).ownBlock := by rw [hgM]; exact hg1
 have hgb : w.heap.size ≤ gM := Kd.R_base hMR gM hgM
 obtain ⟨cG, hcG⟩ := hty gM hgM
 have fars : ∀ {k : Nat} {cs : Array Value} {t : TypeId}, W3.heap[k]? = some (.cells cs t (0, 0)) → t ≠ 72 → k ≠ gM := fun {k cs t} hk ht e => by
  subst e
  rw [hk] at hcG
  injection hcG with hcG
  injection hcG with _ hcG
  exact ht hcG
 have t3 := blk_grown h.ht hg (k6_ hu h.ht (by decide))
 have h23 := blk_grown h.h2 hg (k6_ hu h.h2 (by decide))
 have h43 := blk_grown h.h4 hg (k6_ hu h.h4 (by decide))
 exact ⟨⟨bR_ t3 (fars t3 (by decide)) _, bR_ h23 (fars h23 (by decide)) _, bR_ h43 (fars h43 (by decide)) _, Kd.R_over' (Kd.R_over' h.hI (Kd.R_typed hu) (by decide) hg) hty (by decide) hg2, hM1, Kd.R_over' (Kd.R_over' h.hD (Kd.R_typed hu) (by decide) hg) hty (by decide) hg2, bS_ hb hgb, h.lo⟩, fun v l hl => Kd.R_over' (Kd.R_over' hl (Kd.R_typed hu) (by decide) hg) hty (by decide) hg2⟩
end
def iF14.T20 : Bool × List (List Nat × List Nat) := (true, [([], []), ([0], [0]), ([], []), ([], []), ([3], [3]), ([], []), ([4, 5], [4, 5]), ([6], [6]), ([7], [7]), ([], []), ([9], [9]), ([], []), ([10, 11], [10, 11]), ([12], [12]), ([13], [13]), ([], []), ([], []), ([15, 16], [15, 16]), ([17], [17]), ([14, 18], [14, 18]), ([19], [19]), ([8, 20], [8, 20]), ([1, 2, 0, 1, 2, 3, 4, 5, 6, 7, 8, 9, 10, 11, 12, 13, 14, 15, 16, 17, 18, 19, 20, 21], [1, 2]), ([22, 0, 1, 2, 3, 4, 5, 6, 7, 8, 9, 10, 11, 12, 13, 14, 15, 16, 17, 18, 19, 20, 21], [22]), ([23, 21, 21, 0, 1, 2, 3, 4, 5, 6, 7, 8, 9, 10, 11, 12, 13, 14, 15, 16, 17, 18, 19, 20, 21], [21, 23])])
def iF14.B20 : List Nat := [0, 1, 0, 0, 8, 0, 56, 120, 248, 0, 512, 0, 3584, 7680, 15872, 0, 0, 98304, 229376, 523776, 1048064, 2097144, 4194303, 8388607, 16777215]
theorem iF14.tab20 : rtab .any (opsOf Tryz.f68 20) = iF14.T20 := by kernel_rfl
theorem iF14.bits20 : waitsOk iF14.T20.2 iF14.B20 = true := by kernel_rfl
theorem iF14.calls (k : Nat) (A0_0 : Option Addr) (c0_0 : Nat) (l0_0 : List (S96)) (r1 : List (S72)) (r2 : List Int) (w : World) (hr0_0 : Kd.C k96 w A0_0 l0_0.length l0_0) (hc0_0 : l0_0.length ≤ c0_0) (h : iF14.f k l0_0 = some (r1, r2)) :
  Calls Tryz.prog 68 #[.agg #[.slice A0_0 l0_0.length c0_0]] w fun e w' => ∃ v0_ v1_ : Value, e = .returned (.tuple #[.agg #[v0_], v1_]) ∧ Kd.S k72 72 w' w.heap.size (fun _ => True) v0_ r1 ∧ Kd.R (Kd.int .i64) 3 w' w.heap.size (fun _ => True) v1_ r2 ∧ Below w.heap.size w w' := by
 unfold iF14.f at h
 cases hE : iF12.f k l0_0 with
 | none => rw [hE] at h; cases h
 | some E =>
 rw [hE, Option.bind_some] at h
 by_cases hc : E.length = l0_0.length ∧ l0_0.length ≤ 1000000 ∧ SM.okL E = true
 rotate_left
 ·
  rw [if_neg hc] at h; cases h
 rw [if_pos hc] at h
 have HL := aM_ h
 have HC := aM_ hc
 have HR0 := aM_ hr0_0
 have HC0 := aM_ hc0_0
 obtain ⟨V, hV⟩ : ∃ V, V = ((w.alloc (.cells #[.slice A0_0 l0_0.length c0_0] 28)).alloc (.cells #[.slice none 0 0] 33)) := ⟨_, rfl⟩
 have HV := aM_ (show Below w.heap.size w V from by rw [hV]; exact bA_ (bA_ (Below.refl _ _) _) _)
 have HVS := aM_ (show V.heap.size = w.heap.size + 2 from by rw [hV]; simp)
 have HT := aM_ (show V.heap[w.heap.size]? = some (.cells #[.slice A0_0 l0_0.length c0_0] 28 (0, 0)) from by rw [hV]; exact b3_ (blk_new w _) _)
 have H2 := aM_ (show V.heap[w.heap.size + 1]? = some (.cells #[.slice none 0 0] 33 (0, 0)) from by rw [hV]; have := blk_new (w.alloc (.cells #[.slice A0_0 l0_0.length c0_0] 28)) (.cells #[.slice none 0 0] 33); simpa using this)
 have HX := aM_ (iF12.calls k A0_0 c0_0 l0_0 E V (k4_ hr0_0 HV.out) hc0_0 hE)
 have hct : V.cell? ⟨w.heap.size, 0, none⟩ = some (.slice A0_0 l0_0.length c0_0) := (bC_ HT.out 0).trans rfl
 have hmm := @run_makeMap Tryz.prog
 clear h hc hr0_0 hc0_0 hE
 go_enter Tryz.func68, Tryz.ntmps68
 go_wp2_with fail
 rw [← hV]
 clear hV
 refine HX.out.mono ?_
 clear HX
 rintro e w1 ⟨vE, rfl, hrE, hb1⟩
 have HE := aM_ hrE
 have HB1 := aM_ hb1
 have hbt1 := bB_ HT.out hb1
 have hb21 := bB_ H2.out hb1
 have hlt1 : w.heap.size + 2 ≤ w1.heap.size := by have := hb1.size; have := HVS.out; omega
 obtain ⟨W0, hW0⟩ : ∃ W0, W0 = ((w1.alloc (.cells #[] 3)).alloc (.map #[] 0)).alloc (.cells #[.slice none 0 0] 33) := ⟨_, rfl⟩
 have HI0 := aM_ (show iF14.Inv w W0 A0_0 l0_0.length c0_0 w.heap.size (w.heap.size + 1) (w1.heap.size + 1 + 1) (w1.heap.size + 1) (.slice none 0 0) vE (.slice (some ⟨w1.heap.size, 0, none⟩) 0 0) (.slice none 0 0) E (iF14.iB E 0) (iF14.sB l0_0 E 0) (iF14.fB E 0) from by
  rw [hW0]
  have hne := blk_new ((w1.alloc (.cells #[] 3)).alloc (.map #[] 0)) (.cells #[.slice none 0 0] 33)
  refine ⟨b3_ (b3_ (b3_ hbt1 _) _) _, b3_ (b3_ (b3_ hb21 _) _) _, by simpa using hne, k1_ (k1_ (k1_ (k5_ hrE HV.out.size) _) _) _, ?_, Kd.S_nil _ _ _ _ _, ?_, bA_ (bA_ (bA_ (HV.out.trans (hb1.mono HV.out.size)) _) _) _, ⟨by omega, by omega⟩, ⟨Nat.le_refl _, by omega, by omega, by omega⟩⟩
  ·
   have h0 := own_lit w1 w.heap.size 3 .i64 [] (by omega) (by simp)
   exact k1_ (k1_ (Kd.R_of_own (enc := Value.int .i64) h0 (fun _ _ => trivial)) _) _
  have h0 := SM.Is.made (w1.alloc (.cells #[] 3))
  exact SM.Is.alloc (show SM.Is _ _ [] from by simpa using h0) _)
 have hcz : (((w1.alloc (.cells #[] 3)).alloc (.map #[] 0)).alloc (.cells #[.slice none 0 0] 33)).cell? ⟨w.heap.size, 0, none⟩ = some (.slice A0_0 l0_0.length c0_0) := by rw [← hW0]; exact (bC_ HI0.out.ht 0).trans rfl
 clear hrE hb1 hbt1 hb21 hct
 go_wp2_with fail
 rw [← hW0]
 clear hW0 hcz hmm
 generalize w1.heap.size + 1 + 1 = b4 at HI0 ⊢
 generalize w1.heap.size + 1 = gM at HI0 ⊢
 go_loopg [6, 24] l0_0.length (fun gg v6 v24 w' => ∃ (i : Nat) (vM : Value), i ≤ l0_0.length ∧ l0_0.length - i ≤ gg ∧ v24 = .int .i64 (i : Int) ∧ Aside0 (iF14.Inv w w' A0_0 l0_0.length c0_0 w.heap.size (w.heap.size + 1) b4 gM vM vE v6 vM E (iF14.iB E i) (iF14.sB l0_0 E i) (iF14.fB E i)))
 case atStart => exact ⟨0, .slice none 0 0, Nat.zero_le _, by omega, rfl, HI0⟩
 clear HI0
 obtain ⟨i, vM, hi, hg, rfl, HI⟩ := hrel
 by_cases hlt : i < l0_0.length
 ·
  have hltz : (i : Int) < (l0_0.length : Int) := by omega
  have hn6 : l0_0.length ≤ 1000000 := HC.out.2.1
  obtain ⟨gE, cE, eE, gEb, gEl, gEc, gEh⟩ := Kd.R_form HI.out.hE (by rw [HC.out.1]; omega)
  subst eE
  clear gEb gEl gEh
  have hltE : i < E.length := by rw [HC.out.1]; exact hlt
  have hcell := kC_ eB_ HI.out.hE (i : Int) (by omega) (by omega)
  rw [Int.toNat_natCast] at hcell
  obtain ⟨hx0, hf0⟩ := hcell
  obtain ⟨x, hx⟩ : ∃ x, rdOf eB_ E (i : Int) = x := ⟨_, rfl⟩
  have HX := aM_ hx
  rw [hx] at hx0
  have hxs : x.size ≤ maxLen := by
   have := SM.okL.size HC.out.2.2 (i : Int) (by omega) (by rw [HC.out.1]; exact hltz)
   rw [hx] at this
   unfold maxLen
   omega
  have HXS := aM_ hxs
  have xc : wr.cell? ⟨gE, i, none⟩ = some (.string x) := hx0
  have HL6 := aM_ (iF14.fB_length l0_0 E i)
  have HG6 := aM_ (iF14.iB_length E i)
  clear hx0 hf0 hx hxs
  have hlk := SM.get2 HI.out.hK 112 Tryz.underlying112 x HXS.out
  cases hh : SM.has_ (iF14.fB E i) x with
  | true =>
   have HH := aM_ hh
   rw [hh] at hlk
   clear hh
   have hlk2 := SM.get HI.out.hK 112 Tryz.underlying112 x HXS.out
   go_wp2_with (first | ((with_reducible refine gate_builtin (b := .append) (xs := #[.tmp 58, .tmp 65]) rfl ?_); at_builtin; refine Kd.R_append (Kd.int .i64) (W := wr) (w0 := w) w.heap.size rfl (.tmp 58) (.tmp 65) 56 3 (.int .i64 0) 8 rfl Tryz.underlying56 info3 rfl (by decide) (by omega) u6 (iF14.iB E i) (SM.at_ (iF14.fB E i) x) [.int .i64 (SM.at_ (iF14.fB E i) x)] (fun _ => True) (fun _ => False) rfl rfl ?aP (fun _ hk => hk.elim) (fun _ _ => trivial) ?aO ?aB ?aS ?aL ?_; (case aP => exact rfl); (case aO => exact HI.out.hI); (case aB => exact HI.out.hB); (case aS => exact HI.out.hB.size); (case aL => rw [HG6.out]; omega); intro v1 w10 ho hb hg1 hat; have HI2 := aM_ (HI.out.withIds ho hb hg1); clear ho hb hg1 hat hlk hlk2 xc))
   go_roundg (l0_0.length - (i + 1))
   case measure => omega
   refine ⟨i + 1, vM, by omega, by omega, by go_num, ?_⟩
   have e1 : iF14.fB E (i + 1) = iF14.fB E i := by rw [iF14.fB, HX.out, if_pos HH.out]
   have e2 : iF14.sB l0_0 E (i + 1) = iF14.sB l0_0 E i := by rw [iF14.sB, HX.out, if_pos HH.out]
   have e3 : iF14.iB E (i + 1) = iF14.iB E i ++ [SM.at_ (iF14.fB E i) x] := by rw [iF14.iB, e1, HX.out]
   rw [e1, e2, e3]
   exact HI2
  | false =>
   have HH := aM_ hh
   rw [hh] at hlk
   clear hh
   have h4c : wr.cell? ⟨b4, 0, none⟩ = some vM := (bC_ HI.out.h4 0).trans rfl
   obtain ⟨AM, cM, eM⟩ := Kd.S_slice HI.out.hM
   subst eM
   go_wp2_with fail
   go_still_tail 8, (by kernel_rfl)
   refine SM.put (w := wr.drew) rfl (.tmp 38) (.tmp 42) (.tmp 45) 112 Tryz.underlying112 rfl gM (iF14.fB E i) rfl HI.out.hK.drew (by have := HL6.out.2; omega) x HXS.out rfl (by rw [HL6.out.1]; rfl) ?_
   intro w2 his hg2
   have HI2 := aM_ (HI.out.drew.put his hg2)
   clear his hg2 HI h4c xc hlk
   obtain ⟨ad, ead, hd0, hd1, hd2⟩ := at_T96 HR0.out (i : Int) (by omega) hltz
   subst ead
   rw [Int.toNat_natCast] at hd2
   have hbn := HI2.out.hB
   have hd2b := (hbn.cell (wB_ w _ hd2)).trans hd2
   have hd2w : w2.cell? ⟨(ad.add (i * 3)).block, (ad.add (i * 3)).off + 2, none⟩ = some (.bool (rd_T96 l0_0 (i : Int)).f2) := hd2b
   have HD2 := aM_ (And.intro (wB_ w _ hd2) hd2)
   have h4c : w2.cell? ⟨b4, 0, none⟩ = some (.slice AM (iF14.sB l0_0 E i).length cM) := (bC_ HI2.out.h4 0).trans rfl
   have htc : w2.cell? ⟨w.heap.size, 0, none⟩ = some (.slice (some ad) l0_0.length c0_0) := (bC_ HI2.out.ht 0).trans rfl
   clear hd0 hd1 hd2 hd2b hbn
   go_wp2_with fail
   refine start_ (n := 13) (S := fun w' => w'.cell? ⟨w.heap.size, 0, none⟩ = some (.slice (some ad) l0_0.length c0_0) ∧ w'.cell? ⟨b4, 0, none⟩ = some (.slice AM (iF14.sB l0_0 E i).length cM) ∧ w'.cell? ⟨(ad.add (i * 3)).block, (ad.add (i * 3)).off + 2, none⟩ = some (.bool (rd_T96 l0_0 (i : Int)).f2)) (ds := [10, 12]) #[fy, fy, fy, fy, fy, fy, fy, fy, fy, fy, fy, fy, fy] (by kernel_rfl) rfl rfl ⟨htc, h4c, hd2w⟩ (fun hHeld => ?_)
   refine with_tabW iF14.tab8 iF14.bits8 (fun HT_ HW_ => ?_)
   refine pu_ HT_ 0 46 #[ty, fy, fy, fy, fy, fy, fy, fy, fy, fy, fy, fy, fy] ?_
   refine pu_ HT_ 2 48 #[ty, fy, ty, fy, fy, fy, fy, fy, fy, fy, fy, fy, fy] ?_
   refine pu_ HT_ 4 50 #[ty, fy, ty, fy, ty, fy, fy, fy, fy, fy, fy, fy, fy] ?_
   refine tk_ HT_ HW_ 1 47 #[ty, ty, ty, fy, ty, fy, fy, fy, fy, fy, fy, fy, fy] hHeld ?_ (hr := by rintro w' ⟨s0, s1, s2⟩; go_simp; with_reducible rfl)
   refine tk_ HT_ HW_ 3 49 #[ty, ty, ty, ty, ty, fy, fy, fy, fy, fy, fy, fy, fy] hHeld ?_ (hr := by rintro w' ⟨s0, s1, s2⟩; go_simp; with_reducible rfl)
   refine pu_ HT_ 5 51 #[ty, ty, ty, ty, ty, ty, fy, fy, fy, fy, fy, fy, fy] ?_
   refine pu_ HT_ 6 52 #[ty, ty, ty, ty, ty, ty, ty, fy, fy, fy, fy, fy, fy] ?_
   refine tk_ HT_ HW_ 7 53 #[ty, ty, ty, ty, ty, ty, ty, ty, fy, fy, fy, fy, fy] hHeld ?_ (hr := by rintro w' ⟨s0, s1, s2⟩; go_simp; with_reducible rfl)
   refine pu_ HT_ 8 54 #[ty, ty, ty, ty, ty, ty, ty, ty, ty, fy, fy, fy, fy] ?_
   refine one_ (i := 9) (N := some 55) #[ty, ty, ty, ty, ty, ty, ty, ty, ty, ty, fy, fy, fy] rfl rfl (one_of HT_.out (by kernel_rfl)) (by decide) (fun K hK => ?_)
   refine value_ (w1 := ?_) (v := ?_) (by rfl) rfl ?_ ?_
   rotate_left 2
   ·
    go_simp
    constructor
    ·
     rfl
    rfl
   refine hK.out _ _ ⟨(World.cell?_alloc_lt _ _ _ (wB_ _ _ hHeld.1)).trans hHeld.1, (World.cell?_alloc_lt _ _ _ (wB_ _ _ hHeld.2.1)).trans hHeld.2.1, (World.cell?_alloc_lt _ _ _ (wB_ _ _ hHeld.2.2)).trans hHeld.2.2⟩ (fun hHeld => ?_)
   clear hK K
   refine norm_ (by show Act.put _ (some 55) _ = _; simp only [Act.put, sA_, sB_, sC_, i6_, i3_]; rfl) ?_
   refine last_ (i := 10) (N := some 56) #[ty, ty, ty, ty, ty, ty, ty, ty, ty, ty, ty, fy, fy] rfl rfl (one_of HT_.out (by kernel_rfl)) (by decide) (fun K hK => ?_)
   refine Kd.S_append_step k72 (W := w2.drew) (w0 := w) w.heap.size (by rfl) (.tmp 47) (.tmp 55) 31 72 (.agg #[(.bool false), (.slice none 0 0)]) 32 rfl Tryz.underlying31 info72 rfl (by decide) (by omega) (.slice AM (iF14.sB l0_0 E i).length cM) (iF14.sB l0_0 E i) (⟨(rd_T96 l0_0 (i : Int)).f2, []⟩ : S72) [.bool (rd_T96 l0_0 (i : Int)).f2, .slice none 0 0] (fun _ => True) (fun _ => False) rfl rfl ?aP (fun _ hk => hk.elim) (fun _ _ => trivial) ?aO ?aB ?aS ?aL ?_
   (case aP => exact k72_mkM _ _ _ (⟨(rd_T96 l0_0 (i : Int)).f2, []⟩ : S72) (Kd.R_nil _ _ _ _ _))
   (case aO => exact Kd.S_mono (Kd.S_drew HI2.out.hM) (fun _ h => ⟨h, fun z => z⟩))
   (case aB => exact bD_ HI2.out.hB)
   (case aS => exact HI2.out.hB.size)
   (case aL => have := HL6.out; omega)
   intro v3 w3 ho hb hg3 hat
   obtain ⟨A3, c3, e3⟩ := Kd.S_slice ho
   subst e3
   rw [List.length_append, List.length_singleton] at ho
   have HI3 := aM_ (HI2.out.drew.withSts ho hb hg3)
   clear ho hb hg3 hat HI2 htc h4c hd2w
   refine hK.out _ _ ?_
   clear hK K
   refine norm_ (by show Act.put _ (some 56) _ = _; simp only [Act.put, sA_, sB_, sC_, i6_, i3_]; rfl) ?_
   refine pu_ HT_ 11 57 #[ty, ty, ty, ty, ty, ty, ty, ty, ty, ty, ty, ty, fy] ?_
   refine last_ (i := 12) (N := none) #[ty, ty, ty, ty, ty, ty, ty, ty, ty, ty, ty, ty, ty] rfl rfl (one_of HT_.out (by kernel_rfl)) (by decide) (fun K hK => ?_)
   have h4d : w3.cell? ⟨b4, 0, none⟩ = some (.slice AM (iF14.sB l0_0 E i).length cM) := (bC_ HI3.out.h4 0).trans rfl
   have h4f := bF_ HI3.out.h4 0
   refine skip_ (w1 := ?_) (by rfl) rfl ?_ ?_
   rotate_left
   ·
    go_simp
    rfl
   refine hK.out _ _ ?_
   clear hK K
   refine done_ (done_of HT_.out (by kernel_rfl)) ?_
   have HI4 := aM_ (HI3.out.set4 (.slice A3 ((iF14.sB l0_0 E i).length + 1) c3))
   obtain ⟨w4, hw4⟩ : ∃ w4, w3.setCell ⟨b4, 0, none⟩ (.slice A3 ((iF14.sB l0_0 E i).length + 1) c3) = w4 := ⟨_, rfl⟩
   rw [hw4] at HI4 ⊢
   clear HI3 hw4
   have e1 : iF14.fB E (i + 1) = iF14.fB E i ++ [x] := by rw [iF14.fB, HX.out, if_neg (by rw [HH.out]; exact Bool.false_ne_true)]
   have e2 : iF14.sB l0_0 E (i + 1) = iF14.sB l0_0 E i ++ [⟨(rd_T96 l0_0 (i : Int)).f2, []⟩] := by rw [iF14.sB, HX.out, if_neg (by rw [HH.out]; exact Bool.false_ne_true)]
   rw [← e1, ← e2] at HI4
   have HEE := aM_ (And.intro e1 e2)
   clear e1 e2
   have hcell := kC_ eB_ HI4.out.hE (i : Int) (by omega) (by omega)
   rw [Int.toNat_natCast, HX.out] at hcell
   have xc : w4.cell? ⟨gE, i, none⟩ = some (.string x) := hcell.1
   have hlk2 := SM.get HI4.out.hK 112 Tryz.underlying112 x HXS.out
   clear hcell
   go_wp2_with (first | ((with_reducible refine gate_builtin (b := .append) (xs := #[.tmp 58, .tmp 65]) rfl ?_); at_builtin; refine Kd.R_append (Kd.int .i64) (W := w4) (w0 := w) w.heap.size rfl (.tmp 58) (.tmp 65) 56 3 (.int .i64 0) 8 rfl Tryz.underlying56 info3 rfl (by decide) (by omega) u6 (iF14.iB E i) (SM.at_ (iF14.fB E (i + 1)) x) [.int .i64 (SM.at_ (iF14.fB E (i + 1)) x)] (fun _ => True) (fun _ => False) rfl rfl ?aP (fun _ hk => hk.elim) (fun _ _ => trivial) ?aO ?aB ?aS ?aL ?_; (case aP => exact rfl); (case aO => exact HI4.out.hI); (case aB => exact HI4.out.hB); (case aS => exact HI4.out.hB.size); (case aL => rw [HG6.out]; omega); intro v1 w10 ho hb hg1 hat; have HI5 := aM_ (HI4.out.withIds ho hb hg1); clear ho hb hg1 hat hlk2 xc))
   go_roundg (l0_0.length - (i + 1))
   case measure => omega
   refine ⟨i + 1, .slice A3 ((iF14.sB l0_0 E i).length + 1) c3, by omega, by omega, by go_num, ?_⟩
   have e3 : iF14.iB E (i + 1) = iF14.iB E i ++ [SM.at_ (iF14.fB E (i + 1)) x] := by rw [iF14.iB, HX.out]
   rw [e3]
   exact HI5
 have hltz : ¬ (i : Int) < (l0_0.length : Int) := by omega
 obtain rfl : i = l0_0.length := by omega
 have hL := HL.out
 obtain ⟨ids, hids⟩ : ∃ ids, iF14.iB E l0_0.length = ids := ⟨_, rfl⟩
 obtain ⟨sts0, hst0⟩ : ∃ s_, iF14.sB l0_0 E l0_0.length = s_ := ⟨_, rfl⟩
 have HIDL := aM_ (show ids.length = l0_0.length from by rw [← hids]; exact iF14.iB_length E l0_0.length)
 have HSL := aM_ (show sts0.length ≤ 1000000 from by rw [← hst0]; have := (iF14.fB_length l0_0 E l0_0.length); have := HC.out.2.1; omega)
 rw [hids, hst0] at hL HI
 cases hl1 : iF14.l1 k l0_0 ids l0_0.length 0 (List.replicate sts0.length false) sts0 with
 | none => rw [hl1] at hL; cases hL
 | some q =>
 rw [hl1] at hL
 injection hL with hL
 injection hL with hL1 hL2
 subst hL1 hL2
 have HQ := aM_ hl1
 clear hl1 hids hst0 HL
 have h4c : wr.cell? ⟨b4, 0, none⟩ = some vM := (bC_ HI.out.h4 0).trans rfl
 obtain ⟨AM, cM, eM⟩ := Kd.S_slice HI.out.hM
 subst eM
 obtain ⟨AI, cI, eI⟩ := kS_ HI.out.hI
 subst eI
 have hmk := print_make_of (P := Tryz.prog) 113 4 (.bool false) 1 Tryz.underlying113 iF14.infob rfl (by decide) sts0.length (by have := HSL.out; omega)
 have HI2 := aM_ (show iF14.Inv2 w (wr.alloc (.cells (madeCells #[.bool false] sts0.length) 4)) A0_0 l0_0.length c0_0 w.heap.size (w.heap.size + 1) b4 (.slice AM sts0.length cM) (.slice AI ids.length cI) (.slice (some ⟨wr.heap.size, 0, none⟩) sts0.length sts0.length) ids sts0 (List.replicate sts0.length false) from by
  have h0 := own_made_of (enc := Value.bool) (d := false) wr w.heap.size 4 sts0.length HI.out.hB.size (by have := HSL.out; omega)
  have h1 : Kd.R Kd.bool 4 (wr.alloc (.cells (madeCells #[.bool false] sts0.length) 4)) w.heap.size (fun _ => True) (.slice (some ⟨wr.heap.size, 0, none⟩) sts0.length sts0.length) (List.replicate sts0.length false) := Kd.R_of_own (enc := Value.bool) (by rw [List.length_replicate]; exact h0) (fun _ _ => trivial)
  exact ⟨b3_ HI.out.ht _, b3_ HI.out.h2 _, b3_ HI.out.h4 _, k1_ HI.out.hI _, Kd.S_alloc HI.out.hM _, h1, bA_ HI.out.hB _, ⟨HI.out.lo.1, HI.out.lo.2.1, HI.out.lo.2.2.1, HI.out.n4.2⟩⟩)
 clear HI
 go_wp2_with fail
 clear hmk h4c
 generalize hWD : wr.alloc (.cells (madeCells #[.bool false] sts0.length) 4) = WD at HI2 ⊢
 clear hWD
 generalize hbD : wr.heap.size = bD at HI2 ⊢
 clear hbD
 obtain ⟨m, hm⟩ : ∃ m, sts0.length = m := ⟨_, rfl⟩
 have HM := aM_ (And.intro hm (List.length_replicate (n := sts0.length) (a := false)))
 rw [hm] at HI2 HQ ⊢
 clear hm
 go_loopg [74] l0_0.length (fun gg v74 w' => ∃ (i : Nat) (done : List Bool) (sts : List S72), i ≤ l0_0.length ∧ l0_0.length - i ≤ gg ∧ v74 = .int .i64 (i : Int) ∧ Aside0 (iF14.l1 k l0_0 ids (l0_0.length - i) i done sts = some q) ∧ Aside0 (sts.length = m ∧ done.length = m) ∧ Aside0 (iF14.Inv2 w w' A0_0 l0_0.length c0_0 w.heap.size (w.heap.size + 1) b4 (.slice AM m cM) (.slice AI ids.length cI) (.slice (some ⟨bD, 0, none⟩) m m) ids sts done))
 case atStart => exact ⟨0, List.replicate m false, sts0, Nat.zero_le _, by omega, rfl, HQ, ⟨HM.out.1, List.length_replicate⟩, HI2⟩
 clear HI2 HQ HM
 obtain ⟨i, done, sts, hi, hg, rfl, HQ, HN, HI⟩ := hrel
 have hn6 : l0_0.length ≤ 1000000 := HC.out.2.1
 have hidl : ids.length ≤ l0_0.length ∧ l0_0.length ≤ ids.length := by have := HIDL.out; omega
 by_cases hlt : i < l0_0.length
 rotate_left
 ·
  have hltz : ¬ (i : Int) < (ids.length : Int) := by omega
  obtain rfl : i = l0_0.length := by omega
  have hQ := HQ.out
  rw [Nat.sub_self, iF14.l1] at hQ
  obtain rfl := Option.some.inj hQ
  have h4c : wr.cell? ⟨b4, 0, none⟩ = some (.slice AM m cM) := (bC_ HI.out.h4 0).trans rfl
  have h2c : wr.cell? ⟨w.heap.size + 1, 0, none⟩ = some (.slice none 0 0) := (bC_ HI.out.h2 0).trans rfl
  have h2f := bF_ HI.out.h2 0
  clear hQ HQ
  go_wp2_with fail
  refine bodyPost_ret (results_ct rfl _ _ (w.heap.size + 1) 33 #[.slice AM m cM] (0, 0) _ rfl (by refine bP_ (cs := #[.slice none 0 0]) ?_ 0 _ rfl; exact HI.out.h2) Tryz.underlying33 rfl (by kernel_rfl)) rfl ?_
  refine ⟨_, _, rfl, ?_, ?_, ?_⟩
  ·
   exact Kd.S_set HI.out.hM HI.out.h2 (by decide) 0 _
  ·
   exact Kd.R_set HI.out.hI HI.out.h2 (by decide) 0 _
  exact bS_ HI.out.hB HI.out.lo.2.1
 have hltz : (i : Int) < (ids.length : Int) := by omega
 obtain ⟨d, hd⟩ : ∃ d, l0_0.length - i = d + 1 := ⟨l0_0.length - i - 1, by omega⟩
 have hQ := HQ.out
 have HDE := aM_ (show l0_0.length - (i + 1) = d from by omega)
 rw [hd, iF14.l1] at hQ
 clear hd
 by_cases hc1 : 0 ≤ rd ids (i : Int) ∧ rd ids (i : Int) < (sts.length : Int) ∧ rd ids (i : Int) < (done.length : Int)
 rotate_left
 ·
  rw [if_neg hc1] at hQ; cases hQ
 rw [if_pos hc1] at hQ
 obtain ⟨sn, hsn⟩ : ∃ sn : Nat, rd ids (i : Int) = (sn : Int) := ⟨(rd ids (i : Int)).toNat, by omega⟩
 rw [hsn] at hQ hc1
 have hsm : sn < m := by have := HN.out.1; omega
 obtain ⟨gI, cI2, eI, _, _, _, _⟩ := Kd.R_form HI.out.hI (by omega)
 injection eI with eI1 eI2 eI3
 subst eI1
 subst eI3
 clear eI2
 have hcI := kC_ 0 HI.out.hI (i : Int) (by omega) hltz
 rw [Int.toNat_natCast] at hcI
 have hcI1 : wr.cell? ⟨gI, i, none⟩ = some (.int .i64 (sn : Int)) := by rw [← hsn]; exact hcI.1
 have hcD := kC_ false HI.out.hD (sn : Int) (by omega) (by omega)
 rw [Int.toNat_natCast] at hcD
 have hsmz : (sn : Int) < (m : Int) := by omega
 have HSN := aM_ hsn
 have HC1 := aM_ hc1
 clear hcI hsn hc1
 cases hdn : rdOf false done (sn : Int) with
 | true =>
  rw [hdn] at hcD hQ
  rw [if_pos rfl] at hQ
  have HQ2 := aM_ hQ
  obtain ⟨hcD1, hcD2⟩ := hcD
  clear hQ hdn HQ
  go_wp2_with fail
  go_roundg (l0_0.length - (i + 1))
  case measure => omega
  refine ⟨i + 1, done, sts, by omega, by omega, by go_num, ⟨?_⟩, HN, HI⟩
  rw [HDE.out]
  exact HQ2.out
 | false =>
  rw [hdn] at hcD hQ
  rw [if_neg Bool.false_ne_true] at hQ
  cases hkd : iF13.f k l0_0 (i : Int) with
  | none => rw [hkd] at hQ; cases hQ
  | some ks =>
  rw [hkd, Option.bind_some] at hQ
  by_cases hc2 : iF14.okk l0_0 ids ks = true ∧ ks.length ≤ 1000000 ∧ (rd_T72 sts (sn : Int)).f1.length ≤ 1000000
  rotate_left
  ·
   rw [if_neg hc2] at hQ; cases hQ
  rw [if_pos hc2] at hQ
  have HQ2 := aM_ hQ
  have HC2 := aM_ hc2
  obtain ⟨hcD1, hcD2⟩ := hcD
  have HKD := aM_ hkd
  have HPD := aM_ (And.intro (Kd.R_putn HI.out.hD (sn : Int) true) (Kd.R_putg HI.out.hD (sn : Int) true).2)
  have hbt : wr.cell? ⟨w.heap.size, 0, none⟩ = some (.slice A0_0 l0_0.length c0_0) := (bC_ HI.out.ht 0).trans rfl
  have hbtne : w.heap.size ≠ bD := fun e => k6_ HI.out.hD HI.out.ht (by decide) (by rw [e]; simp [Value.ownBlock])
  have HID := aM_ (show iF14.Inv2 w (wr.setCell ⟨bD, sn, none⟩ (.bool true)) A0_0 l0_0.length c0_0 w.heap.size (w.heap.size + 1) b4 (.slice AM m cM) (.slice (some ⟨gI, 0, none⟩) ids.length cI) (.slice (some ⟨bD, 0, none⟩) m m) ids sts (done.set sn true) from by
   have h1 := HPD.out
   simp only [Int.toNat_natCast] at h1
   exact HI.out.withDone h1.1 (by simpa [Value.ownBlock] using h1.2))
  have hbt2 : (wr.setCell ⟨bD, sn, none⟩ (.bool true)).cell? ⟨w.heap.size, 0, none⟩ = some (.slice A0_0 l0_0.length c0_0) := (bC_ HID.out.ht 0).trans rfl
  have HCK := aM_ (iF13.calls k A0_0 c0_0 l0_0 (i : Int) ks (wr.setCell ⟨bD, sn, none⟩ (.bool true)) (k4_ HR0.out HID.out.hB) HC0.out hkd)
  clear hQ hdn HQ hc2 hkd HPD HI
  go_wp2_with fail
  refine HCK.out.mono ?_
  clear HCK
  rintro e w2 ⟨vK, rfl, hrK, hbK⟩
  obtain ⟨AK, cK, eK⟩ := kS_ hrK
  subst eK
  have HI0 := aM_ (HID.out.below hbK)
  have HK0 := aM_ (k5_ hrK HID.out.hB.size)
  clear hrK hbK HID hcI1 hcD1 hcD2 hbt hbt2 hbtne
  go_wp2_with fail
  obtain ⟨x, hx⟩ : ∃ x, rd_T72 sts (sn : Int) = x := ⟨_, rfl⟩
  have HXE := aM_ hx
  have HST0 := aM_ (show sts.set sn (iF14.add l0_0 ids (ks.take 0) x) = sts from by
   rw [List.take_zero, ← hx]
   unfold iF14.add
   rw [List.map_nil, List.append_nil]
   have hlt2 : sn < sts.length := by have := HN.out.1; omega
   have e : (⟨(rd_T72 sts (sn : Int)).f0, (rd_T72 sts (sn : Int)).f1⟩ : S72) = sts[sn] := by
    unfold rd_T72
    rw [Int.toNat_natCast, List.getD_eq_getElem?_getD, List.getElem?_eq_getElem hlt2]
    rfl
   rw [e, List.set_getElem_self])
  rw [hx] at HC2
  clear hx
  go_loopg [90] ks.length (fun gg v90 w' => ∃ (j : Nat), j ≤ ks.length ∧ ks.length - j ≤ gg ∧ v90 = .int .i64 (j : Int) ∧ Aside0 (Kd.R (Kd.int .i64) 3 w' w.heap.size (fun _ => True) (.slice AK ks.length cK) ks) ∧ Aside0 (iF14.Inv2 w w' A0_0 l0_0.length c0_0 w.heap.size (w.heap.size + 1) b4 (.slice AM m cM) (.slice (some ⟨gI, 0, none⟩) ids.length cI) (.slice (some ⟨bD, 0, none⟩) m m) ids (sts.set sn (iF14.add l0_0 ids (ks.take j) x)) (done.set sn true)))
  case atStart => exact ⟨0, Nat.zero_le _, by omega, rfl, HK0, ⟨by rw [HST0.out]; exact HI0.out⟩⟩
  clear HI0 HK0 HST0
  obtain ⟨j, hj, hgj, rfl, HKS, HI⟩ := hrel
  by_cases hlj : j < ks.length
  rotate_left
  ·
   have hljz : ¬ (j : Int) < (ks.length : Int) := by omega
   obtain rfl : j = ks.length := by omega
   have HI5 := HI.out
   rw [List.take_length] at HI5
   have HI6 := aM_ HI5
   clear HI5 HI
   go_wp2_with fail
   go_roundg (l0_0.length - (i + 1))
   case measure => omega
   refine ⟨i + 1, done.set sn true, sts.set sn (iF14.add l0_0 ids ks x), by omega, by omega, by go_num, ⟨?_⟩, ⟨by rw [List.length_set, List.length_set]; exact HN.out⟩, HI6⟩
   rw [HDE.out]
   have h9 := HQ2.out
   rw [HXE.out, Int.toNat_natCast] at h9
   exact h9
  have hljz : (j : Int) < (ks.length : Int) := by omega
  obtain ⟨kn, hkn, hkz1, hkz2⟩ := iF14.okk_at HC2.out.1 hlj
  obtain ⟨ad, ead, hd0, hd1, hd2⟩ := at_T96 HR0.out (kn : Int) (by omega) hkz1
  subst ead
  rw [Int.toNat_natCast] at hd0
  have HKN := aM_ (And.intro hkn (And.intro hkz1 hkz2))
  have HDD := aM_ (And.intro (wB_ w _ hd0) hd0)
  have hkb : ks.length ≤ 1000000 := HC2.out.2.1
  obtain ⟨gK, cK2, eK, _, _, _, _⟩ := Kd.R_form HKS.out (by omega)
  injection eK with eK1 eK2 eK3
  subst eK1
  subst eK3
  clear eK2
  have hck := kC_ 0 HKS.out (j : Int) (by omega) hljz
  rw [Int.toNat_natCast] at hck
  have hck1 : wr.cell? ⟨gK, j, none⟩ = some (.int .i64 (kn : Int)) := by rw [← HKN.out.1]; exact hck.1
  clear hck
  have hMR := Kd.S_R HI.out.hM
  obtain ⟨gS, cM2, eM, _, _, _, _⟩ := Kd.R_form hMR (by rw [List.length_set]; have := HN.out.1; omega)
  injection eM with eM1 eM2 eM3
  subst eM1
  subst eM3
  clear eM2 hMR
  obtain ⟨stj, hstj⟩ : ∃ s_, sts.set sn (iF14.add l0_0 ids (ks.take j) x) = s_ := ⟨_, rfl⟩
  obtain ⟨xj, hxj⟩ : ∃ x_, iF14.add l0_0 ids (ks.take j) x = x_ := ⟨_, rfl⟩
  have HXJ := aM_ (And.intro hstj hxj)
  rw [hstj] at HI
  have hrx : rd_T72 stj (sn : Int) = xj := by
   rw [← hstj, ← hxj]
   unfold rd_T72
   rw [Int.toNat_natCast, List.getD_eq_getElem?_getD, List.getElem?_set_self (by have := HN.out.1; omega)]
   rfl
  have HXL := aM_ (show xj.f1.length ≤ 2000000 from by
   rw [← hxj]
   unfold iF14.add
   rw [List.length_append, List.length_map, List.length_take]
   have := HC2.out.2.2
   omega)
  obtain ⟨ue, oki, hec, hef, heo, hed0⟩ := iF14.edge HI.out.hM sn hsm
  rw [hrx] at heo hed0
  have HEO := aM_ heo
  have HED := aM_ hed0
  have h4c : wr.cell? ⟨b4, 0, none⟩ = some (.slice (some ⟨gS, 0, none⟩) m cM) := (bC_ HI.out.h4 0).trans rfl
  have htc : wr.cell? ⟨w.heap.size, 0, none⟩ = some (.slice (some ad) l0_0.length c0_0) := (bC_ HI.out.ht 0).trans rfl
  have hdc : wr.cell? (ad.add (kn * 3)) = some (.int .i64 (rd_T96 l0_0 (kn : Int)).f0) := (HI.out.hB.cell HDD.out.1).trans HDD.out.2
  have hic : wr.cell? ⟨gI, kn, none⟩ = some (.int .i64 (rd ids (kn : Int))) := by
   have h9 := (kC_ 0 HI.out.hI (kn : Int) (by omega) hkz2).1
   rw [Int.toNat_natCast] at h9
   exact h9
  clear hstj hxj hrx heo hed0 hkn hd0 hd1 hd2
  go_wp2_with fail
  refine start_ (n := 25) (S := fun w' => w'.cell? ⟨b4, 0, none⟩ = some (.slice (some ⟨gS, 0, none⟩) m cM) ∧ w'.cell? ⟨gS, sn * 2 + 1, none⟩ = some ue ∧ w'.cell? ⟨w.heap.size, 0, none⟩ = some (.slice (some ad) l0_0.length c0_0) ∧ w'.cell? (ad.add (kn * 3)) = some (.int .i64 (rd_T96 l0_0 (kn : Int)).f0) ∧ w'.cell? ⟨gI, kn, none⟩ = some (.int .i64 (rd ids (kn : Int)))) (ds := [24]) #[fy, fy, fy, fy, fy, fy, fy, fy, fy, fy, fy, fy, fy, fy, fy, fy, fy, fy, fy, fy, fy, fy, fy, fy, fy] (by kernel_rfl) rfl rfl ⟨h4c, hec, htc, hdc, hic⟩ (fun hHeld => ?_)
  refine with_tabW iF14.tab20 iF14.bits20 (fun HT_ HW_ => ?_)
  refine pu_ HT_ 0 94 #[ty, fy, fy, fy, fy, fy, fy, fy, fy, fy, fy, fy, fy, fy, fy, fy, fy, fy, fy, fy, fy, fy, fy, fy, fy] ?_
  refine pu_ HT_ 2 96 #[ty, fy, ty, fy, fy, fy, fy, fy, fy, fy, fy, fy, fy, fy, fy, fy, fy, fy, fy, fy, fy, fy, fy, fy, fy] ?_
  refine pu_ HT_ 3 97 #[ty, fy, ty, ty, fy, fy, fy, fy, fy, fy, fy, fy, fy, fy, fy, fy, fy, fy, fy, fy, fy, fy, fy, fy, fy] ?_
  refine pu_ HT_ 5 99 #[ty, fy, ty, ty, fy, ty, fy, fy, fy, fy, fy, fy, fy, fy, fy, fy, fy, fy, fy, fy, fy, fy, fy, fy, fy] ?_
  refine pu_ HT_ 9 103 #[ty, fy, ty, ty, fy, ty, fy, fy, fy, ty, fy, fy, fy, fy, fy, fy, fy, fy, fy, fy, fy, fy, fy, fy, fy] ?_
  refine pu_ HT_ 11 105 #[ty, fy, ty, ty, fy, ty, fy, fy, fy, ty, fy, ty, fy, fy, fy, fy, fy, fy, fy, fy, fy, fy, fy, fy, fy] ?_
  refine pu_ HT_ 15 109 #[ty, fy, ty, ty, fy, ty, fy, fy, fy, ty, fy, ty, fy, fy, fy, ty, fy, fy, fy, fy, fy, fy, fy, fy, fy] ?_
  refine pu_ HT_ 16 110 #[ty, fy, ty, ty, fy, ty, fy, fy, fy, ty, fy, ty, fy, fy, fy, ty, ty, fy, fy, fy, fy, fy, fy, fy, fy] ?_
  refine pu_ HT_ 17 111 #[ty, fy, ty, ty, fy, ty, fy, fy, fy, ty, fy, ty, fy, fy, fy, ty, ty, ty, fy, fy, fy, fy, fy, fy, fy] ?_
  refine tk_ HT_ HW_ 1 95 #[ty, ty, ty, ty, fy, ty, fy, fy, fy, ty, fy, ty, fy, fy, fy, ty, ty, ty, fy, fy, fy, fy, fy, fy, fy] hHeld ?_ (hr := by rintro w' ⟨s0, s1, s2, s3, s4⟩; go_simp; with_reducible rfl)
  refine tk_ HT_ HW_ 4 98 #[ty, ty, ty, ty, ty, ty, fy, fy, fy, ty, fy, ty, fy, fy, fy, ty, ty, ty, fy, fy, fy, fy, fy, fy, fy] hHeld ?_ (hr := by rintro w' ⟨s0, s1, s2, s3, s4⟩; go_simp; with_reducible rfl)
  refine pu_ HT_ 6 100 #[ty, ty, ty, ty, ty, ty, ty, fy, fy, ty, fy, ty, fy, fy, fy, ty, ty, ty, fy, fy, fy, fy, fy, fy, fy] ?_
  refine pu_ HT_ 7 101 #[ty, ty, ty, ty, ty, ty, ty, ty, fy, ty, fy, ty, fy, fy, fy, ty, ty, ty, fy, fy, fy, fy, fy, fy, fy] ?_
  refine tk_ HT_ HW_ 8 102 #[ty, ty, ty, ty, ty, ty, ty, ty, ty, ty, fy, ty, fy, fy, fy, ty, ty, ty, fy, fy, fy, fy, fy, fy, fy] hHeld ?_ (hr := by rintro w' ⟨s0, s1, s2, s3, s4⟩; go_simp; with_reducible rfl)
  refine tk_ HT_ HW_ 10 104 #[ty, ty, ty, ty, ty, ty, ty, ty, ty, ty, ty, ty, fy, fy, fy, ty, ty, ty, fy, fy, fy, fy, fy, fy, fy] hHeld ?_ (hr := by rintro w' ⟨s0, s1, s2, s3, s4⟩; go_simp; with_reducible rfl)
  refine pu_ HT_ 12 106 #[ty, ty, ty, ty, ty, ty, ty, ty, ty, ty, ty, ty, ty, fy, fy, ty, ty, ty, fy, fy, fy, fy, fy, fy, fy] ?_
  refine pu_ HT_ 13 107 #[ty, ty, ty, ty, ty, ty, ty, ty, ty, ty, ty, ty, ty, ty, fy, ty, ty, ty, fy, fy, fy, fy, fy, fy, fy] ?_
  refine tk_ HT_ HW_ 14 108 #[ty, ty, ty, ty, ty, ty, ty, ty, ty, ty, ty, ty, ty, ty, ty, ty, ty, ty, fy, fy, fy, fy, fy, fy, fy] hHeld ?_ (hr := by rintro w' ⟨s0, s1, s2, s3, s4⟩; go_simp; with_reducible rfl)
  refine tk_ HT_ HW_ 18 112 #[ty, ty, ty, ty, ty, ty, ty, ty, ty, ty, ty, ty, ty, ty, ty, ty, ty, ty, ty, fy, fy, fy, fy, fy, fy] hHeld ?_ (hr := by rintro w' ⟨s0, s1, s2, s3, s4⟩; go_simp; with_reducible rfl)
  refine pu_ HT_ 19 113 #[ty, ty, ty, ty, ty, ty, ty, ty, ty, ty, ty, ty, ty, ty, ty, ty, ty, ty, ty, ty, fy, fy, fy, fy, fy] ?_
  refine one_ (i := 20) (N := some 114) #[ty, ty, ty, ty, ty, ty, ty, ty, ty, ty, ty, ty, ty, ty, ty, ty, ty, ty, ty, ty, ty, fy, fy, fy, fy] rfl rfl (one_of HT_.out (by kernel_rfl)) (by decide) (fun K hK => ?_)
  refine value_ (w1 := ?_) (v := ?_) (by rfl) rfl ?_ ?_
  rotate_left 2
  ·
   go_simp
   constructor
   ·
    rfl
   rfl
  refine hK.out _ _ ⟨(World.cell?_alloc_lt _ _ _ (wB_ _ _ hHeld.1)).trans hHeld.1, (World.cell?_alloc_lt _ _ _ (wB_ _ _ hHeld.2.1)).trans hHeld.2.1, (World.cell?_alloc_lt _ _ _ (wB_ _ _ hHeld.2.2.1)).trans hHeld.2.2.1, (World.cell?_alloc_lt _ _ _ (wB_ _ _ hHeld.2.2.2.1)).trans hHeld.2.2.2.1, (World.cell?_alloc_lt _ _ _ (wB_ _ _ hHeld.2.2.2.2)).trans hHeld.2.2.2.2⟩ (fun hHeld => ?_)
  clear hK K
  refine norm_ (by show Act.put _ (some 114) _ = _; simp only [Act.put, sA_, sB_, sC_, i6_, i3_]; rfl) ?_
  refine one_ (i := 21) (N := some 115) #[ty, ty, ty, ty, ty, ty, ty, ty, ty, ty, ty, ty, ty, ty, ty, ty, ty, ty, ty, ty, ty, ty, fy, fy, fy] rfl rfl (one_of HT_.out (by kernel_rfl)) (by decide) (fun K hK => ?_)
  refine Kd.R_append_step k88 (W := wr.drew) (w0 := w) w.heap.size (by rfl) (.tmp 102) (.tmp 114) 70 88 (.agg #[(.int .i64 0), (.int .i64 0)]) 16 rfl Tryz.underlying70 info88 rfl (by decide) (by omega) ue xj.f1 (⟨(rd_T96 l0_0 (kn : Int)).f0, rd ids (kn : Int)⟩ : S88) [.int .i64 (rd_T96 l0_0 (kn : Int)).f0, .int .i64 (rd ids (kn : Int))] (fun k => oki k ∨ wr.heap.size ≤ k) (fun _ => False) rfl rfl ?aP (fun _ hk => hk.elim) (fun k hk => .inr hk) ?aO ?aB ?aS ?aL ?_
  (case aP => exact k88_mkM _ _ _ (⟨(rd_T96 l0_0 (kn : Int)).f0, rd ids (kn : Int)⟩ : S88))
  (case aO => exact k3_ HEO.out)
  (case aB => exact bD_ HI.out.hB)
  (case aS => exact HI.out.hB.size)
  (case aL => have := HXL.out; omega)
  intro v3 w3 ho hb hg3 hat
  obtain ⟨A3, c3, e3⟩ := kS_ ho
  subst e3
  rw [List.length_append, List.length_singleton] at ho
  have hed := HED.out w3 _ _ ho ⟨hg3.os, hg3.tape, hg3.output, hg3.size, hg3.block⟩
  have HI3 := aM_ (HI.out.drew.withEdge (k3_ HEO.out) hb hg3 hed.1 hed.2.1)
  have HW3 := aM_ hed
  have hb4 := blk_grown (b1_ HI.out.h4) hg3 (k6_ (k3_ HEO.out) (b1_ HI.out.h4) (by decide))
  have hbt := blk_grown (b1_ HI.out.ht) hg3 (k6_ (k3_ HEO.out) (b1_ HI.out.ht) (by decide))
  have hid := kC_ 0 (Kd.R_over' (k3_ HI.out.hI) (Kd.R_typed (k3_ HEO.out)) (by decide) hg3) (kn : Int) (by omega) HKN.out.2.2
  have hdd := (hb.cell HDD.out.1).trans HDD.out.2
  refine hK.out _ _ ⟨(bC_ hb4 0).trans rfl, hed.2.2.1, (bC_ hbt 0).trans rfl, hdd, hid.1⟩ (fun hHeld => ?_)
  clear hK K
  refine norm_ (by show Act.put _ (some 115) _ = _; simp only [Act.put, sA_, sB_, sC_, i6_, i3_]; rfl) ?_
  refine pu_ HT_ 22 116 #[ty, ty, ty, ty, ty, ty, ty, ty, ty, ty, ty, ty, ty, ty, ty, ty, ty, ty, ty, ty, ty, ty, ty, fy, fy] ?_
  refine pu_ HT_ 23 117 #[ty, ty, ty, ty, ty, ty, ty, ty, ty, ty, ty, ty, ty, ty, ty, ty, ty, ty, ty, ty, ty, ty, ty, ty, fy] ?_
  refine last_ (i := 24) (N := none) #[ty, ty, ty, ty, ty, ty, ty, ty, ty, ty, ty, ty, ty, ty, ty, ty, ty, ty, ty, ty, ty, ty, ty, ty, ty] rfl rfl (one_of HT_.out (by kernel_rfl)) (by decide) (fun K hK => ?_)
  have hec2 : w3.cell? ⟨gS, sn * 2 + 1, none⟩ = some ue := HW3.out.2.2.1
  have hef2 : w3.frozen? ⟨gS, sn * 2 + 1, none⟩ = false := HW3.out.2.2.2
  refine skip_ (w1 := ?_) (by rfl) rfl ?_ ?_
  rotate_left
  ·
   go_simp
   rfl
  refine hK.out _ _ ?_
  clear hK K
  refine done_ (done_of HT_.out (by kernel_rfl)) ?_
  clear hec hef h4c htc hdc hic
  go_wp2_with fail
  go_roundg (ks.length - (j + 1))
  case measure => omega
  refine ⟨j + 1, by omega, by omega, by go_num, ⟨HI3.out.2 _ _ (k3_ HKS.out)⟩, ⟨?_⟩⟩
  have h9 := HI3.out.1
  have e9 : stj.set sn ⟨xj.f0, xj.f1 ++ [⟨(rd_T96 l0_0 (kn : Int)).f0, rd ids (kn : Int)⟩]⟩ = sts.set sn (iF14.add l0_0 ids (ks.take (j + 1)) x) := by
   obtain ⟨q1, q2⟩ := HXJ.out
   rw [← q1, ← q2, List.set_set]
   congr 1
   unfold iF14.add
   have q3 : ks[j] = (kn : Int) := by
    have q4 := HKN.out.1
    unfold rd at q4
    rw [Int.toNat_natCast, List.getD_eq_getElem?_getD, List.getElem?_eq_getElem hlj] at q4
    exact q4
   rw [List.take_succ_eq_append_getElem hlj, List.map_append, List.append_assoc, q3]
   rfl
  rw [← e9]
  exact h9
end Go.Proofs.YtnnkedeohfbkeaaGreatDoor.P
namespace Go.Proofs
open Go.Shelf
def Tryz.lays160_ren : Go.Shelf.Ren := ⟨fun | 160 => 111 | 232 => 128 | 231 => 127 | 227 => 129 | 234 => 131 | 233 => 130 | 236 => 133 | 235 => 132 | 228 => 140 | 271 => 143 | 151 => 142 | 197 => 141 | 120 => 149 | 152 => 148 | 260 => 147 | 137 => 160 | 119 => 161 | 224 => 162 | 225 => 163 | 217 => 169 | 266 => 171 | n => n, fun | 9 => 9 | 4 => 4 | 3 => 3 | 5 => 5 | 117 => 138 | 116 => 137 | 0 => 0 | 124 => 141 | 21 => 21 | 105 => 145 | 46 => 126 | 119 => 163 | 139 => 166 | 138 => 165 | n => n, fun | 3 => 0 | 4 => 1 | n => n⟩
theorem Tryz.lays160 : Go.Proofs.Lays.n160 Tryz.prog Tryz.lays160_ren := {
  mixed := by kernel_rfl
  f119 := Tryz.func161.trans (congrArg some (by kernel_rfl))
  f120 := Tryz.func149.trans (congrArg some (by kernel_rfl))
  f137 := Tryz.func160.trans (congrArg some (by kernel_rfl))
  f151 := Tryz.func142.trans (congrArg some (by kernel_rfl))
  f152 := Tryz.func148.trans (congrArg some (by kernel_rfl))
  f160 := Tryz.func111.trans (congrArg some (by kernel_rfl))
  f197 := Tryz.func141.trans (congrArg some (by kernel_rfl))
  f217 := Tryz.func169.trans (congrArg some (by kernel_rfl))
  f224 := Tryz.func162.trans (congrArg some (by kernel_rfl))
  f225 := Tryz.func163.trans (congrArg some (by kernel_rfl))
  f227 := Tryz.func129.trans (congrArg some (by kernel_rfl))
  f228 := Tryz.func140.trans (congrArg some (by kernel_rfl))
  f231 := Tryz.func127.trans (congrArg some (by kernel_rfl))
  f232 := Tryz.func128.trans (congrArg some (by kernel_rfl))
  f233 := Tryz.func130.trans (congrArg some (by kernel_rfl))
  f234 := Tryz.func131.trans (congrArg some (by kernel_rfl))
  f235 := Tryz.func132.trans (congrArg some (by kernel_rfl))
  f236 := Tryz.func133.trans (congrArg some (by kernel_rfl))
  f260 := Tryz.func147.trans (congrArg some (by kernel_rfl))
  f266 := Tryz.func171.trans (congrArg some (by kernel_rfl))
  f271 := Tryz.func143.trans (congrArg some (by kernel_rfl))
  t0 := Tryz.underlying0
  a0 := Tryz.isAgg0
  z0 := Tryz.sizeOf0
  v0 := Tryz.zeroValue0
  t3 := Tryz.underlying3
  a3 := Tryz.isAgg3
  z3 := Tryz.sizeOf3
  v3 := Tryz.zeroValue3
  t4 := Tryz.underlying4
  a4 := Tryz.isAgg4
  z4 := Tryz.sizeOf4
  v4 := Tryz.zeroValue4
  t5 := Tryz.underlying5
  a5 := Tryz.isAgg5
  z5 := Tryz.sizeOf5
  v5 := Tryz.zeroValue5
  t9 := Tryz.underlying9
  a9 := Tryz.isAgg9
  z9 := Tryz.sizeOf9
  v9 := Tryz.zeroValue9
  t21 := Tryz.underlying21
  a21 := Tryz.isAgg21
  z21 := Tryz.sizeOf21
  v21 := Tryz.zeroValue21
  t46 := Tryz.underlying126
  a46 := Tryz.isAgg126
  z46 := Tryz.sizeOf126
  v46 := Tryz.zeroValue126
  t105 := Tryz.underlying145
  a105 := Tryz.isAgg145
  z105 := Tryz.sizeOf145
  v105 := Tryz.zeroValue145
  t116 := Tryz.underlying137
  a116 := Tryz.isAgg137
  z116 := Tryz.sizeOf137
  t117 := Tryz.underlying138
  a117 := Tryz.isAgg138
  z117 := Tryz.sizeOf138
  v117 := Tryz.zeroValue138
  t119 := Tryz.underlying163
  a119 := Tryz.isAgg163
  z119 := Tryz.sizeOf163
  t124 := Tryz.underlying141
  a124 := Tryz.isAgg141
  z124 := Tryz.sizeOf141
  v124 := Tryz.zeroValue141
  t138 := Tryz.underlying165
  a138 := Tryz.isAgg165
  z138 := Tryz.sizeOf165
  v138 := Tryz.zeroValue165
  t139 := Tryz.underlying166
  a139 := Tryz.isAgg166
  z139 := Tryz.sizeOf166
  v139 := Tryz.zeroValue166
  g3 := by kernel_rfl
  g4 := by kernel_rfl }
end Go.Proofs
namespace Go.Proofs.YtnnkedeohfbkeaaGreatDoor.P
open Go.RowKit Go.Proofs.YtnnkedeohfbkeaaGreatDoorW.PrintWords Go.Proofs.YtnnkedeohfbkeaaGreatDoorW.PrintLast Go.Proofs.YtnnkedeohfbkeaaGreatDoorW.PrintMore
open Go.Proofs.YtnnkedeohfbkeaaGreatDoorW.PrintWords renaming blk_frozen → bF_, blk_cell → bC_, below_set → bS_, blk_below → bB_, below_step → bT_, pw_below_drewN → bN_, below_size → bZ_, below_drew1 → bD_, below_alloc → bA_, blk_far → bR_, gate_callee → gC_, gate_dst → gD_, box_event → bE_, blk_drew → b1_, blk_put → bP_, blk_drewN → b2_, blk_alloc → b3_, blk_lt → bL_, cell_far → cF_
open Go.Proofs.YtnnkedeohfbkeaaGreatDoorW.PrintLast renaming any_of → aO_, i64_w → i6_, i32_w → i3_, take_ofW → tW_
open Go.Proofs.YtnnkedeohfbkeaaGreatDoorW.PrintWords.Kd renaming R_below → kB_, R_mono → kM_, R_far → kF_, R_reads' → kR_, R_types → kT_, R_slice → kS_, R_celln → kC_, R_alloc → k1_, R_drewN → k2_, R_drew → k3_, C_below → k4_, R_lower → k5_, R_ne → k6_, own_blk → k7_
open Go.Proofs.YtnnkedeohfbkeaaGreatDoorW.PrintWords.LeO renaming none → l0_, bind → l1_, ite → l2_, refl → l3_
open World renaming block_lt_of_cell? → wB_
open _root_.Option renaming bind_eq_some_iff → oB_
open _root_.ByteArray renaming empty → eB_
open List renaming setIfInBounds_toArray → sA_, set_cons_zero → sB_, set_cons_succ → sC_, map_toArray → sD_, map_cons → sE_, map_nil → sF_, length_drop → sG_, length_take → sH_
open Bool renaming true → ty, false → fy
open Aside0 renaming mk → aM_
attribute [local go_sem] max2_int min2_int max_two min_two max_three min_three max_four min_four
def iF18.letter (c : UInt8) : Bool := decide (97 ≤ c.toNat ∧ c.toNat ≤ 122)
def iF18.f (a0 : ByteArray) : Option Bool := if a0.size ≤ 9223372036854775807 then some (a0.data.toList.all iF18.letter) else none
def iF18.abc : List UInt8 := [97, 98, 99, 100, 101, 102, 103, 104, 105, 106, 107, 108, 109, 110, 111, 112, 113, 114, 115, 116, 117, 118, 119, 120, 121, 122]
theorem iF18.abc_mem (c : UInt8) : iF18.abc.contains c = iF18.letter c := by
 have h : ∀ n : Fin 256, iF18.abc.contains (UInt8.ofNat n.val) = iF18.letter (UInt8.ofNat n.val) := by decide +kernel
 have := h ⟨c.toNat, c.toNat_lt⟩
 simpa using this
theorem iF18.dw_nil (p : UInt8 → Bool) : ∀ l : List UInt8, l.dropWhile p = [] ↔ ∀ x ∈ l, p x = true
 | [] => by simp
 | a :: l => by
  cases h : p a
  ·
   simp [List.dropWhile_cons, h]
  simp [List.dropWhile_cons, h, iF18.dw_nil p l]
theorem iF18.dw_head (p : UInt8 → Bool) : ∀ (l t : List UInt8) (a : UInt8), l.dropWhile p = a :: t → p a = false
 | [], _, _, h => by simp at h
 | b :: l, t, a, h => by
  cases hb : p b
  ·
   simp [List.dropWhile_cons, hb] at h; rw [← h.1]; exact hb
  simp [List.dropWhile_cons, hb] at h; exact iF18.dw_head p l t a h
theorem iF18.trim_eq (p : UInt8 → Bool) (l : List UInt8) : ((l.reverse.dropWhile p).reverse.dropWhile p).isEmpty = l.all p := by
 rw [Bool.eq_iff_iff, List.isEmpty_iff, iF18.dw_nil p, List.all_eq_true]
 constructor
 ·
  intro h
  cases hm : l.reverse.dropWhile p with
  | nil =>
   rw [iF18.dw_nil p] at hm
   exact fun x hx => hm x (by simpa using hx)
  | cons a t =>
   have h1 : p a = true := h a (by rw [hm]; simp)
   rw [iF18.dw_head p _ _ _ hm] at h1; cases h1
 intro h x hx
 have : x ∈ l.reverse.dropWhile p := by simpa using hx
 have := (List.dropWhile_sublist p).subset this
 exact h x (by simpa using this)
theorem iF18.trim_nil (l : List UInt8) : (Lib.trimS l iF18.abc).isEmpty = l.all iF18.letter := by
 unfold Lib.trimS Lib.trimLeftS Lib.trimRightS
 have : (fun x => iF18.abc.contains x) = iF18.letter := funext iF18.abc_mem
 rw [this, iF18.trim_eq]
theorem iF18.rb {a b : Bool} (h : a = b) : Ending.returned (.bool a) = .returned (.bool b) := by rw [h]
set_option maxHeartbeats 2000000 in
theorem iF18.calls (a0 : ByteArray) (r : Bool) (w : World) (h : iF18.f a0 = some r) :
  Calls Tryz.prog 88 #[.string a0] w fun e w' => e = .returned (.bool r) ∧ Below w.heap.size w w' := by
 unfold iF18.f at h
 by_cases hs : a0.size ≤ 9223372036854775807
 rotate_left
 ·
  rw [if_neg hs] at h; cases h
 rw [if_pos hs] at h
 have H := aM_ (Option.some.inj h)
 clear h
 have HC := aM_ (Go.Proofs.Any.strings_Trim_laid Go.Proofs.Tryz.lays160 (by kernel_rfl) a0 ⟨#[97, 98, 99, 100, 101, 102, 103, 104, 105, 106, 107, 108, 109, 110, 111, 112, 113, 114, 115, 116, 117, 118, 119, 120, 121, 122]⟩ w hs (by decide) (Go.Proofs.ascii_of_all (by decide)))
 have HT := aM_ ((show (Lib.trimS a0.data.toList iF18.abc).isEmpty = r from (iF18.trim_nil _).trans H.out))
 clear H
 go_enter Tryz.func88, Tryz.ntmps88
 go_wp2_with fail
 refine HC.out.mono ?_
 clear HC
 rintro e w1 ⟨rfl, hb0⟩
 have HB := aM_ hb0
 clear hb0
 obtain ⟨t, ht⟩ : ∃ t, t = Lib.trimS a0.data.toList iF18.abc := ⟨_, rfl⟩
 rw [show Lib.trimS a0.data.toList (⟨#[97, 98, 99, 100, 101, 102, 103, 104, 105, 106, 107, 108, 109, 110, 111, 112, 113, 114, 115, 116, 117, 118, 119, 120, 121, 122]⟩ : ByteArray).data.toList = t from ht.symm]
 rw [← ht] at HT
 clear ht
 cases t with
 | nil =>
  go_wp2_with fail
  go_ret
  exact ⟨iF18.rb (by rw [← HT.out]; rfl), HB.out⟩
 | cons c t =>
  go_wp2_with fail
  go_ret
  exact ⟨iF18.rb (by rw [← HT.out]; rfl), HB.out⟩
def iF22.f (a0 : ByteArray) : Option (Bool) := if (a0.size : Int) ≤ 12 then ((iF18.f a0).bind fun t416 => (some t416)) else (some false)
theorem iF22.calls (a0 : ByteArray) (r : Bool) (w : World) (h : iF22.f a0 = some r) :
  Calls Tryz.prog 60 #[.string a0] w fun e w' => e = .returned (.bool r) ∧ Below w.heap.size w w' := by
 have HB := aM_ (Below.refl w.heap.size w)
 have H : (if (a0.size : Int) ≤ 12 then ((iF18.f a0).bind fun t416 => (some t416)) else (some false)) = some r := h
 clear h
 by_cases c2 : (a0.size : Int) ≤ 12
 ·
  rw [if_pos c2] at H
  have c2b0 := dT_ c2
  have c2b1 : decide (a0.size ≤ 12) = true := dT_ (by omega)
  clear c2
  replace H := oB_.mp H
  obtain ⟨t416, A30, H⟩ := H
  try dsimp only at H
  have A3 := aM_ A30
  clear A30
  obtain rfl := Option.some.inj H
  go_enter Tryz.func60, Tryz.ntmps60
  go_wp2_with (first | (go_at_call 88; (with_reducible refine (iF18.calls a0 t416 _ A3.out).mono ?_); rintro e w4 ⟨rfl, hb⟩; replace HB := b4_ HB hb; (try clear hb)))
  go_ret
  exact ⟨by rfl, by exact HB.out⟩
 rw [if_neg c2] at H
 have c2b0 := dF_ c2
 have c2b1 : decide (a0.size ≤ 12) = false := dF_ (by omega)
 clear c2
 obtain rfl := Option.some.inj H
 go_enter Tryz.func60, Tryz.ntmps60
 go_wp2
 go_ret
 exact ⟨by rfl, by exact HB.out⟩
def iF25.es (F : Int → ByteArray → List ByteArray → Int → Option (Bool × List ByteArray × Int)) (pre : ByteArray) : List S88 → List ByteArray → Int → Option (Bool × List ByteArray × Int)
 | [], ws, left => some (true, ws, left)
 | e :: r, ws, left => (iF19.f e.f0 0 25).bind fun c => if c = true then (if pre.size ≤ 1000 then (F e.f1 (pre ++ strOfNums ([(wrap64 (97 + e.f0)) % 256] : List Int)) ws left).bind fun p => if p.1 = true then iF25.es F pre r p.2.1 p.2.2 else some (false, p.2.1, p.2.2) else none) else some (false, ws, left)
def iF25.v : Nat → List S72 → Int → ByteArray → List ByteArray → Int → Option (Bool × List ByteArray × Int)
 | 0, _, _, _, _, _ => none
 | k + 1, M, st, pre, ws, left => (iF19.f st 0 ((M.length : Int) - 1)).bind fun c => if c = true then (iF22.f pre).bind fun d => if d = true then (if left = 0 then some (false, ws, left) else if 0 < left ∧ left ≤ 1000000 ∧ ws.length ≤ 1000000 then iF25.es (iF25.v k M) pre (rd_T72 M st).f1 (if (rd_T72 M st).f0 = true then ws ++ [pre] else ws) (left - 1) else none) else some (false, ws, left) else some (false, ws, left)
def iF25.f (k : Nat) (a : Int) : Option Bool := some true
structure iF25.Inv (w0 W : World) (go : Nat) (A : Option Addr) (n cM : Nat) (vw : Value) (ws : List ByteArray) (left : Int) : Prop where
 ho : W.heap[go]? = some (.cells #[.slice A n cM, vw, .int .i64 left] 100 (0, 0))
 hw : Kd.R Kd.string 9 W w0.heap.size (fun _ => True) vw ws
 hB : Below w0.heap.size w0 W
 lo : w0.heap.size ≤ go
section
variable {w0 W W1 : World} {go : Nat} {A : Option Addr} {n cM : Nat} {vw : Value} {ws : List ByteArray} {left : Int}
theorem iF25.Inv.below (h : iF25.Inv w0 W go A n cM vw ws left) (hb : Below W.heap.size W W1) : iF25.Inv w0 W1 go A n cM vw ws left :=
 ⟨bB_ h.ho hb, kB_ h.hw hb, bT_ h.hB hb, h.lo⟩
theorem iF25.Inv.leftTo (h : iF25.Inv w0 W go A n cM vw ws left) (l2 : Int) : iF25.Inv w0 (W.setCell ⟨go, 2, none⟩ (.int .i64 l2)) go A n cM vw ws l2 :=
 ⟨bP_ h.ho 2 _ rfl, Kd.R_set h.hw h.ho (by decide) 2 _, bS_ h.hB h.lo, h.lo⟩
theorem iF25.Inv.words (h : iF25.Inv w0 W go A n cM vw ws left) {v1 : Value} {ws1 : List ByteArray} (hg : W.grownBy W1 vw.ownBlock) (hw : Kd.R Kd.string 9 W1 w0.heap.size (fun _ => True) v1 ws1) (hb : Below w0.heap.size w0 W1) : iF25.Inv w0 (W1.setCell ⟨go, 1, none⟩ v1) go A n cM v1 ws1 left := by
 have h1 : W1.heap[go]? = some (.cells #[.slice A n cM, vw, .int .i64 left] 100 (0, 0)) := blk_grown h.ho hg (k6_ h.hw h.ho (by decide))
 exact ⟨bP_ h1 1 _ rfl, Kd.R_set hw h1 (by decide) 1 _, bS_ hb h.lo, h.lo⟩
end
def iF25.T9 : Bool × List (List Nat × List Nat) := (true, [([], []), ([0], [0]), ([1], [1]), ([2], [2]), ([3, 2], [3]), ([4], [4]), ([4], [4]), ([6, 4], [4, 6]), ([4], [4]), ([4], [4]), ([9, 4], [4, 9]), ([10, 4, 4], [4, 10]), ([8, 11, 4], [4, 8, 11]), ([5, 7, 12, 11, 4], [4, 5, 7, 12]), ([13, 4], [4, 13]), ([4, 14], [4, 14])])
def iF25.B9 : List Nat := [0, 1, 3, 7, 15, 31, 31, 95, 31, 31, 543, 1567, 3871, 8191, 16383, 32767]
theorem iF25.tab9 : rtab .any (opsOf Tryz.f81 9) = iF25.T9 := by kernel_rfl
theorem iF25.bits9 : waitsOk iF25.T9.2 iF25.B9 = true := by kernel_rfl
theorem iF25.mono_es {F G : Int → ByteArray → List ByteArray → Int → Option (Bool × List ByteArray × Int)} (hF : ∀ a b c d, LeO (F a b c d) (G a b c d)) (pre : ByteArray) : ∀ l ws left, LeO (iF25.es F pre l ws left) (iF25.es G pre l ws left)
 | [], _, _ => l3_ _
 | e :: r, ws, left => by
  rw [iF25.es, iF25.es]
  exact l1_ (l3_ _) fun c => l2_ (l2_ (l1_ (hF _ _ _ _) fun p => l2_ (iF25.mono_es hF pre r _ _) (l3_ _)) (l0_ _)) (l3_ _)
theorem iF25.mono_v : ∀ k M st pre ws left, LeO (iF25.v k M st pre ws left) (iF25.v (k + 1) M st pre ws left)
 | 0, _, _, _, _, _ => fun r h => by cases h
 | k + 1, M, st, pre, ws, left => by
  rw [iF25.v, iF25.v]
  exact l1_ (l3_ _) fun c => l2_ (l1_ (l3_ _) fun d => l2_ (l2_ (l3_ _) (l2_ (iF25.mono_es (iF25.mono_v k M) _ _ _ _) (l0_ _))) (l3_ _)) (l3_ _)
theorem iF25.mono : ∀ a k, LeO (iF25.f k a) (iF25.f (k + 1) a) := fun _ _ => l3_ _
theorem iF25.calls (k : Nat) : ∀ (A : Option Addr) (cM : Nat) (M : List S72) (go : Nat) (vw : Value) (ws : List ByteArray) (left st : Int) (pre : ByteArray) (b : Bool) (ws2 : List ByteArray) (left2 : Int) (w0 W : World)
  (hM : Kd.C k72 w0 A M.length M) (hcM : M.length ≤ cM) (hI : iF25.Inv w0 W go A M.length cM vw ws left) (h : iF25.v k M st pre ws left = some (b, ws2, left2)),
  Calls Tryz.prog 81 #[.pointer (some ⟨go, 0, none⟩), .int .i64 st, .string pre] W fun e w' => ∃ vw2 : Value, e = .returned (.bool b) ∧ iF25.Inv w0 w' go A M.length cM vw2 ws2 left2 := by
 induction k with
 | zero => intro A cM M go vw ws left st pre b ws2 left2 w0 W hM hcM hI h; cases h
 | succ k ih =>
  intro A cM M go vw ws left st pre b ws2 left2 w0 W hM hcM hI h
  rw [iF25.v] at h
  have hml := hM.2.1
  have HM := aM_ hM
  have HCM := aM_ hcM
  have HI := aM_ hI
  have IH := aM_ ih
  clear ih hcM hM hI
  have e0 : wrap64 ((M.length : Int) - 1) = (M.length : Int) - 1 := (by unfold wrap64; omega)
  have h0c : W.cell? ⟨go, 0, none⟩ = some (.slice A M.length cM) := (bC_ HI.out.ho 0).trans rfl
  have h2c : W.cell? ⟨go, 2, none⟩ = some (.int .i64 left) := (bC_ HI.out.ho 2).trans rfl
  cases hc : iF19.f st 0 ((M.length : Int) - 1) with
  | none => rw [hc] at h; cases h
  | some c =>
  rw [hc, Option.bind_some] at h
  have HIN := aM_ hc
  clear hc
  cases c with
  | false =>
   rw [if_neg (by decide)] at h
   simp only [Option.some.injEq, Prod.mk.injEq] at h
   obtain ⟨rfl, rfl, rfl⟩ := h
   go_enter Tryz.func81, Tryz.ntmps81
   go_wp2_with fail
   refine (iF19.calls st 0 ((M.length : Int) - 1) false W HIN.out).mono ?_
   rintro e w' ⟨rfl, hd⟩
   have HI2 := aM_ (HI.out.below hd.below)
   clear hd HI h0c h2c
   go_wp2_with fail
   go_ret
   exact ⟨_, rfl, HI2.out⟩
  | true =>
  rw [if_pos rfl] at h
  cases hd : iF22.f pre with
  | none => rw [hd] at h; cases h
  | some d =>
  rw [hd, Option.bind_some] at h
  have HWD := aM_ hd
  clear hd
  cases d with
  | false =>
   rw [if_neg (by decide)] at h
   simp only [Option.some.injEq, Prod.mk.injEq] at h
   obtain ⟨rfl, rfl, rfl⟩ := h
   go_enter Tryz.func81, Tryz.ntmps81
   go_wp2_with fail
   refine (iF19.calls st 0 ((M.length : Int) - 1) true W HIN.out).mono ?_
   rintro e w' ⟨rfl, hd⟩
   have HI2 := aM_ (HI.out.below hd.below)
   clear hd HI h0c h2c
   go_wp2_with fail
   refine (iF22.calls pre false _ HWD.out).mono ?_
   rintro e w2 ⟨rfl, hd⟩
   have HI3 := aM_ (HI2.out.below hd)
   clear hd HI2
   go_wp2_with fail
   go_ret
   exact ⟨_, rfl, HI3.out⟩
  | true =>
  rw [if_pos rfl] at h
  by_cases hl0 : left = 0
  ·
   rw [if_pos hl0] at h
   simp only [Option.some.injEq, Prod.mk.injEq] at h
   obtain ⟨rfl, rfl, rfl⟩ := h
   have e1 : (left == 0) = true := beq_iff_eq.mpr hl0
   subst hl0
   go_enter Tryz.func81, Tryz.ntmps81
   go_wp2_with fail
   refine (iF19.calls st 0 ((M.length : Int) - 1) true W HIN.out).mono ?_
   rintro e w' ⟨rfl, hd⟩
   have HI2 := aM_ (HI.out.below hd.below)
   clear hd HI h0c h2c
   go_wp2_with fail
   refine (iF22.calls pre true _ HWD.out).mono ?_
   rintro e w2 ⟨rfl, hd⟩
   have HI3 := aM_ (HI2.out.below hd)
   clear hd HI2
   have h2c : w2.cell? ⟨go, 2, none⟩ = some (.int .i64 0) := (bC_ HI3.out.ho 2).trans rfl
   go_wp2_with fail
   go_ret
   exact ⟨_, rfl, HI3.out⟩
  rw [if_neg hl0] at h
  by_cases hcnd : 0 < left ∧ left ≤ 1000000 ∧ ws.length ≤ 1000000
  rotate_left
  ·
   rw [if_neg hcnd] at h; cases h
  rw [if_pos hcnd] at h
  have e1 : (left == 0) = false := beq_eq_false_iff_ne.mpr hl0
  have e2 : wrap64 (left - 1) = left - 1 := (by unfold wrap64; omega)
  have HL := aM_ hcnd
  have H := aM_ h
  clear h hl0 hcnd
  go_enter Tryz.func81, Tryz.ntmps81
  go_wp2_with fail
  refine (iF19.calls st 0 ((M.length : Int) - 1) true W HIN.out).mono ?_
  rintro e w' ⟨rfl, hd⟩
  have HI2 := aM_ (HI.out.below hd.below)
  clear hd HI h0c h2c
  go_wp2_with fail
  refine (iF22.calls pre true _ HWD.out).mono ?_
  rintro e w2 ⟨rfl, hd⟩
  have HI3 := aM_ (HI2.out.below hd)
  clear hd HI2
  have h2c : w2.cell? ⟨go, 2, none⟩ = some (.int .i64 left) := (bC_ HI3.out.ho 2).trans rfl
  have h2f := bF_ HI3.out.ho 2
  have HI4 := aM_ (HI3.out.leftTo (left - 1))
  have h0c : (w2.setCell ⟨go, 2, none⟩ (.int .i64 (left - 1))).cell? ⟨go, 0, none⟩ = some (.slice A M.length cM) := (bC_ HI4.out.ho 0).trans rfl
  have hst : 0 ≤ st ∧ st < (M.length : Int) := by
   have h9 := HIN.out
   unfold iF19.f at h9
   split at h9
   ·
    have := oD_ (Option.some.inj h9); omega
   cases h9
  obtain ⟨ad, A1, c1, ead, hd0, hd1, hd2, hd3⟩ := at_T72 HM.out st hst.1 hst.2
  subst ead
  have h0e : (w2.setCell ⟨go, 2, none⟩ (.int .i64 (left - 1))).cell? (ad.add (st.toNat * 2)) = some (.bool (rd_T72 M st).f0) := (HI4.out.hB.cell (wB_ w0 _ hd0)).trans hd0
  clear hd0 HI3
  go_upto_region 4 with fail
  obtain ⟨W4, hW4⟩ : ∃ W4, w2.setCell ⟨go, 2, none⟩ (.int .i64 (left - 1)) = W4 := ⟨_, rfl⟩
  rw [hW4] at HI4 h0c h0e ⊢
  clear hW4 h2c h2f
  obtain ⟨n, hn⟩ : ∃ n, (rd_T72 M st).f1.length = n := ⟨_, rfl⟩
  have HN := aM_ hn
  have HX := aM_ hd3
  rw [hn] at hd1
  clear hd3 hd2 hn
  have H1 := aM_ (And.intro (wB_ w0 _ hd1) hd1)
  clear hd1
  cases hend : (rd_T72 M st).f0 with
  | true =>
   rw [hend] at h0e
   have h9 := H.out
   rw [if_pos hend] at h9
   have H := aM_ h9
   clear h9 hend
   have h1c : W4.cell? ⟨go, 1, none⟩ = some vw := (bC_ HI4.out.ho 1).trans rfl
   go_wp2_with (first | ((with_reducible refine gate_builtin (b := .append) (xs := #[.tmp 51, .tmp 53]) rfl ?_); at_builtin; refine Kd.R_append Kd.string (W := W4) (w0 := w0) w0.heap.size rfl (.tmp 51) (.tmp 53) 51 9 (.string eB_) 16 rfl Tryz.underlying51 info9 rfl (by decide) (by omega) vw ws pre [.string pre] (fun _ => True) (fun _ => False) rfl rfl ?aP (fun _ hk => hk.elim) (fun _ _ => trivial) ?aO ?aB ?aS ?aL ?_; (case aP => exact rfl); (case aO => exact HI4.out.hw); (case aB => exact HI4.out.hB); (case aS => exact HI4.out.hB.size); (case aL => have := HL.out; omega); intro v1 w10 ho hb hg1 hat; obtain ⟨Av, cv, ev⟩ := kS_ ho; subst ev; rw [List.length_append, List.length_singleton] at ho; have hn1 := blk_grown HI4.out.ho hg1 (k6_ HI4.out.hw HI4.out.ho (by decide)); have h1d : w10.cell? ⟨go, 1, none⟩ = some vw := (bC_ hn1 1).trans rfl; have h1f := bF_ hn1 1; have HI6 := aM_ (HI4.out.words hg1 ho hb); clear ho hb hg1 hat hn1 h0c h1c h0e; have h1w : (w10.setCell ⟨go, 1, none⟩ (.slice Av (ws.length + 1) cv)).cell? ⟨(ad.add (st.toNat * 2)).block, (ad.add (st.toNat * 2)).off + 1, none⟩ = some (.slice A1 n c1) := (HI6.out.hB.cell H1.out.1).trans H1.out.2; have h0c : (w10.setCell ⟨go, 1, none⟩ (.slice Av (ws.length + 1) cv)).cell? ⟨go, 0, none⟩ = some (.slice (some ad) M.length cM) := (bC_ HI6.out.ho 0).trans rfl))
   have hnb : n ≤ 9223372036854775807 := by have h9 := HX.out.2.1; rw [HN.out] at h9; exact h9
   go_loopg [67] n (fun gg s67 wr => ∃ (i : Nat) (vwi : Value) (wsi : List ByteArray) (li : Int), i ≤ n ∧ n - i ≤ gg ∧ s67 = .int .i64 (i : Int) ∧ Aside0 (iF25.Inv w0 wr go (some ad) M.length cM vwi wsi li) ∧ Aside0 (iF25.es (iF25.v k M) pre ((rd_T72 M st).f1.drop i) wsi li = some (b, ws2, left2)))
   case atStart => exact ⟨0, _, _, _, Nat.zero_le _, by omega, rfl, HI6, ⟨H.out⟩⟩
   clear HI6 H
   obtain ⟨i, vwi, wsi, li, hi, hg, rfl, HI, H⟩ := hrel
   by_cases hlt : i < n
   rotate_left
   ·
    have hltz : ¬ (i : Int) < (n : Int) := by omega
    obtain rfl : i = n := by omega
    have hq := H.out
    rw [List.drop_eq_nil_of_le (by rw [HN.out]; exact Nat.le_refl _), iF25.es] at hq
    simp only [Option.some.injEq, Prod.mk.injEq] at hq
    obtain ⟨rfl, rfl, rfl⟩ := hq
    go_wp2_with fail
    go_ret
    first | exact ⟨_, rfl, HI.out⟩ | exact ⟨rfl, _, HI.out⟩
   have hltz : (i : Int) < (n : Int) := by omega
   obtain ⟨ae, eae, hx0, hx1⟩ := at_T88 HX.out (i : Int) (by omega) (by rw [HN.out]; omega)
   obtain ⟨x0, y0⟩ : ∃ x0, (rd_T88 (rd_T72 M st).f1 (i : Int)).f0 = x0 := ⟨_, rfl⟩
   obtain ⟨x1, y1⟩ : ∃ x1, (rd_T88 (rd_T72 M st).f1 (i : Int)).f1 = x1 := ⟨_, rfl⟩
   rw [y0] at hx0
   rw [y1] at hx1
   have hq := H.out
   have hil : i < (rd_T72 M st).f1.length := by rw [HN.out]; exact hlt
   have hei : (rd_T72 M st).f1[i] = ⟨x0, x1⟩ := by
    have e9 : rd_T88 (rd_T72 M st).f1 (i : Int) = (rd_T72 M st).f1[i] := by
     unfold rd_T88
     rw [Int.toNat_natCast, List.getD_eq_getElem?_getD, List.getElem?_eq_getElem hil]
     rfl
    rw [← e9, ← y0, ← y1]
   rw [List.drop_eq_getElem_cons hil, hei, iF25.es] at hq
   clear y0 y1 hei hil H
   subst eae
   have hx0w := (HI.out.hB.cell (wB_ w0 _ hx0)).trans hx0
   rw [Int.toNat_natCast] at hx0w
   have hx1w := (HI.out.hB.cell (wB_ w0 _ hx1)).trans hx1
   rw [Int.toNat_natCast] at hx1w
   clear hx0 hx1
   have he : (wr.alloc (.cells #[.int .i64 x0, .int .i64 x1] 88 (0, 0))).drew.heap[wr.heap.size]? = some (.cells #[.int .i64 x0, .int .i64 x1] 88 (0, 0)) := b1_ (blk_new _ _)
   have HE := aM_ he
   have HJ := aM_ (HI.out.below (bD_ ((Below.refl wr.heap.size wr).alloc (Nat.le_refl _) (.cells #[.int .i64 x0, .int .i64 x1] 88 (0, 0)))))
   clear he HI
   cases hc9 : iF19.f x0 0 25 with
   | none => rw [hc9] at hq; cases hq
   | some c9 =>
   rw [hc9, Option.bind_some] at hq
   have HC9 := aM_ hc9
   clear hc9
   cases c9 with
   | false =>
    rw [if_neg (by decide)] at hq
    simp only [Option.some.injEq, Prod.mk.injEq] at hq
    obtain ⟨rfl, rfl, rfl⟩ := hq
    go_wp2_with fail
    refine start_ (n := 16) (S := fun w' => w'.cell? ⟨wr.heap.size, 0, none⟩ = some (.int .i64 x0) ∧ w'.cell? ⟨wr.heap.size, 1, none⟩ = some (.int .i64 x1)) (ds := []) #[fy, fy, fy, fy, fy, fy, fy, fy, fy, fy, fy, fy, fy, fy, fy, fy] (by kernel_rfl) rfl rfl ⟨(bC_ HE.out 0).trans rfl, (bC_ HE.out 1).trans rfl⟩ (fun hHeld => ?_)
    refine with_tabW iF25.tab9 iF25.bits9 (fun HT_ HW_ => ?_)
    refine pu_ HT_ 0 71 #[ty, fy, fy, fy, fy, fy, fy, fy, fy, fy, fy, fy, fy, fy, fy, fy] ?_
    refine tk_ HT_ HW_ 1 72 #[ty, ty, fy, fy, fy, fy, fy, fy, fy, fy, fy, fy, fy, fy, fy, fy] hHeld ?_ (hr := by rintro w' ⟨s0, s1⟩; go_simp; with_reducible rfl)
    refine one_ (i := 2) (N := some 73) #[ty, ty, ty, fy, fy, fy, fy, fy, fy, fy, fy, fy, fy, fy, fy, fy] rfl rfl (one_of HT_.out (by kernel_rfl)) (by decide) (fun K hK => ?_)
    refine goes_ Tryz.func70 (by kernel_rfl) rfl #[.int .i64 x0, .int .i64 0, .int .i64 25] (by rfl) rfl rfl (by simp only [sD_, sE_, sF_]; rfl) ?_
    refine (iF19.calls x0 0 25 false _ HC9.out).mono ?_
    rintro e w3 ⟨rfl, hd⟩
    refine ⟨_, rfl, ?_⟩
    have HE2 := aM_ (bB_ HE.out hd.below)
    have HJ2 := aM_ (HJ.out.below hd.below)
    clear hd HE HJ
    refine hK.out _ _ ⟨(bC_ HE2.out 0).trans rfl, (bC_ HE2.out 1).trans rfl⟩ (fun hHeld => ?_)
    clear hK K
    refine norm_ (by show Act.put _ (some 73) _ = _; simp only [Act.put, sA_, sB_, sC_, i6_, i3_]; rfl) ?_
    refine pu_ HT_ 3 74 #[ty, ty, ty, ty, fy, fy, fy, fy, fy, fy, fy, fy, fy, fy, fy, fy] ?_
    refine pu_ HT_ 4 75 #[ty, ty, ty, ty, ty, fy, fy, fy, fy, fy, fy, fy, fy, fy, fy, fy] ?_
    refine pure_ (i := 5) (N := some 76) (v := undef) (a' := ?_) #[ty, ty, ty, ty, ty, ty, fy, fy, fy, fy, fy, fy, fy, fy, fy, fy] rfl rfl (aO_ HT_.out (by kernel_rfl)) (fun _ _ _ h => h) (Or.inr ⟨by rfl, rfl⟩) ?_ ?_
    rotate_left
    ·
     simp only [Act.put, sA_, sB_, sC_, i6_, i3_]
     rfl
    refine pure_ (i := 6) (N := some 77) (v := undef) (a' := ?_) #[ty, ty, ty, ty, ty, ty, ty, fy, fy, fy, fy, fy, fy, fy, fy, fy] rfl rfl (aO_ HT_.out (by kernel_rfl)) (fun _ _ _ h => h) (Or.inr ⟨by rfl, rfl⟩) ?_ ?_
    rotate_left
    ·
     simp only [Act.put, sA_, sB_, sC_, i6_, i3_]
     rfl
    refine pure_ (i := 7) (N := some 78) (v := undef) (a' := ?_) #[ty, ty, ty, ty, ty, ty, ty, ty, fy, fy, fy, fy, fy, fy, fy, fy] rfl rfl (aO_ HT_.out (by kernel_rfl)) (fun _ _ _ h => h) (Or.inr ⟨by rfl, rfl⟩) ?_ ?_
    rotate_left
    ·
     simp only [Act.put, sA_, sB_, sC_, i6_, i3_]
     rfl
    refine pure_ (i := 8) (N := some 79) (v := undef) (a' := ?_) #[ty, ty, ty, ty, ty, ty, ty, ty, ty, fy, fy, fy, fy, fy, fy, fy] rfl rfl (aO_ HT_.out (by kernel_rfl)) (fun _ _ _ h => h) (Or.inr ⟨by rfl, rfl⟩) ?_ ?_
    rotate_left
    ·
     simp only [Act.put, sA_, sB_, sC_, i6_, i3_]
     rfl
    refine pure_ (i := 9) (N := some 80) (v := undef) (a' := ?_) #[ty, ty, ty, ty, ty, ty, ty, ty, ty, ty, fy, fy, fy, fy, fy, fy] rfl rfl (aO_ HT_.out (by kernel_rfl)) (fun _ _ _ h => h) (Or.inr ⟨by rfl, rfl⟩) ?_ ?_
    rotate_left
    ·
     simp only [Act.put, sA_, sB_, sC_, i6_, i3_]
     rfl
    refine pure_ (i := 10) (N := some 81) (v := undef) (a' := ?_) #[ty, ty, ty, ty, ty, ty, ty, ty, ty, ty, ty, fy, fy, fy, fy, fy] rfl rfl (aO_ HT_.out (by kernel_rfl)) (fun _ _ _ h => h) (Or.inr ⟨by rfl, rfl⟩) ?_ ?_
    rotate_left
    ·
     simp only [Act.put, sA_, sB_, sC_, i6_, i3_]
     rfl
    refine pure_ (i := 11) (N := some 82) (v := undef) (a' := ?_) #[ty, ty, ty, ty, ty, ty, ty, ty, ty, ty, ty, ty, fy, fy, fy, fy] rfl rfl (aO_ HT_.out (by kernel_rfl)) (fun _ _ _ h => h) (Or.inr ⟨by rfl, rfl⟩) ?_ ?_
    rotate_left
    ·
     simp only [Act.put, sA_, sB_, sC_, i6_, i3_]
     rfl
    refine pure_ (i := 12) (N := some 83) (v := undef) (a' := ?_) #[ty, ty, ty, ty, ty, ty, ty, ty, ty, ty, ty, ty, ty, fy, fy, fy] rfl rfl (aO_ HT_.out (by kernel_rfl)) (fun _ _ _ h => h) (Or.inr ⟨by rfl, rfl⟩) ?_ ?_
    rotate_left
    ·
     simp only [Act.put, sA_, sB_, sC_, i6_, i3_]
     rfl
    refine pure_ (i := 13) (N := some 84) (v := undef) (a' := ?_) #[ty, ty, ty, ty, ty, ty, ty, ty, ty, ty, ty, ty, ty, ty, fy, fy] rfl rfl (aO_ HT_.out (by kernel_rfl)) (fun _ _ _ h => h) (Or.inr ⟨by rfl, rfl⟩) ?_ ?_
    rotate_left
    ·
     simp only [Act.put, sA_, sB_, sC_, i6_, i3_]
     rfl
    refine pure_ (i := 14) (N := some 85) (v := undef) (a' := ?_) #[ty, ty, ty, ty, ty, ty, ty, ty, ty, ty, ty, ty, ty, ty, ty, fy] rfl rfl (aO_ HT_.out (by kernel_rfl)) (fun _ _ _ h => h) (Or.inr ⟨by rfl, rfl⟩) ?_ ?_
    rotate_left
    ·
     simp only [Act.put, sA_, sB_, sC_, i6_, i3_]
     rfl
    refine pu_ HT_ 15 86 #[ty, ty, ty, ty, ty, ty, ty, ty, ty, ty, ty, ty, ty, ty, ty, ty] ?_
    refine done_ (done_of HT_.out (by kernel_rfl)) ?_
    go_wp2_with fail
    go_ret
    exact ⟨_, rfl, HJ2.out⟩
   | true =>
    rw [if_pos rfl] at hq
    by_cases hsz : pre.size ≤ 1000
    rotate_left
    ·
     rw [if_neg hsz] at hq; cases hq
    rw [if_pos hsz] at hq
    have hs1 : (strOfNums ([(wrap64 (97 + x0)) % 256] : List Int)).size = 1 := rfl
    have q0 : pre.size + (strOfNums ([(wrap64 (97 + x0)) % 256] : List Int)).size ≤ 9223372036854775807 := by rw [hs1]; omega
    have q1 := eq_true q0
    have q2 : decide (pre.size + (strOfNums ([(wrap64 (97 + x0)) % 256] : List Int)).size ≤ 9223372036854775807) = true := dT_ q0
    have q3 : (9223372036854775807 < pre.size + (strOfNums ([(wrap64 (97 + x0)) % 256] : List Int)).size) = False := eq_false (Nat.not_lt.2 q0)
    clear hs1 hsz
    cases hv : iF25.v k M x1 (pre ++ strOfNums ([(wrap64 (97 + x0)) % 256] : List Int)) wsi li with
    | none => rw [hv] at hq; cases hq
    | some p9 =>
    obtain ⟨pb, wp, lp⟩ := p9
    rw [hv, Option.bind_some] at hq
    have HV := aM_ hv
    clear hv
    cases pb with
    | false =>
     have hq2 : some (false, wp, lp) = some (b, ws2, left2) := hq
     clear hq
     simp only [Option.some.injEq, Prod.mk.injEq] at hq2
     obtain ⟨rfl, rfl, rfl⟩ := hq2
     go_wp2_with fail
     refine start_ (n := 16) (S := fun w' => w'.cell? ⟨wr.heap.size, 0, none⟩ = some (.int .i64 x0) ∧ w'.cell? ⟨wr.heap.size, 1, none⟩ = some (.int .i64 x1)) (ds := [13]) #[fy, fy, fy, fy, fy, fy, fy, fy, fy, fy, fy, fy, fy, fy, fy, fy] (by kernel_rfl) rfl rfl ⟨(bC_ HE.out 0).trans rfl, (bC_ HE.out 1).trans rfl⟩ (fun hHeld => ?_)
     refine with_tabW iF25.tab9 iF25.bits9 (fun HT_ HW_ => ?_)
     refine pu_ HT_ 0 71 #[ty, fy, fy, fy, fy, fy, fy, fy, fy, fy, fy, fy, fy, fy, fy, fy] ?_
     refine tk_ HT_ HW_ 1 72 #[ty, ty, fy, fy, fy, fy, fy, fy, fy, fy, fy, fy, fy, fy, fy, fy] hHeld ?_ (hr := by rintro w' ⟨s0, s1⟩; go_simp; with_reducible rfl)
     refine one_ (i := 2) (N := some 73) #[ty, ty, ty, fy, fy, fy, fy, fy, fy, fy, fy, fy, fy, fy, fy, fy] rfl rfl (one_of HT_.out (by kernel_rfl)) (by decide) (fun K hK => ?_)
     refine goes_ Tryz.func70 (by kernel_rfl) rfl #[.int .i64 x0, .int .i64 0, .int .i64 25] (by rfl) rfl rfl (by simp only [sD_, sE_, sF_]; rfl) ?_
     refine (iF19.calls x0 0 25 true _ HC9.out).mono ?_
     rintro e w3 ⟨rfl, hd⟩
     refine ⟨_, rfl, ?_⟩
     have HE2 := aM_ (bB_ HE.out hd.below)
     have HJ2 := aM_ (HJ.out.below hd.below)
     clear hd HE HJ
     refine hK.out _ _ ⟨(bC_ HE2.out 0).trans rfl, (bC_ HE2.out 1).trans rfl⟩ (fun hHeld => ?_)
     clear hK K
     refine norm_ (by show Act.put _ (some 73) _ = _; simp only [Act.put, sA_, sB_, sC_, i6_, i3_]; rfl) ?_
     refine pu_ HT_ 3 74 #[ty, ty, ty, ty, fy, fy, fy, fy, fy, fy, fy, fy, fy, fy, fy, fy] ?_
     refine pu_ HT_ 4 75 #[ty, ty, ty, ty, ty, fy, fy, fy, fy, fy, fy, fy, fy, fy, fy, fy] ?_
     refine pu_ HT_ 5 76 #[ty, ty, ty, ty, ty, ty, fy, fy, fy, fy, fy, fy, fy, fy, fy, fy] ?_
     refine pu_ HT_ 6 77 #[ty, ty, ty, ty, ty, ty, ty, fy, fy, fy, fy, fy, fy, fy, fy, fy] ?_
     refine pu_ HT_ 8 79 #[ty, ty, ty, ty, ty, ty, ty, fy, ty, fy, fy, fy, fy, fy, fy, fy] ?_
     refine pu_ HT_ 9 80 #[ty, ty, ty, ty, ty, ty, ty, fy, ty, ty, fy, fy, fy, fy, fy, fy] ?_
     refine tk_ HT_ HW_ 7 78 #[ty, ty, ty, ty, ty, ty, ty, ty, ty, ty, fy, fy, fy, fy, fy, fy] hHeld ?_ (hr := by rintro w' ⟨s0, s1⟩; go_simp; with_reducible rfl)
     refine tk_ HT_ HW_ 10 81 #[ty, ty, ty, ty, ty, ty, ty, ty, ty, ty, ty, fy, fy, fy, fy, fy] hHeld ?_ (hr := by rintro w' ⟨s0, s1⟩; go_simp; with_reducible rfl)
     refine one_ (i := 11) (N := some 82) #[ty, ty, ty, ty, ty, ty, ty, ty, ty, ty, ty, ty, fy, fy, fy, fy] rfl rfl (one_of HT_.out (by kernel_rfl)) (by decide) (fun K hK => ?_)
     refine goes_ Tryz.func106 (by kernel_rfl) rfl #[.int .i64 x0] (by rfl) rfl rfl (by simp only [sD_, sE_, sF_]; rfl) ?_
     refine (iF23.calls x0 _ _ rfl).mono ?_
     rintro e w4 ⟨rfl, hb⟩
     refine ⟨_, rfl, ?_⟩
     have HE3 := b5_ HE2 hb
     have HJ3 := aM_ (HJ2.out.below hb)
     clear hb HE2 HJ2
     refine hK.out _ _ ⟨(bC_ HE3.out 0).trans rfl, (bC_ HE3.out 1).trans rfl⟩ (fun hHeld => ?_)
     clear hK K
     refine norm_ (by show Act.put _ (some 82) _ = _; simp only [Act.put, sA_, sB_, sC_, i6_, i3_]; rfl) ?_
     refine pu_ HT_ 12 83 #[ty, ty, ty, ty, ty, ty, ty, ty, ty, ty, ty, ty, ty, fy, fy, fy] ?_
     refine last_ (i := 13) (N := some 84) #[ty, ty, ty, ty, ty, ty, ty, ty, ty, ty, ty, ty, ty, ty, fy, fy] rfl rfl (one_of HT_.out (by kernel_rfl)) (by decide) (fun K hK => ?_)
     refine goes_ Tryz.func81 (by kernel_rfl) rfl #[.pointer (some ⟨go, 0, none⟩), .int .i64 x1, .string (pre ++ strOfNums ([(wrap64 (97 + x0)) % 256] : List Int))] (by rfl) rfl rfl (by simp only [sD_, sE_, sF_]; rfl) ?_
     refine (IH.out (some ad) cM M go vwi wsi li x1 (pre ++ strOfNums ([(wrap64 (97 + x0)) % 256] : List Int)) false wp lp w0 _ HM.out HCM.out HJ3.out HV.out).mono ?_
     rintro e w5 ⟨vw5, rfl, hi5⟩
     refine ⟨_, rfl, ?_⟩
     have HJ4 := aM_ hi5
     clear hi5 HE3 HJ3
     refine hK.out _ _ ?_
     clear hK K
     refine norm_ (by show Act.put _ (some 84) _ = _; simp only [Act.put, sA_, sB_, sC_, i6_, i3_]; rfl) ?_
     refine pu_ HT_ 14 85 #[ty, ty, ty, ty, ty, ty, ty, ty, ty, ty, ty, ty, ty, ty, ty, fy] ?_
     refine pu_ HT_ 15 86 #[ty, ty, ty, ty, ty, ty, ty, ty, ty, ty, ty, ty, ty, ty, ty, ty] ?_
     refine done_ (done_of HT_.out (by kernel_rfl)) ?_
     go_wp2_with fail
     go_ret
     exact ⟨_, rfl, HJ4.out⟩
    | true =>
     have hq2 : iF25.es (iF25.v k M) pre ((rd_T72 M st).f1.drop (i + 1)) wp lp = some (b, ws2, left2) := hq
     have HQ := aM_ hq2
     clear hq hq2
     go_wp2_with fail
     refine start_ (n := 16) (S := fun w' => w'.cell? ⟨wr.heap.size, 0, none⟩ = some (.int .i64 x0) ∧ w'.cell? ⟨wr.heap.size, 1, none⟩ = some (.int .i64 x1)) (ds := [13]) #[fy, fy, fy, fy, fy, fy, fy, fy, fy, fy, fy, fy, fy, fy, fy, fy] (by kernel_rfl) rfl rfl ⟨(bC_ HE.out 0).trans rfl, (bC_ HE.out 1).trans rfl⟩ (fun hHeld => ?_)
     refine with_tabW iF25.tab9 iF25.bits9 (fun HT_ HW_ => ?_)
     refine pu_ HT_ 0 71 #[ty, fy, fy, fy, fy, fy, fy, fy, fy, fy, fy, fy, fy, fy, fy, fy] ?_
     refine tk_ HT_ HW_ 1 72 #[ty, ty, fy, fy, fy, fy, fy, fy, fy, fy, fy, fy, fy, fy, fy, fy] hHeld ?_ (hr := by rintro w' ⟨s0, s1⟩; go_simp; with_reducible rfl)
     refine one_ (i := 2) (N := some 73) #[ty, ty, ty, fy, fy, fy, fy, fy, fy, fy, fy, fy, fy, fy, fy, fy] rfl rfl (one_of HT_.out (by kernel_rfl)) (by decide) (fun K hK => ?_)
     refine goes_ Tryz.func70 (by kernel_rfl) rfl #[.int .i64 x0, .int .i64 0, .int .i64 25] (by rfl) rfl rfl (by simp only [sD_, sE_, sF_]; rfl) ?_
     refine (iF19.calls x0 0 25 true _ HC9.out).mono ?_
     rintro e w3 ⟨rfl, hd⟩
     refine ⟨_, rfl, ?_⟩
     have HE2 := aM_ (bB_ HE.out hd.below)
     have HJ2 := aM_ (HJ.out.below hd.below)
     clear hd HE HJ
     refine hK.out _ _ ⟨(bC_ HE2.out 0).trans rfl, (bC_ HE2.out 1).trans rfl⟩ (fun hHeld => ?_)
     clear hK K
     refine norm_ (by show Act.put _ (some 73) _ = _; simp only [Act.put, sA_, sB_, sC_, i6_, i3_]; rfl) ?_
     refine pu_ HT_ 3 74 #[ty, ty, ty, ty, fy, fy, fy, fy, fy, fy, fy, fy, fy, fy, fy, fy] ?_
     refine pu_ HT_ 4 75 #[ty, ty, ty, ty, ty, fy, fy, fy, fy, fy, fy, fy, fy, fy, fy, fy] ?_
     refine pu_ HT_ 5 76 #[ty, ty, ty, ty, ty, ty, fy, fy, fy, fy, fy, fy, fy, fy, fy, fy] ?_
     refine pu_ HT_ 6 77 #[ty, ty, ty, ty, ty, ty, ty, fy, fy, fy, fy, fy, fy, fy, fy, fy] ?_
     refine pu_ HT_ 8 79 #[ty, ty, ty, ty, ty, ty, ty, fy, ty, fy, fy, fy, fy, fy, fy, fy] ?_
     refine pu_ HT_ 9 80 #[ty, ty, ty, ty, ty, ty, ty, fy, ty, ty, fy, fy, fy, fy, fy, fy] ?_
     refine tk_ HT_ HW_ 7 78 #[ty, ty, ty, ty, ty, ty, ty, ty, ty, ty, fy, fy, fy, fy, fy, fy] hHeld ?_ (hr := by rintro w' ⟨s0, s1⟩; go_simp; with_reducible rfl)
     refine tk_ HT_ HW_ 10 81 #[ty, ty, ty, ty, ty, ty, ty, ty, ty, ty, ty, fy, fy, fy, fy, fy] hHeld ?_ (hr := by rintro w' ⟨s0, s1⟩; go_simp; with_reducible rfl)
     refine one_ (i := 11) (N := some 82) #[ty, ty, ty, ty, ty, ty, ty, ty, ty, ty, ty, ty, fy, fy, fy, fy] rfl rfl (one_of HT_.out (by kernel_rfl)) (by decide) (fun K hK => ?_)
     refine goes_ Tryz.func106 (by kernel_rfl) rfl #[.int .i64 x0] (by rfl) rfl rfl (by simp only [sD_, sE_, sF_]; rfl) ?_
     refine (iF23.calls x0 _ _ rfl).mono ?_
     rintro e w4 ⟨rfl, hb⟩
     refine ⟨_, rfl, ?_⟩
     have HE3 := b5_ HE2 hb
     have HJ3 := aM_ (HJ2.out.below hb)
     clear hb HE2 HJ2
     refine hK.out _ _ ⟨(bC_ HE3.out 0).trans rfl, (bC_ HE3.out 1).trans rfl⟩ (fun hHeld => ?_)
     clear hK K
     refine norm_ (by show Act.put _ (some 82) _ = _; simp only [Act.put, sA_, sB_, sC_, i6_, i3_]; rfl) ?_
     refine pu_ HT_ 12 83 #[ty, ty, ty, ty, ty, ty, ty, ty, ty, ty, ty, ty, ty, fy, fy, fy] ?_
     refine last_ (i := 13) (N := some 84) #[ty, ty, ty, ty, ty, ty, ty, ty, ty, ty, ty, ty, ty, ty, fy, fy] rfl rfl (one_of HT_.out (by kernel_rfl)) (by decide) (fun K hK => ?_)
     refine goes_ Tryz.func81 (by kernel_rfl) rfl #[.pointer (some ⟨go, 0, none⟩), .int .i64 x1, .string (pre ++ strOfNums ([(wrap64 (97 + x0)) % 256] : List Int))] (by rfl) rfl rfl (by simp only [sD_, sE_, sF_]; rfl) ?_
     refine (IH.out (some ad) cM M go vwi wsi li x1 (pre ++ strOfNums ([(wrap64 (97 + x0)) % 256] : List Int)) true wp lp w0 _ HM.out HCM.out HJ3.out HV.out).mono ?_
     rintro e w5 ⟨vw5, rfl, hi5⟩
     refine ⟨_, rfl, ?_⟩
     have HJ4 := aM_ hi5
     clear hi5 HE3 HJ3
     refine hK.out _ _ ?_
     clear hK K
     refine norm_ (by show Act.put _ (some 84) _ = _; simp only [Act.put, sA_, sB_, sC_, i6_, i3_]; rfl) ?_
     refine pu_ HT_ 14 85 #[ty, ty, ty, ty, ty, ty, ty, ty, ty, ty, ty, ty, ty, ty, ty, fy] ?_
     refine pu_ HT_ 15 86 #[ty, ty, ty, ty, ty, ty, ty, ty, ty, ty, ty, ty, ty, ty, ty, ty] ?_
     refine done_ (done_of HT_.out (by kernel_rfl)) ?_
     go_wp2_with fail
     go_roundg (n - (i + 1))
     case measure => omega
     case rel => exact ⟨i + 1, _, _, _, by omega, by omega, by go_num, HJ4, HQ⟩
  | false =>
   rw [hend] at h0e
   have h9 := H.out
   rw [hend, if_neg (by decide)] at h9
   have H := aM_ h9
   have HI6 := HI4
   have h1w : W4.cell? ⟨(ad.add (st.toNat * 2)).block, (ad.add (st.toNat * 2)).off + 1, none⟩ = some (.slice A1 n c1) := (HI6.out.hB.cell H1.out.1).trans H1.out.2
   clear h9 hend HI4
   go_wp2_with fail
   have hnb : n ≤ 9223372036854775807 := by have h9 := HX.out.2.1; rw [HN.out] at h9; exact h9
   go_loopg [67] n (fun gg s67 wr => ∃ (i : Nat) (vwi : Value) (wsi : List ByteArray) (li : Int), i ≤ n ∧ n - i ≤ gg ∧ s67 = .int .i64 (i : Int) ∧ Aside0 (iF25.Inv w0 wr go (some ad) M.length cM vwi wsi li) ∧ Aside0 (iF25.es (iF25.v k M) pre ((rd_T72 M st).f1.drop i) wsi li = some (b, ws2, left2)))
   case atStart => exact ⟨0, _, _, _, Nat.zero_le _, by omega, rfl, HI6, ⟨H.out⟩⟩
   clear HI6 H
   obtain ⟨i, vwi, wsi, li, hi, hg, rfl, HI, H⟩ := hrel
   by_cases hlt : i < n
   rotate_left
   ·
    have hltz : ¬ (i : Int) < (n : Int) := by omega
    obtain rfl : i = n := by omega
    have hq := H.out
    rw [List.drop_eq_nil_of_le (by rw [HN.out]; exact Nat.le_refl _), iF25.es] at hq
    simp only [Option.some.injEq, Prod.mk.injEq] at hq
    obtain ⟨rfl, rfl, rfl⟩ := hq
    go_wp2_with fail
    go_ret
    first | exact ⟨_, rfl, HI.out⟩ | exact ⟨rfl, _, HI.out⟩
   have hltz : (i : Int) < (n : Int) := by omega
   obtain ⟨ae, eae, hx0, hx1⟩ := at_T88 HX.out (i : Int) (by omega) (by rw [HN.out]; omega)
   obtain ⟨x0, y0⟩ : ∃ x0, (rd_T88 (rd_T72 M st).f1 (i : Int)).f0 = x0 := ⟨_, rfl⟩
   obtain ⟨x1, y1⟩ : ∃ x1, (rd_T88 (rd_T72 M st).f1 (i : Int)).f1 = x1 := ⟨_, rfl⟩
   rw [y0] at hx0
   rw [y1] at hx1
   have hq := H.out
   have hil : i < (rd_T72 M st).f1.length := by rw [HN.out]; exact hlt
   have hei : (rd_T72 M st).f1[i] = ⟨x0, x1⟩ := by
    have e9 : rd_T88 (rd_T72 M st).f1 (i : Int) = (rd_T72 M st).f1[i] := by
     unfold rd_T88
     rw [Int.toNat_natCast, List.getD_eq_getElem?_getD, List.getElem?_eq_getElem hil]
     rfl
    rw [← e9, ← y0, ← y1]
   rw [List.drop_eq_getElem_cons hil, hei, iF25.es] at hq
   clear y0 y1 hei hil H
   subst eae
   have hx0w := (HI.out.hB.cell (wB_ w0 _ hx0)).trans hx0
   rw [Int.toNat_natCast] at hx0w
   have hx1w := (HI.out.hB.cell (wB_ w0 _ hx1)).trans hx1
   rw [Int.toNat_natCast] at hx1w
   clear hx0 hx1
   have he : (wr.alloc (.cells #[.int .i64 x0, .int .i64 x1] 88 (0, 0))).drew.heap[wr.heap.size]? = some (.cells #[.int .i64 x0, .int .i64 x1] 88 (0, 0)) := b1_ (blk_new _ _)
   have HE := aM_ he
   have HJ := aM_ (HI.out.below (bD_ ((Below.refl wr.heap.size wr).alloc (Nat.le_refl _) (.cells #[.int .i64 x0, .int .i64 x1] 88 (0, 0)))))
   clear he HI
   cases hc9 : iF19.f x0 0 25 with
   | none => rw [hc9] at hq; cases hq
   | some c9 =>
   rw [hc9, Option.bind_some] at hq
   have HC9 := aM_ hc9
   clear hc9
   cases c9 with
   | false =>
    rw [if_neg (by decide)] at hq
    simp only [Option.some.injEq, Prod.mk.injEq] at hq
    obtain ⟨rfl, rfl, rfl⟩ := hq
    go_wp2_with fail
    refine start_ (n := 16) (S := fun w' => w'.cell? ⟨wr.heap.size, 0, none⟩ = some (.int .i64 x0) ∧ w'.cell? ⟨wr.heap.size, 1, none⟩ = some (.int .i64 x1)) (ds := []) #[fy, fy, fy, fy, fy, fy, fy, fy, fy, fy, fy, fy, fy, fy, fy, fy] (by kernel_rfl) rfl rfl ⟨(bC_ HE.out 0).trans rfl, (bC_ HE.out 1).trans rfl⟩ (fun hHeld => ?_)
    refine with_tabW iF25.tab9 iF25.bits9 (fun HT_ HW_ => ?_)
    refine pu_ HT_ 0 71 #[ty, fy, fy, fy, fy, fy, fy, fy, fy, fy, fy, fy, fy, fy, fy, fy] ?_
    refine tk_ HT_ HW_ 1 72 #[ty, ty, fy, fy, fy, fy, fy, fy, fy, fy, fy, fy, fy, fy, fy, fy] hHeld ?_ (hr := by rintro w' ⟨s0, s1⟩; go_simp; with_reducible rfl)
    refine one_ (i := 2) (N := some 73) #[ty, ty, ty, fy, fy, fy, fy, fy, fy, fy, fy, fy, fy, fy, fy, fy] rfl rfl (one_of HT_.out (by kernel_rfl)) (by decide) (fun K hK => ?_)
    refine goes_ Tryz.func70 (by kernel_rfl) rfl #[.int .i64 x0, .int .i64 0, .int .i64 25] (by rfl) rfl rfl (by simp only [sD_, sE_, sF_]; rfl) ?_
    refine (iF19.calls x0 0 25 false _ HC9.out).mono ?_
    rintro e w3 ⟨rfl, hd⟩
    refine ⟨_, rfl, ?_⟩
    have HE2 := aM_ (bB_ HE.out hd.below)
    have HJ2 := aM_ (HJ.out.below hd.below)
    clear hd HE HJ
    refine hK.out _ _ ⟨(bC_ HE2.out 0).trans rfl, (bC_ HE2.out 1).trans rfl⟩ (fun hHeld => ?_)
    clear hK K
    refine norm_ (by show Act.put _ (some 73) _ = _; simp only [Act.put, sA_, sB_, sC_, i6_, i3_]; rfl) ?_
    refine pu_ HT_ 3 74 #[ty, ty, ty, ty, fy, fy, fy, fy, fy, fy, fy, fy, fy, fy, fy, fy] ?_
    refine pu_ HT_ 4 75 #[ty, ty, ty, ty, ty, fy, fy, fy, fy, fy, fy, fy, fy, fy, fy, fy] ?_
    refine pure_ (i := 5) (N := some 76) (v := undef) (a' := ?_) #[ty, ty, ty, ty, ty, ty, fy, fy, fy, fy, fy, fy, fy, fy, fy, fy] rfl rfl (aO_ HT_.out (by kernel_rfl)) (fun _ _ _ h => h) (Or.inr ⟨by rfl, rfl⟩) ?_ ?_
    rotate_left
    ·
     simp only [Act.put, sA_, sB_, sC_, i6_, i3_]
     rfl
    refine pure_ (i := 6) (N := some 77) (v := undef) (a' := ?_) #[ty, ty, ty, ty, ty, ty, ty, fy, fy, fy, fy, fy, fy, fy, fy, fy] rfl rfl (aO_ HT_.out (by kernel_rfl)) (fun _ _ _ h => h) (Or.inr ⟨by rfl, rfl⟩) ?_ ?_
    rotate_left
    ·
     simp only [Act.put, sA_, sB_, sC_, i6_, i3_]
     rfl
    refine pure_ (i := 7) (N := some 78) (v := undef) (a' := ?_) #[ty, ty, ty, ty, ty, ty, ty, ty, fy, fy, fy, fy, fy, fy, fy, fy] rfl rfl (aO_ HT_.out (by kernel_rfl)) (fun _ _ _ h => h) (Or.inr ⟨by rfl, rfl⟩) ?_ ?_
    rotate_left
    ·
     simp only [Act.put, sA_, sB_, sC_, i6_, i3_]
     rfl
    refine pure_ (i := 8) (N := some 79) (v := undef) (a' := ?_) #[ty, ty, ty, ty, ty, ty, ty, ty, ty, fy, fy, fy, fy, fy, fy, fy] rfl rfl (aO_ HT_.out (by kernel_rfl)) (fun _ _ _ h => h) (Or.inr ⟨by rfl, rfl⟩) ?_ ?_
    rotate_left
    ·
     simp only [Act.put, sA_, sB_, sC_, i6_, i3_]
     rfl
    refine pure_ (i := 9) (N := some 80) (v := undef) (a' := ?_) #[ty, ty, ty, ty, ty, ty, ty, ty, ty, ty, fy, fy, fy, fy, fy, fy] rfl rfl (aO_ HT_.out (by kernel_rfl)) (fun _ _ _ h => h) (Or.inr ⟨by rfl, rfl⟩) ?_ ?_
    rotate_left
    ·
     simp only [Act.put, sA_, sB_, sC_, i6_, i3_]
     rfl
    refine pure_ (i := 10) (N := some 81) (v := undef) (a' := ?_) #[ty, ty, ty, ty, ty, ty, ty, ty, ty, ty, ty, fy, fy, fy, fy, fy] rfl rfl (aO_ HT_.out (by kernel_rfl)) (fun _ _ _ h => h) (Or.inr ⟨by rfl, rfl⟩) ?_ ?_
    rotate_left
    ·
     simp only [Act.put, sA_, sB_, sC_, i6_, i3_]
     rfl
    refine pure_ (i := 11) (N := some 82) (v := undef) (a' := ?_) #[ty, ty, ty, ty, ty, ty, ty, ty, ty, ty, ty, ty, fy, fy, fy, fy] rfl rfl (aO_ HT_.out (by kernel_rfl)) (fun _ _ _ h => h) (Or.inr ⟨by rfl, rfl⟩) ?_ ?_
    rotate_left
    ·
     simp only [Act.put, sA_, sB_, sC_, i6_, i3_]
     rfl
    refine pure_ (i := 12) (N := some 83) (v := undef) (a' := ?_) #[ty, ty, ty, ty, ty, ty, ty, ty, ty, ty, ty, ty, ty, fy, fy, fy] rfl rfl (aO_ HT_.out (by kernel_rfl)) (fun _ _ _ h => h) (Or.inr ⟨by rfl, rfl⟩) ?_ ?_
    rotate_left
    ·
     simp only [Act.put, sA_, sB_, sC_, i6_, i3_]
     rfl
    refine pure_ (i := 13) (N := some 84) (v := undef) (a' := ?_) #[ty, ty, ty, ty, ty, ty, ty, ty, ty, ty, ty, ty, ty, ty, fy, fy] rfl rfl (aO_ HT_.out (by kernel_rfl)) (fun _ _ _ h => h) (Or.inr ⟨by rfl, rfl⟩) ?_ ?_
    rotate_left
    ·
     simp only [Act.put, sA_, sB_, sC_, i6_, i3_]
     rfl
    refine pure_ (i := 14) (N := some 85) (v := undef) (a' := ?_) #[ty, ty, ty, ty, ty, ty, ty, ty, ty, ty, ty, ty, ty, ty, ty, fy] rfl rfl (aO_ HT_.out (by kernel_rfl)) (fun _ _ _ h => h) (Or.inr ⟨by rfl, rfl⟩) ?_ ?_
    rotate_left
    ·
     simp only [Act.put, sA_, sB_, sC_, i6_, i3_]
     rfl
    refine pu_ HT_ 15 86 #[ty, ty, ty, ty, ty, ty, ty, ty, ty, ty, ty, ty, ty, ty, ty, ty] ?_
    refine done_ (done_of HT_.out (by kernel_rfl)) ?_
    go_wp2_with fail
    go_ret
    exact ⟨_, rfl, HJ2.out⟩
   | true =>
    rw [if_pos rfl] at hq
    by_cases hsz : pre.size ≤ 1000
    rotate_left
    ·
     rw [if_neg hsz] at hq; cases hq
    rw [if_pos hsz] at hq
    have hs1 : (strOfNums ([(wrap64 (97 + x0)) % 256] : List Int)).size = 1 := rfl
    have q0 : pre.size + (strOfNums ([(wrap64 (97 + x0)) % 256] : List Int)).size ≤ 9223372036854775807 := by rw [hs1]; omega
    have q1 := eq_true q0
    have q2 : decide (pre.size + (strOfNums ([(wrap64 (97 + x0)) % 256] : List Int)).size ≤ 9223372036854775807) = true := dT_ q0
    have q3 : (9223372036854775807 < pre.size + (strOfNums ([(wrap64 (97 + x0)) % 256] : List Int)).size) = False := eq_false (Nat.not_lt.2 q0)
    clear hs1 hsz
    cases hv : iF25.v k M x1 (pre ++ strOfNums ([(wrap64 (97 + x0)) % 256] : List Int)) wsi li with
    | none => rw [hv] at hq; cases hq
    | some p9 =>
    obtain ⟨pb, wp, lp⟩ := p9
    rw [hv, Option.bind_some] at hq
    have HV := aM_ hv
    clear hv
    cases pb with
    | false =>
     have hq2 : some (false, wp, lp) = some (b, ws2, left2) := hq
     clear hq
     simp only [Option.some.injEq, Prod.mk.injEq] at hq2
     obtain ⟨rfl, rfl, rfl⟩ := hq2
     go_wp2_with fail
     refine start_ (n := 16) (S := fun w' => w'.cell? ⟨wr.heap.size, 0, none⟩ = some (.int .i64 x0) ∧ w'.cell? ⟨wr.heap.size, 1, none⟩ = some (.int .i64 x1)) (ds := [13]) #[fy, fy, fy, fy, fy, fy, fy, fy, fy, fy, fy, fy, fy, fy, fy, fy] (by kernel_rfl) rfl rfl ⟨(bC_ HE.out 0).trans rfl, (bC_ HE.out 1).trans rfl⟩ (fun hHeld => ?_)
     refine with_tabW iF25.tab9 iF25.bits9 (fun HT_ HW_ => ?_)
     refine pu_ HT_ 0 71 #[ty, fy, fy, fy, fy, fy, fy, fy, fy, fy, fy, fy, fy, fy, fy, fy] ?_
     refine tk_ HT_ HW_ 1 72 #[ty, ty, fy, fy, fy, fy, fy, fy, fy, fy, fy, fy, fy, fy, fy, fy] hHeld ?_ (hr := by rintro w' ⟨s0, s1⟩; go_simp; with_reducible rfl)
     refine one_ (i := 2) (N := some 73) #[ty, ty, ty, fy, fy, fy, fy, fy, fy, fy, fy, fy, fy, fy, fy, fy] rfl rfl (one_of HT_.out (by kernel_rfl)) (by decide) (fun K hK => ?_)
     refine goes_ Tryz.func70 (by kernel_rfl) rfl #[.int .i64 x0, .int .i64 0, .int .i64 25] (by rfl) rfl rfl (by simp only [sD_, sE_, sF_]; rfl) ?_
     refine (iF19.calls x0 0 25 true _ HC9.out).mono ?_
     rintro e w3 ⟨rfl, hd⟩
     refine ⟨_, rfl, ?_⟩
     have HE2 := aM_ (bB_ HE.out hd.below)
     have HJ2 := aM_ (HJ.out.below hd.below)
     clear hd HE HJ
     refine hK.out _ _ ⟨(bC_ HE2.out 0).trans rfl, (bC_ HE2.out 1).trans rfl⟩ (fun hHeld => ?_)
     clear hK K
     refine norm_ (by show Act.put _ (some 73) _ = _; simp only [Act.put, sA_, sB_, sC_, i6_, i3_]; rfl) ?_
     refine pu_ HT_ 3 74 #[ty, ty, ty, ty, fy, fy, fy, fy, fy, fy, fy, fy, fy, fy, fy, fy] ?_
     refine pu_ HT_ 4 75 #[ty, ty, ty, ty, ty, fy, fy, fy, fy, fy, fy, fy, fy, fy, fy, fy] ?_
     refine pu_ HT_ 5 76 #[ty, ty, ty, ty, ty, ty, fy, fy, fy, fy, fy, fy, fy, fy, fy, fy] ?_
     refine pu_ HT_ 6 77 #[ty, ty, ty, ty, ty, ty, ty, fy, fy, fy, fy, fy, fy, fy, fy, fy] ?_
     refine pu_ HT_ 8 79 #[ty, ty, ty, ty, ty, ty, ty, fy, ty, fy, fy, fy, fy, fy, fy, fy] ?_
     refine pu_ HT_ 9 80 #[ty, ty, ty, ty, ty, ty, ty, fy, ty, ty, fy, fy, fy, fy, fy, fy] ?_
     refine tk_ HT_ HW_ 7 78 #[ty, ty, ty, ty, ty, ty, ty, ty, ty, ty, fy, fy, fy, fy, fy, fy] hHeld ?_ (hr := by rintro w' ⟨s0, s1⟩; go_simp; with_reducible rfl)
     refine tk_ HT_ HW_ 10 81 #[ty, ty, ty, ty, ty, ty, ty, ty, ty, ty, ty, fy, fy, fy, fy, fy] hHeld ?_ (hr := by rintro w' ⟨s0, s1⟩; go_simp; with_reducible rfl)
     refine one_ (i := 11) (N := some 82) #[ty, ty, ty, ty, ty, ty, ty, ty, ty, ty, ty, ty, fy, fy, fy, fy] rfl rfl (one_of HT_.out (by kernel_rfl)) (by decide) (fun K hK => ?_)
     refine goes_ Tryz.func106 (by kernel_rfl) rfl #[.int .i64 x0] (by rfl) rfl rfl (by simp only [sD_, sE_, sF_]; rfl) ?_
     refine (iF23.calls x0 _ _ rfl).mono ?_
     rintro e w4 ⟨rfl, hb⟩
     refine ⟨_, rfl, ?_⟩
     have HE3 := b5_ HE2 hb
     have HJ3 := aM_ (HJ2.out.below hb)
     clear hb HE2 HJ2
     refine hK.out _ _ ⟨(bC_ HE3.out 0).trans rfl, (bC_ HE3.out 1).trans rfl⟩ (fun hHeld => ?_)
     clear hK K
     refine norm_ (by show Act.put _ (some 82) _ = _; simp only [Act.put, sA_, sB_, sC_, i6_, i3_]; rfl) ?_
     refine pu_ HT_ 12 83 #[ty, ty, ty, ty, ty, ty, ty, ty, ty, ty, ty, ty, ty, fy, fy, fy] ?_
     refine last_ (i := 13) (N := some 84) #[ty, ty, ty, ty, ty, ty, ty, ty, ty, ty, ty, ty, ty, ty, fy, fy] rfl rfl (one_of HT_.out (by kernel_rfl)) (by decide) (fun K hK => ?_)
     refine goes_ Tryz.func81 (by kernel_rfl) rfl #[.pointer (some ⟨go, 0, none⟩), .int .i64 x1, .string (pre ++ strOfNums ([(wrap64 (97 + x0)) % 256] : List Int))] (by rfl) rfl rfl (by simp only [sD_, sE_, sF_]; rfl) ?_
     refine (IH.out (some ad) cM M go vwi wsi li x1 (pre ++ strOfNums ([(wrap64 (97 + x0)) % 256] : List Int)) false wp lp w0 _ HM.out HCM.out HJ3.out HV.out).mono ?_
     rintro e w5 ⟨vw5, rfl, hi5⟩
     refine ⟨_, rfl, ?_⟩
     have HJ4 := aM_ hi5
     clear hi5 HE3 HJ3
     refine hK.out _ _ ?_
     clear hK K
     refine norm_ (by show Act.put _ (some 84) _ = _; simp only [Act.put, sA_, sB_, sC_, i6_, i3_]; rfl) ?_
     refine pu_ HT_ 14 85 #[ty, ty, ty, ty, ty, ty, ty, ty, ty, ty, ty, ty, ty, ty, ty, fy] ?_
     refine pu_ HT_ 15 86 #[ty, ty, ty, ty, ty, ty, ty, ty, ty, ty, ty, ty, ty, ty, ty, ty] ?_
     refine done_ (done_of HT_.out (by kernel_rfl)) ?_
     go_wp2_with fail
     go_ret
     exact ⟨_, rfl, HJ4.out⟩
    | true =>
     have hq2 : iF25.es (iF25.v k M) pre ((rd_T72 M st).f1.drop (i + 1)) wp lp = some (b, ws2, left2) := hq
     have HQ := aM_ hq2
     clear hq hq2
     go_wp2_with fail
     refine start_ (n := 16) (S := fun w' => w'.cell? ⟨wr.heap.size, 0, none⟩ = some (.int .i64 x0) ∧ w'.cell? ⟨wr.heap.size, 1, none⟩ = some (.int .i64 x1)) (ds := [13]) #[fy, fy, fy, fy, fy, fy, fy, fy, fy, fy, fy, fy, fy, fy, fy, fy] (by kernel_rfl) rfl rfl ⟨(bC_ HE.out 0).trans rfl, (bC_ HE.out 1).trans rfl⟩ (fun hHeld => ?_)
     refine with_tabW iF25.tab9 iF25.bits9 (fun HT_ HW_ => ?_)
     refine pu_ HT_ 0 71 #[ty, fy, fy, fy, fy, fy, fy, fy, fy, fy, fy, fy, fy, fy, fy, fy] ?_
     refine tk_ HT_ HW_ 1 72 #[ty, ty, fy, fy, fy, fy, fy, fy, fy, fy, fy, fy, fy, fy, fy, fy] hHeld ?_ (hr := by rintro w' ⟨s0, s1⟩; go_simp; with_reducible rfl)
     refine one_ (i := 2) (N := some 73) #[ty, ty, ty, fy, fy, fy, fy, fy, fy, fy, fy, fy, fy, fy, fy, fy] rfl rfl (one_of HT_.out (by kernel_rfl)) (by decide) (fun K hK => ?_)
     refine goes_ Tryz.func70 (by kernel_rfl) rfl #[.int .i64 x0, .int .i64 0, .int .i64 25] (by rfl) rfl rfl (by simp only [sD_, sE_, sF_]; rfl) ?_
     refine (iF19.calls x0 0 25 true _ HC9.out).mono ?_
     rintro e w3 ⟨rfl, hd⟩
     refine ⟨_, rfl, ?_⟩
     have HE2 := aM_ (bB_ HE.out hd.below)
     have HJ2 := aM_ (HJ.out.below hd.below)
     clear hd HE HJ
     refine hK.out _ _ ⟨(bC_ HE2.out 0).trans rfl, (bC_ HE2.out 1).trans rfl⟩ (fun hHeld => ?_)
     clear hK K
     refine norm_ (by show Act.put _ (some 73) _ = _; simp only [Act.put, sA_, sB_, sC_, i6_, i3_]; rfl) ?_
     refine pu_ HT_ 3 74 #[ty, ty, ty, ty, fy, fy, fy, fy, fy, fy, fy, fy, fy, fy, fy, fy] ?_
     refine pu_ HT_ 4 75 #[ty, ty, ty, ty, ty, fy, fy, fy, fy, fy, fy, fy, fy, fy, fy, fy] ?_
     refine pu_ HT_ 5 76 #[ty, ty, ty, ty, ty, ty, fy, fy, fy, fy, fy, fy, fy, fy, fy, fy] ?_
     refine pu_ HT_ 6 77 #[ty, ty, ty, ty, ty, ty, ty, fy, fy, fy, fy, fy, fy, fy, fy, fy] ?_
     refine pu_ HT_ 8 79 #[ty, ty, ty, ty, ty, ty, ty, fy, ty, fy, fy, fy, fy, fy, fy, fy] ?_
     refine pu_ HT_ 9 80 #[ty, ty, ty, ty, ty, ty, ty, fy, ty, ty, fy, fy, fy, fy, fy, fy] ?_
     refine tk_ HT_ HW_ 7 78 #[ty, ty, ty, ty, ty, ty, ty, ty, ty, ty, fy, fy, fy, fy, fy, fy] hHeld ?_ (hr := by rintro w' ⟨s0, s1⟩; go_simp; with_reducible rfl)
     refine tk_ HT_ HW_ 10 81 #[ty, ty, ty, ty, ty, ty, ty, ty, ty, ty, ty, fy, fy, fy, fy, fy] hHeld ?_ (hr := by rintro w' ⟨s0, s1⟩; go_simp; with_reducible rfl)
     refine one_ (i := 11) (N := some 82) #[ty, ty, ty, ty, ty, ty, ty, ty, ty, ty, ty, ty, fy, fy, fy, fy] rfl rfl (one_of HT_.out (by kernel_rfl)) (by decide) (fun K hK => ?_)
     refine goes_ Tryz.func106 (by kernel_rfl) rfl #[.int .i64 x0] (by rfl) rfl rfl (by simp only [sD_, sE_, sF_]; rfl) ?_
     refine (iF23.calls x0 _ _ rfl).mono ?_
     rintro e w4 ⟨rfl, hb⟩
     refine ⟨_, rfl, ?_⟩
     have HE3 := b5_ HE2 hb
     have HJ3 := aM_ (HJ2.out.below hb)
     clear hb HE2 HJ2
     refine hK.out _ _ ⟨(bC_ HE3.out 0).trans rfl, (bC_ HE3.out 1).trans rfl⟩ (fun hHeld => ?_)
     clear hK K
     refine norm_ (by show Act.put _ (some 82) _ = _; simp only [Act.put, sA_, sB_, sC_, i6_, i3_]; rfl) ?_
     refine pu_ HT_ 12 83 #[ty, ty, ty, ty, ty, ty, ty, ty, ty, ty, ty, ty, ty, fy, fy, fy] ?_
     refine last_ (i := 13) (N := some 84) #[ty, ty, ty, ty, ty, ty, ty, ty, ty, ty, ty, ty, ty, ty, fy, fy] rfl rfl (one_of HT_.out (by kernel_rfl)) (by decide) (fun K hK => ?_)
     refine goes_ Tryz.func81 (by kernel_rfl) rfl #[.pointer (some ⟨go, 0, none⟩), .int .i64 x1, .string (pre ++ strOfNums ([(wrap64 (97 + x0)) % 256] : List Int))] (by rfl) rfl rfl (by simp only [sD_, sE_, sF_]; rfl) ?_
     refine (IH.out (some ad) cM M go vwi wsi li x1 (pre ++ strOfNums ([(wrap64 (97 + x0)) % 256] : List Int)) true wp lp w0 _ HM.out HCM.out HJ3.out HV.out).mono ?_
     rintro e w5 ⟨vw5, rfl, hi5⟩
     refine ⟨_, rfl, ?_⟩
     have HJ4 := aM_ hi5
     clear hi5 HE3 HJ3
     refine hK.out _ _ ?_
     clear hK K
     refine norm_ (by show Act.put _ (some 84) _ = _; simp only [Act.put, sA_, sB_, sC_, i6_, i3_]; rfl) ?_
     refine pu_ HT_ 14 85 #[ty, ty, ty, ty, ty, ty, ty, ty, ty, ty, ty, ty, ty, ty, ty, fy] ?_
     refine pu_ HT_ 15 86 #[ty, ty, ty, ty, ty, ty, ty, ty, ty, ty, ty, ty, ty, ty, ty, ty] ?_
     refine done_ (done_of HT_.out (by kernel_rfl)) ?_
     go_wp2_with fail
     go_roundg (n - (i + 1))
     case measure => omega
     case rel => exact ⟨i + 1, _, _, _, by omega, by omega, by go_num, HJ4, HQ⟩
end Go.Proofs.YtnnkedeohfbkeaaGreatDoor.P
namespace Go.Proofs
open Go.Shelf
def Tryz.lays190_ren : Go.Shelf.Ren := ⟨fun | 190 => 138 | 125 => 146 | 258 => 145 | 128 => 158 | 129 => 159 | 302 => 150 | 303 => 151 | 304 => 152 | 305 => 153 | 306 => 154 | 307 => 155 | 308 => 116 | 309 => 156 | 310 => 157 | 333 => 164 | 329 => 165 | 330 => 166 | 334 => 167 | 335 => 168 | 336 => 135 | 344 => 170 | n => n, fun | 31 => 51 | 9 => 9 | 3 => 3 | 46 => 126 | 0 => 0 | 51 => 160 | 53 => 162 | 4 => 4 | 183 => 154 | 182 => 153 | 131 => 41 | 5 => 5 | 218 => 171 | 222 => 175 | 228 => 177 | 229 => 178 | n => n, fun | n => n⟩
theorem Tryz.lays190 : Go.Proofs.Lays.n190 Tryz.prog Tryz.lays190_ren := {
  mixed := by kernel_rfl
  f125 := Tryz.func146.trans (congrArg some (by kernel_rfl))
  f128 := Tryz.func158.trans (congrArg some (by kernel_rfl))
  f129 := Tryz.func159.trans (congrArg some (by kernel_rfl))
  f190 := Tryz.func138.trans (congrArg some (by kernel_rfl))
  f258 := Tryz.func145.trans (congrArg some (by kernel_rfl))
  f302 := Tryz.func150.trans (congrArg some (by kernel_rfl))
  f303 := Tryz.func151.trans (congrArg some (by kernel_rfl))
  f304 := Tryz.func152.trans (congrArg some (by kernel_rfl))
  f305 := Tryz.func153.trans (congrArg some (by kernel_rfl))
  f306 := Tryz.func154.trans (congrArg some (by kernel_rfl))
  f307 := Tryz.func155.trans (congrArg some (by kernel_rfl))
  f308 := Tryz.func116.trans (congrArg some (by kernel_rfl))
  f309 := Tryz.func156.trans (congrArg some (by kernel_rfl))
  f310 := Tryz.func157.trans (congrArg some (by kernel_rfl))
  f329 := Tryz.func165.trans (congrArg some (by kernel_rfl))
  f330 := Tryz.func166.trans (congrArg some (by kernel_rfl))
  f333 := Tryz.func164.trans (congrArg some (by kernel_rfl))
  f334 := Tryz.func167.trans (congrArg some (by kernel_rfl))
  f335 := Tryz.func168.trans (congrArg some (by kernel_rfl))
  f336 := Tryz.func135.trans (congrArg some (by kernel_rfl))
  f344 := Tryz.func170.trans (congrArg some (by kernel_rfl))
  t0 := Tryz.underlying0
  a0 := Tryz.isAgg0
  z0 := Tryz.sizeOf0
  v0 := Tryz.zeroValue0
  t3 := Tryz.underlying3
  a3 := Tryz.isAgg3
  z3 := Tryz.sizeOf3
  v3 := Tryz.zeroValue3
  t4 := Tryz.underlying4
  a4 := Tryz.isAgg4
  z4 := Tryz.sizeOf4
  v4 := Tryz.zeroValue4
  t5 := Tryz.underlying5
  a5 := Tryz.isAgg5
  z5 := Tryz.sizeOf5
  v5 := Tryz.zeroValue5
  t9 := Tryz.underlying9
  a9 := Tryz.isAgg9
  z9 := Tryz.sizeOf9
  v9 := Tryz.zeroValue9
  t31 := Tryz.underlying51
  a31 := Tryz.isAgg51
  z31 := Tryz.sizeOf51
  v31 := Tryz.zeroValue51
  t46 := Tryz.underlying126
  a46 := Tryz.isAgg126
  z46 := Tryz.sizeOf126
  v46 := Tryz.zeroValue126
  t51 := Tryz.underlying160
  a51 := Tryz.isAgg160
  z51 := Tryz.sizeOf160
  v51 := Tryz.zeroValue160
  t53 := Tryz.underlying162
  a53 := Tryz.isAgg162
  z53 := Tryz.sizeOf162
  v53 := Tryz.zeroValue162
  t131 := Tryz.underlying41
  a131 := Tryz.isAgg41
  z131 := Tryz.sizeOf41
  v131 := Tryz.zeroValue41
  t182 := Tryz.underlying153
  a182 := Tryz.isAgg153
  z182 := Tryz.sizeOf153
  v182 := Tryz.zeroValue153
  t183 := Tryz.underlying154
  a183 := Tryz.isAgg154
  z183 := Tryz.sizeOf154
  v183 := Tryz.zeroValue154
  t218 := Tryz.underlying171
  a218 := Tryz.isAgg171
  z218 := Tryz.sizeOf171
  v218 := Tryz.zeroValue171
  t222 := Tryz.underlying175
  a222 := Tryz.isAgg175
  z222 := Tryz.sizeOf175
  v222 := Tryz.zeroValue175
  t228 := Tryz.underlying177
  a228 := Tryz.isAgg177
  z228 := Tryz.sizeOf177
  v228 := Tryz.zeroValue177
  t229 := Tryz.underlying178
  a229 := Tryz.isAgg178
  z229 := Tryz.sizeOf178
  v229 := Tryz.zeroValue178 }
def Tryz.lays194_ren : Go.Shelf.Ren := ⟨fun | 194 => 123 | n => n, fun | 31 => 51 | 9 => 9 | 3 => 3 | 4 => 4 | 0 => 0 | n => n, fun | n => n⟩
theorem Tryz.lays194 : Go.Proofs.Lays.n194 Tryz.prog Tryz.lays194_ren := {
  mixed := by kernel_rfl
  f194 := Tryz.func123.trans (congrArg some (by kernel_rfl))
  t0 := Tryz.underlying0
  a0 := Tryz.isAgg0
  z0 := Tryz.sizeOf0
  v0 := Tryz.zeroValue0
  t3 := Tryz.underlying3
  a3 := Tryz.isAgg3
  z3 := Tryz.sizeOf3
  v3 := Tryz.zeroValue3
  t4 := Tryz.underlying4
  a4 := Tryz.isAgg4
  z4 := Tryz.sizeOf4
  v4 := Tryz.zeroValue4
  t9 := Tryz.underlying9
  a9 := Tryz.isAgg9
  z9 := Tryz.sizeOf9
  v9 := Tryz.zeroValue9
  t31 := Tryz.underlying51
  a31 := Tryz.isAgg51
  z31 := Tryz.sizeOf51
  v31 := Tryz.zeroValue51 }
end Go.Proofs
namespace Go.Proofs.YtnnkedeohfbkeaaGreatDoor.P
open Go.RowKit Go.Proofs.YtnnkedeohfbkeaaGreatDoorW.PrintWords Go.Proofs.YtnnkedeohfbkeaaGreatDoorW.PrintLast Go.Proofs.YtnnkedeohfbkeaaGreatDoorW.PrintMore
attribute [local go_sem] max2_int min2_int max_two min_two max_three min_three max_four min_four
open Go.Shelf Go.Sort
attribute [local go_sem] Oper.semAt_some
namespace SV
def upto {α : Type} (f : Nat → α) (k : Nat) : List α := (List.range k).map f
theorem upto_succ {α : Type} (f : Nat → α) (k : Nat) : upto f (k + 1) = upto f k ++ [f k] := by simp [upto, List.range_succ]
theorem upto_length {α : Type} (f : Nat → α) (k : Nat) : (upto f k).length = k := by simp [upto]
theorem upto_all (zs : List (List UInt8)) : upto (fun j => zs[j]?.getD []) zs.length = zs := by
 apply List.ext_getElem
 ·
  simp [upto]
 intro i h1 h2
 simp [upto, h2]
theorem upto_take (zs : List (List UInt8)) {k : Nat} (hk : k ≤ zs.length) : upto (fun j => zs[j]?.getD []) k = zs.take k := by
 apply List.ext_getElem
 ·
  simp [upto, hk]
 intro i h1 h2
 have : i < zs.length := by simp [upto] at h1; omega
 simp [upto, this]
set_option maxHeartbeats 2000000 in
theorem values1_in (F : Fence) (n : Nat) (h7 : F.fn 139) (hro : F.round = none) (hn : 1 ≤ n) (l Bs n₀ : Nat) (ad : Addr) (len cap : Nat) (zs : List (List UInt8)) (hreach : len * 8 ≤ 140737488351232) (hb : ad.block < n₀) (J Jx : List (List UInt8) → World → Prop)
  (hY : ∀ pre x W, J pre W → pre.length < len → YieldAt F (n - 1) Tryz.prog l #[encStr x] W fun e W' =>
   (e = .returned (.bool true) ∧ J (pre ++ [x]) W' ∧ Below n₀ W W') ∨ (e = .returned (.bool false) ∧ Jx (pre ++ [x]) W'))
  (W : World) (hBs : W.cell? ⟨Bs, 0, none⟩ = some (.slice (some ad) len cap)) (hc : ∀ j, j < len → W.cell? (ad.add j) = some (encStr (zs[j]?.getD []))) (h0 : J [] W) :
  CallsIn F n Tryz.prog 139 #[.func (.yield l) #[] #[], .pointer (some ⟨Bs, 0, none⟩)] W fun e W' => (∃ v, e = .returned v) ∧
   ((∃ ys, ys = upto (fun j => zs[j]?.getD []) len ∧ J ys W') ∨ (∃ pre, (∃ k, k ≤ len ∧ pre = upto (fun j => zs[j]?.getD []) k) ∧ Jx pre W')) := by
 refine callsIn_of_wp Tryz.func139 rfl h7 ?_ hro
 simp only [Tryz.ntmps139, List.size_toArray, List.length_cons, List.length_nil, Nat.reduceAdd, Nat.reduceSub, Array.replicate_succ, Array.replicate_zero, List.push_toArray, List.append_toArray, List.nil_append, List.cons_append]
 gi_wp2
 gi_loopw [7] (fun i wr => ∃ k : Nat, k ≤ len ∧ i = .int .i64 k ∧ J (upto (fun j => zs[j]?.getD []) k) wr ∧ Below n₀ W wr)
  (fun i _ => len - (intOf i).toNat)
 case atStart => exact ⟨0, Nat.zero_le _, rfl, h0, Below.refl _ _⟩
 obtain ⟨k, hk, rfl, hJs, hnx⟩ := hrel
 have hcx : k < len → wr.cell? (ad.add k) = some (encStr (zs[k]?.getD [])) := fun h => (hnx.cell (p := ad.add k) (by rw [add_block]; exact hb)).trans (hc k h)
 by_cases hlt : k < len
 ·
  obtain ⟨fn, tmps, assign, body, hy, hR⟩ := hY _ (zs[k]?.getD []) wr hJs (by rw [upto_length]; exact hlt)
  have hcx' := hcx hlt
  gi_wp2
  refine hR.mono ?_
  rintro e W3 (⟨rfl, hJ3, hk3⟩ | ⟨rfl, hJx3⟩)
  ·
   gi_wp2
   go_roundw
   case rel => exact ⟨k + 1, by omega, by simp, by rw [upto_succ]; exact hJ3, hnx.trans hk3⟩
   case measure => simp [intOf]; omega
  gi_wp2
  refine bodyPost_ret (results_none rfl _ _ _) rfl ?_
  exact ⟨⟨_, rfl⟩, .inr ⟨_, ⟨k + 1, by omega, (upto_succ _ _).symm⟩, hJx3⟩⟩
 obtain rfl : k = len := by omega
 gi_wp2
 go_end0
 exact ⟨⟨_, rfl⟩, .inl ⟨_, rfl, hJs⟩⟩
end SV
namespace SV
def xF4 (n₀ : Nat) (W : World) (a : Option Addr) (zs : List (List UInt8)) : Prop :=
 zs = [] ∨ ∃ ad : Addr, a = some ad ∧ ad.block < n₀ ∧ ∀ j, j < zs.length → W.cell? (ad.add j) = some (encStr (zs[j]?.getD []))
theorem xF4.below {n₀ : Nat} {A B : World} (h : Below n₀ A B) {a : Option Addr} {zs : List (List UInt8)} : xF4 n₀ A a zs → xF4 n₀ B a zs
 | .inl e => .inl e
 | .inr ⟨ad, e, hb, hc⟩ => .inr ⟨ad, e, hb, fun j hj => (h.cell (p := ad.add j) (by rw [add_block]; exact hb)).trans (hc j hj)⟩
set_option maxHeartbeats 1000000 in
theorem values1_nil_in (F : Fence) (n : Nat) (h7 : F.fn 139) (hro : F.round = none) (l Bs : Nat) (a : Option Addr) (c : Nat) (J : List (List UInt8) → World → Prop) (W : World) (hBs : W.cell? ⟨Bs, 0, none⟩ = some (.slice a 0 c)) (h0 : J [] W) :
  CallsIn F n Tryz.prog 139 #[.func (.yield l) #[] #[], .pointer (some ⟨Bs, 0, none⟩)] W fun e W' => (∃ v, e = .returned v) ∧ J [] W' := by
 refine callsIn_of_wp Tryz.func139 rfl h7 ?_ hro
 simp only [Tryz.ntmps139, List.size_toArray, List.length_cons, List.length_nil, Nat.reduceAdd, Nat.reduceSub, Array.replicate_succ, Array.replicate_zero, List.push_toArray, List.append_toArray, List.nil_append, List.cons_append]
 gi_wp2
 gi_loopw [7] (fun i wr => i = .int .i64 0 ∧ J [] wr) (fun _ _ => 0)
 case atStart => exact ⟨rfl, h0⟩
 obtain ⟨rfl, hJs⟩ := hrel
 gi_wp2
 go_end0
 exact ⟨⟨_, rfl⟩, hJs⟩
theorem values_stops (F : Fence) (n : Nat) (h7 : F.fn 139) (hro : F.round = none) (hn : 1 ≤ n) (Bs n₀ : Nat) (a : Option Addr) (c : Nat) (zs : List (List UInt8)) (hreach : zs.length * 8 ≤ 140737488351232) (w : World) (hBs : Bs < w.heap.size) (hn₀ : n₀ ≤ w.heap.size)
  (hc : w.cell? ⟨Bs, 0, none⟩ = some (.slice a zs.length c)) (hI : xF4 n₀ w a zs) :
  SeqStopsK F n Tryz.prog 139 #[.pointer (some ⟨Bs, 0, none⟩)] (fun x : List UInt8 => #[encStr x]) (Below n₀) (fun ys => ys = zs) (fun pre => pre <+: zs) zs.length w := fun l J Jx W hW _ _ hY h0 => by
 have hc' := (hW.cell (p := ⟨Bs, 0, none⟩) hBs).trans hc
 rcases hI.below (hW.mono hn₀) with rfl | ⟨ad, rfl, hb, hcs⟩
 ·
  exact (values1_nil_in F n h7 hro l Bs a c J W hc' h0).mono fun e W' ⟨he, hj⟩ => ⟨he, .inl ⟨_, rfl, hj⟩⟩
 refine (values1_in F n h7 hro hn l Bs n₀ ad zs.length c zs hreach hb J Jx hY W hc' hcs h0).mono ?_
 rintro e W' ⟨he, ⟨ys, rfl, hj⟩ | ⟨pre, ⟨k, hk, rfl⟩, hj⟩⟩
 ·
  exact ⟨he, .inl ⟨_, upto_all zs, hj⟩⟩
 exact ⟨he, .inr ⟨_, by rw [upto_take zs hk]; exact List.take_prefix _ _, hj⟩⟩
theorem infoS : (Tryz.prog.info? 9).map (fun i => (i.zero, i.size, i.bytes)) = some (some (.string ⟨#[]⟩), 1, 16) := by kernel_rfl
set_option maxHeartbeats 2000000 in
theorem AppendSeq_in (F : Fence) (n : Nat) (h3 : F.fn 144) (h5 : F.fn 139) (hro : F.round = none) (hn : 3 ≤ n) (Bs : Nat) (a : Option Addr) (c : Nat) (zs : List (List UInt8)) (hlen : zs.length ≤ 4294967296) (w : World) (hBs : Bs < w.heap.size) (hc : w.cell? ⟨Bs, 0, none⟩ = some (.slice a zs.length c)) (hL : xF4 w.heap.size w a zs) :
  CallsIn F n Tryz.prog 144 #[.slice none 0 0, .func (.func 139) #[] #[.pointer (some ⟨Bs, 0, none⟩)]] w fun e W' => ∃ v, e = .returned v ∧ W'.ownsRow w.heap.size 9 1 v zs.length (zs.map encStr) ∧ (v = .slice none 0 0 ↔ zs = []) ∧ Below w.heap.size w W' := by
 have h1 : 1 ≤ n := by omega
 obtain ⟨i0, hi, hz0, hz1, hz2⟩ := info_parts infoS
 refine callsIn_of_wp_marks Tryz.func144 rfl h3 ?_ hro
 simp only [Tryz.ntmps144, List.size_toArray, List.length_cons, List.length_nil, Nat.reduceAdd, Nat.reduceSub, Array.replicate_succ, Array.replicate_zero, List.push_toArray, List.append_toArray, List.nil_append, List.cons_append]
 gi_wp2
 have bO := Boxed.new w 51 (.slice none 0 0)
 have hB0 : Below w.heap.size w (w.alloc (.cells #[.slice none 0 0] 51)) := (Below.refl _ w).alloc (Nat.le_refl _) _
 have hcb : (w.alloc (.cells #[.slice none 0 0] 51)).cell? ⟨Bs, 0, none⟩ = some (.slice a zs.length c) := (hB0.cell (p := ⟨Bs, 0, none⟩) hBs).trans hc
 refine wpIn_rangeFunc_ownG hro h1 (gf := 139) (lb := #[.pointer (some ⟨Bs, 0, none⟩)]) rfl h5 (enters_of Tryz.func139 (by kernel_rfl) rfl)
  (values_stops F (n - 1) h5 hro (by omega) Bs w.heap.size a c zs (by omega) _ (by simp; omega) (by simp) hcb (hL.below hB0)) belowK_t (belowK_b (by simp)) (Below.refl _ _) (fun _ => rfl)
  (fun pre W => (∃ v, Boxed W w.heap.size 51 v ∧ W.ownsRow w.heap.size 9 1 v pre.length (pre.map encStr) ∧ (v = .slice none 0 0 ↔ pre = [])) ∧ Below w.heap.size w W)
  (fun _ _ _ => False)
  (OwnFrom.and (Own.from (holdsRow_own w.heap.size w.heap.size 51 9 1 (fun pre => pre.length) (fun pre => pre.map encStr) (fun pre v => v = .slice none 0 0 ↔ pre = [])) _) (ownFrom_below (Nat.le_refl _) (by simp)))
  (fun _ _ _ _ _ hs _ _ => hs)
  ⟨⟨_, bO, World.ownsRow_nil _ _ _ _, by simp⟩, hB0⟩
  (fun x => { tmps := #[.slice none 0 0, .func (.func 139) #[] #[.pointer (some ⟨Bs, 0, none⟩)], .pointer (some ⟨w.heap.size, 0, none⟩), undef, .slice none 0 0, encStr x, .func (.func 139) #[] #[.pointer (some ⟨Bs, 0, none⟩)], encStr x, undef, undef, undef, undef, undef], defers := [] }) ?assign ?body ?done ?stop
 case assign =>
  intro l x W K hK
  gi_wp2
  exact hK
 case body =>
  rintro l pre x W ⟨⟨v, hv, hrow, hnil⟩, hB⟩ hlt
  have hc := hv.cell
  gi_wp2_with (gi_at_builtin; refine wpListIn_append_own _ rfl _ _ 51 rfl w.heap.size 9 i0 (.string ⟨#[]⟩) 1 16 Tryz.underlying51 hi hz0 hz1 hz2 rfl (by decide) _ _ _ rfl (hrow.alloc _) ⟨W.heap.size, 0, none⟩ 1 1 [encStr x] rfl rfl (cell_one_new _ _ _) (by simp [Value.oneCell', encStr]) (by unfold maxLen; omega) (by omega) (by have := hB.size; simp; omega) ?_; intro v' w1 hown' hgrow _; obtain ⟨g', cap', rfl⟩ := ownsRow_succ hown'; obtain ⟨hv1, hv2, hr2, hk2, hb2⟩ := hv.appended (by decide) hrow hB.size (Nat.le_refl _) hown' hgrow; have hc1 := hv1.cell; have hf1 := hv1.frozen)
  exact ⟨hk2.from _, hb2, ⟨_, hv2, by simpa using hr2, by simp⟩, hB.trans hb2⟩
 case stop =>
  rintro D c pre W _ _ h _
  exact h.elim
 rintro D ys W hD rfl ⟨⟨v, hv, hrow, hnil⟩, hB⟩ hK
 have hc := hv.cell
 gi_wp2
 refine ⟨by simp, .inl ⟨_, _, rfl, run_takeDeferred hK, ?_⟩⟩
 exact ⟨_, results_tmp rfl _ _ _, v, rfl, ownsRow_putObj hrow _ hK rfl, hnil, hB.trans (belowK_b (w := w) (Nat.le_refl _) W D _ _ (by simp at hD; omega) hK rfl rfl)⟩
end SV
namespace SV
set_option maxHeartbeats 1000000 in
theorem Collect_calls (Bs : Nat) (a : Option Addr) (c : Nat) (zs : List (List UInt8)) (hlen : zs.length ≤ 4294967296) (w : World) (hBs : Bs < w.heap.size) (hc : w.cell? ⟨Bs, 0, none⟩ = some (.slice a zs.length c)) (hL : xF4 w.heap.size w a zs) :
  Calls Tryz.prog 137 #[.func (.func 139) #[] #[.pointer (some ⟨Bs, 0, none⟩)]] w fun e W' => ∃ v, e = .returned v ∧ W'.ownsRow w.heap.size 9 1 v zs.length (zs.map encStr) ∧ (v = .slice none 0 0 ↔ zs = []) ∧ Below w.heap.size w W' := by
 have HA := Aside0.mk ((callsIn_wide (n := 5)).1 (AppendSeq_in Fence.wide 5 trivial trivial rfl (by omega) Bs a c zs hlen w hBs hc hL))
 clear hc hL
 go_enter Tryz.func137, Tryz.ntmps137
 go_wp2_with fail
 refine HA.out.mono ?_
 clear HA
 rintro e w' ⟨v, rfl, hrow, hnil, hb⟩
 have H := Aside0.mk (And.intro hrow (And.intro hnil hb))
 clear hrow hnil hb
 go_wp2_with fail
 go_ret
 exact ⟨v, rfl, H.out.1, H.out.2.1, H.out.2.2⟩
def srt (zs : List (List UInt8)) : List (List UInt8) := zs.mergeSort fun x y => decide (x ≤ y)
theorem srt_length (zs : List (List UInt8)) : (srt zs).length = zs.length := List.length_mergeSort zs
set_option maxHeartbeats 2000000 in
theorem Sorted_calls (Bs : Nat) (a : Option Addr) (c : Nat) (zs : List (List UInt8)) (hlen : zs.length ≤ 4294967296) (w : World) (hBs : Bs < w.heap.size) (hc : w.cell? ⟨Bs, 0, none⟩ = some (.slice a zs.length c)) (hL : xF4 w.heap.size w a zs) :
  Calls Tryz.prog 124 #[.func (.func 139) #[] #[.pointer (some ⟨Bs, 0, none⟩)]] w fun e W' => ∃ v, e = .returned v ∧ W'.ownsRow w.heap.size 9 1 v (srt zs).length ((srt zs).map encStr) ∧ (v = .slice none 0 0 ↔ zs = []) ∧ Below w.heap.size w W' := by
 have HA := Aside0.mk (Collect_calls Bs a c zs hlen w hBs hc hL)
 clear hc hL
 go_enter Tryz.func124, Tryz.ntmps124
 go_wp2_with fail
 refine HA.out.mono ?_
 clear HA
 rintro e W ⟨v, rfl, hrow, hnil, hb⟩
 rcases hrow.2 with ⟨rfl, hz⟩ | ⟨gb, cap, cur, rfl, hbase, hgb, r1, r2, r3, r4⟩
 ·
  have hss : zs = [] := List.eq_nil_of_length_eq_zero hz
  have H := Aside0.mk (And.intro hrow hb)
  clear hrow hb hnil hz
  go_wp2_with fail
  refine (Go.Proofs.Any.slices_Sort_string_none Go.Proofs.Tryz.lays190 none 0 _).mono ?_
  rintro e w' ⟨rfl, rfl⟩
  go_wp2_with fail
  go_ret
  subst hss
  exact ⟨.slice none 0 0, rfl, by simpa [srt] using H.out.1, by simp, H.out.2⟩
 have hH : Holds encStr W gb 0 zs.toArray := holds_of_block hgb (by simpa using r4)
 have hgl : gb < W.heap.size := (Array.getElem?_eq_some_iff.1 hgb).1
 have HS := Aside0.mk (Go.Proofs.Any.slices_Sort_string Go.Proofs.Tryz.lays190 gb 0 cap zs W hH hgl (by omega))
 have H := Aside0.mk (And.intro hb (And.intro hbase (And.intro hgb (And.intro r1 (And.intro r2 r3)))))
 have HN := Aside0.mk (show zs ≠ [] from fun e => by have := hnil.2 e; cases this)
 clear hrow hb hnil hH hgl hgb r1 r2 r3 r4 hbase
 go_wp2_with fail
 refine HS.out.mono ?_
 clear HS
 rintro e w' ⟨rfl, nn, os, rfl⟩
 go_wp2_with fail
 go_ret
 obtain ⟨hb, hbase, hgb, r1, r2, r3⟩ := H.out
 exact ⟨_, rfl, by rw [srt_length]; exact ownsRow_sorted (by simp) hbase hgb r1 r2 r3, ⟨(fun e => by cases e), fun e => absurd e HN.out⟩, hb.grown (grownBy_sorted _) hb.size (fun j hj => by cases hj; exact hbase)⟩
end SV
namespace SV
theorem xF4.mono {n₀ n₁ : Nat} (h : n₀ ≤ n₁) {W : World} {a : Option Addr} {zs : List (List UInt8)} : xF4 n₀ W a zs → xF4 n₁ W a zs
 | .inl e => .inl e
 | .inr ⟨ad, e, hb, hc⟩ => .inr ⟨ad, e, Nat.lt_of_lt_of_le hb h, hc⟩
set_option maxHeartbeats 1000000 in
theorem Values_calls (a : Option Addr) (n c : Nat) (w : World) :
  Calls Tryz.prog 125 #[.slice a n c] w fun e w' => e = .returned (.func (.func 139) #[] #[.pointer (some ⟨w.heap.size, 0, none⟩)]) ∧ w' = w.alloc (.cells #[.slice a n c] 51) := by
 go_enter Tryz.func125, Tryz.ntmps125
 go_wp2
 go_ret
 exact ⟨rfl, rfl⟩
theorem Compact_calls {w : World} {base : Nat} {v : Value} {ss : List (List UInt8)} (hrow : w.ownsRow base 9 1 v ss.length (ss.map encStr)) (A : Option Addr) (c : Nat) (hv : v = .slice A ss.length c) (hlen : ss.length ≤ 4294967296) :
  Calls Tryz.prog 123 #[.slice A ss.length c] w fun e w' => ∃ v', e = .returned v' ∧ w'.ownsRow base 9 1 v' (Go.Lib.compact ss).length ((Go.Lib.compact ss).map encStr) ∧ (∀ b, b ≤ base → b ≤ w.heap.size → Below b w w') := by
 rcases hrow.2 with ⟨h1, hz⟩ | ⟨g, cap, cur, h1, hbase, hgb, r1, r2, r3, r4⟩
 ·
  have hss : ss = [] := List.eq_nil_of_length_eq_zero hz
  subst hss
  rw [h1] at hv; cases hv
  refine (Go.Proofs.Any.slices_Compact_string_empty Go.Proofs.Tryz.lays194 none 0 w).mono ?_
  rintro e w' ⟨rfl, rfl⟩
  exact ⟨_, rfl, World.ownsRow_nil _ _ _ _, fun b _ _ => Below.refl _ _⟩
 rw [h1] at hv; cases hv
 have hH : Holds encStr w g 0 ss.toArray := holds_of_block hgb (by simpa using r4)
 have hcap : ss.length ≤ c := by omega
 refine (Go.Proofs.Any.slices_Compact_string Go.Proofs.Tryz.lays194 g 0 c ss w hH (by omega) hcap).mono ?_
 rintro e w' ⟨rfl, q, rfl⟩
 rw [h1] at hrow
 have hle := Go.Lib.compact_length_le ss
 have hc := Go.Lib.ownsRow_putRow (q := q) (k := (Go.Lib.compact ss).length) (ys := Go.Lib.compact ss ++ List.replicate (ss.length - (Go.Lib.compact ss).length) []) hrow (by simp; omega) (by omega)
 rw [List.take_left] at hc
 exact ⟨_, rfl, hc, fun b hb hb2 => Go.Lib.below_putRow (Below.refl _ _) (Nat.le_trans hb hbase)⟩
end SV
end Go.Proofs.YtnnkedeohfbkeaaGreatDoor.P
namespace Go.Proofs.YtnnkedeohfbkeaaGreatDoor.P
open Go.RowKit Go.Proofs.YtnnkedeohfbkeaaGreatDoorW.PrintWords Go.Proofs.YtnnkedeohfbkeaaGreatDoorW.PrintLast Go.Proofs.YtnnkedeohfbkeaaGreatDoorW.PrintMore
open Go.Proofs.YtnnkedeohfbkeaaGreatDoorW.PrintWords renaming blk_frozen → bF_, blk_cell → bC_, below_set → bS_, blk_below → bB_, below_step → bT_, pw_below_drewN → bN_, below_size → bZ_, below_drew1 → bD_, below_alloc → bA_, blk_far → bR_, gate_callee → gC_, gate_dst → gD_, box_event → bE_, blk_drew → b1_, blk_put → bP_, blk_drewN → b2_, blk_alloc → b3_, blk_lt → bL_, cell_far → cF_
open Go.Proofs.YtnnkedeohfbkeaaGreatDoorW.PrintLast renaming any_of → aO_, i64_w → i6_, i32_w → i3_, take_ofW → tW_
open Go.Proofs.YtnnkedeohfbkeaaGreatDoorW.PrintWords.Kd renaming R_below → kB_, R_mono → kM_, R_far → kF_, R_reads' → kR_, R_types → kT_, R_slice → kS_, R_celln → kC_, R_alloc → k1_, R_drewN → k2_, R_drew → k3_, C_below → k4_, R_lower → k5_, R_ne → k6_, own_blk → k7_
open Go.Proofs.YtnnkedeohfbkeaaGreatDoorW.PrintWords.LeO renaming none → l0_, bind → l1_, ite → l2_, refl → l3_
open World renaming block_lt_of_cell? → wB_
open _root_.Option renaming bind_eq_some_iff → oB_
open _root_.ByteArray renaming empty → eB_
open List renaming setIfInBounds_toArray → sA_, set_cons_zero → sB_, set_cons_succ → sC_, map_toArray → sD_, map_cons → sE_, map_nil → sF_, length_drop → sG_, length_take → sH_
open Bool renaming true → ty, false → fy
open Aside0 renaming mk → aM_
attribute [local go_sem] max2_int min2_int max_two min_two max_three min_three max_four min_four
def iF27.f (l0 : List ByteArray) : Option (List ByteArray) := if l0.length ≤ 4294967296 then some ((Go.Lib.compact ((l0.map fun s => s.data.toList).mergeSort fun x y => decide (x ≤ y))).map fun l => (⟨l.toArray⟩ : ByteArray)) else none
theorem iF27.strs {w : World} {A0 : Option Addr} {l0 : List ByteArray} (hr : Kd.C Kd.string w A0 l0.length l0) : SV.xF4 w.heap.size w A0 (l0.map fun s => s.data.toList) := by
 cases l0 with
 | nil => exact .inl rfl
 | cons x l =>
  obtain ⟨ad, e, h0⟩ := Kd.at_string hr 0 (by omega) (by simp)
  have hall : ∀ j, j < (x :: l).length → w.cell? (ad.add j) = some (.string ((x :: l).getD j eB_)) := by
   intro j hj
   obtain ⟨ad', e', h'⟩ := Kd.at_string hr j (by omega) (by omega)
   rw [e] at e'; cases e'
   simpa [rdOf] using h'
  refine .inr ⟨ad, e, by have := wB_ w _ h0; rwa [add_block] at this, fun j hj => ?_⟩
  rw [hall j (by simpa using hj)]
  have hj' : j < (x :: l).length := by simpa using hj
  simp only [Go.Proofs.encStr, List.getElem?_map, List.getD_eq_getElem?_getD, List.getElem?_eq_getElem hj', Option.map_some, Option.getD_some]
theorem iF27.encs_eq (zs : List (List UInt8)) : encs Value.string (zs.map fun l => (⟨l.toArray⟩ : ByteArray)) = zs.map Go.Proofs.encStr := by
 simp [encs, Go.Proofs.encStr, Function.comp_def]
set_option maxHeartbeats 2000000 in
theorem iF27.calls (A0 : Option Addr) (c0 : Nat) (l0 : List ByteArray) (r : List ByteArray) (w : World) (hr0 : Kd.C Kd.string w A0 l0.length l0) (hc0 : l0.length ≤ c0) (h : iF27.f l0 = some r) :
  Calls Tryz.prog 107 #[.slice A0 l0.length c0] w fun e w' => ∃ v0_ : Value, e = .returned (v0_) ∧ Kd.R Kd.string 9 w' w.heap.size (fun _ => True) v0_ r ∧ Below w.heap.size w w' := by
 unfold iF27.f at h
 by_cases hlen : l0.length ≤ 4294967296
 rotate_left
 ·
  rw [if_neg hlen] at h; cases h
 rw [if_pos hlen] at h
 obtain ⟨zs, hzs⟩ : ∃ zs, zs = l0.map fun s => s.data.toList := ⟨_, rfl⟩
 have hzl : zs.length = l0.length := by rw [hzs]; simp
 have HS := aM_ (show SV.xF4 w.heap.size w A0 zs from hzs ▸ iF27.strs hr0)
 have HR := aM_ (show (Go.Lib.compact (SV.srt zs)).map (fun l => (⟨l.toArray⟩ : ByteArray)) = r from by rw [hzs]; exact Option.some.inj h)
 have HL := aM_ hzl
 have HN := aM_ hlen
 clear hr0 hc0 h hzs hzl hlen
 go_enter Tryz.func107, Tryz.ntmps107
 go_wp2_with fail
 refine (SV.Values_calls A0 l0.length c0 w).mono ?_
 rintro e w1 ⟨rfl, rfl⟩
 have hb1 : Below w.heap.size w (w.alloc (.cells #[.slice A0 l0.length c0] 51)) := (Below.refl _ w).alloc (Nat.le_refl _) _
 have HX := aM_ (SV.Sorted_calls w.heap.size A0 c0 zs (by rw [HL.out]; exact HN.out) (w.alloc (.cells #[.slice A0 l0.length c0] 51)) (by simp) (by rw [HL.out]; simp) ((HS.out.below hb1).mono (by simp)))
 have HB1 := aM_ hb1
 clear hb1
 go_wp2_with fail
 refine HX.out.mono ?_
 clear HX
 rintro e W ⟨v, rfl, hrow, hnil, hb⟩
 obtain ⟨A, c, hv⟩ := own_slice hrow
 have HB2 := aM_ (HB1.out.trans (hb.mono (by simp)))
 have HC := aM_ (SV.Compact_calls hrow A c hv (by rw [SV.srt_length, HL.out]; exact HN.out))
 have HZ := aM_ hb.size
 subst hv
 clear hrow hnil hb
 go_wp2_with fail
 refine HC.out.mono ?_
 clear HC
 rintro e W2 ⟨v2, rfl, hrow2, hb2⟩
 have H2 := aM_ (And.intro hrow2 hb2)
 clear hrow2 hb2
 go_wp2_with fail
 go_ret
 refine ⟨v2, rfl, ?_, HB2.out.trans (H2.out.2 _ (by simp) HB2.out.size)⟩
 rw [← HR.out]
 refine k5_ (Kd.R_of_own (h1 := fun _ => rfl) ?_ (fun _ _ => trivial)) (show w.heap.size ≤ (w.alloc (.cells #[.slice A0 l0.length c0] 51)).heap.size from by simp)
 rw [iF27.encs_eq, List.length_map]
 exact H2.out.1
def xF6.f (a0 : ByteArray) : Option (Bool) := some (a0.toList != a0.toList)
theorem xF6.calls (a0 : ByteArray) (r : Bool) (w : World) (h : xF6.f a0 = some r) :
  Calls Tryz.prog 135 #[.string a0] w fun e w' => e = .returned (.bool r) ∧ Drawn0 w w' := by
 have H : (some (a0.toList != a0.toList)) = some r := h
 clear h
 obtain rfl := Option.some.inj H
 go_enter Tryz.func135, Tryz.ntmps135
 go_wp2
 go_ret
 exact ⟨by rfl, by repeat (first | exact Drawn0.refl _ | apply Drawn0.step)⟩
def xF5.f (a0 : ByteArray) (a1 : ByteArray) : Option (Bool) := (xF6.f a0).bind fun t417 => (if t417 = true then ((xF6.f a1).bind fun t418 => (if t418 = true then (some (Op.bytesLess a0.toList a1.toList)) else (some true))) else (some (Op.bytesLess a0.toList a1.toList)))
theorem xF5.calls (a0 : ByteArray) (a1 : ByteArray) (r : Bool) (w : World) (h : xF5.f a0 a1 = some r) :
  Calls Tryz.prog 116 #[.string a0, .string a1] w fun e w' => e = .returned (.bool r) ∧ Drawn0 w w' := by
 have H : ((xF6.f a0).bind fun t417 => (if t417 = true then ((xF6.f a1).bind fun t418 => (if t418 = true then (some (Op.bytesLess a0.toList a1.toList)) else (some true))) else (some (Op.bytesLess a0.toList a1.toList)))) = some r := h
 clear h
 replace H := oB_.mp H
 obtain ⟨t417, A30, H⟩ := H
 try dsimp only at H
 have A3 := aM_ A30
 clear A30
 by_cases c4 : t417 = true
 rotate_left
 ·
  replace c4 := Bool.eq_false_iff.mpr c4
  subst c4
  replace H : (some (Op.bytesLess a0.toList a1.toList)) = some r := by rw [if_neg (show ¬ (false = true) by decide)] at H; exact H
  obtain rfl := Option.some.inj H
  go_enter Tryz.func116, Tryz.ntmps116
  go_wp2_with (first | (refine gs_ 6 Tryz.func135 #[.string a0] ?_; (with_reducible refine (xF6.calls a0 false _ A3.out).mono ?_); rintro e w' ⟨rfl, ⟨nd, rfl⟩⟩; refine ⟨_, rfl, ?_⟩))
  go_ret
  exact ⟨by rfl, by repeat (first | exact Drawn0.refl _ | apply Drawn0.step)⟩
 subst c4
 rw [if_pos rfl] at H
 replace H := oB_.mp H
 obtain ⟨t418, A50, H⟩ := H
 try dsimp only at H
 have A5 := aM_ A50
 clear A50
 by_cases c6 : t418 = true
 ·
  subst c6
  rw [if_pos rfl] at H
  obtain rfl := Option.some.inj H
  go_enter Tryz.func116, Tryz.ntmps116
  go_wp2_with (first | (refine gs_ 6 Tryz.func135 #[.string a0] ?_; (with_reducible refine (xF6.calls a0 true _ A3.out).mono ?_); rintro e w' ⟨rfl, ⟨nd, rfl⟩⟩; refine ⟨_, rfl, ?_⟩) | (go_at_call 135; (with_reducible refine (xF6.calls a1 true _ A5.out).mono ?_); rintro e w' ⟨rfl, ⟨nd, rfl⟩⟩))
  go_ret
  exact ⟨by rfl, by repeat (first | exact Drawn0.refl _ | apply Drawn0.step)⟩
 replace c6 := Bool.eq_false_iff.mpr c6
 subst c6
 replace H : (some true) = some r := by rw [if_neg (show ¬ (false = true) by decide)] at H; exact H
 obtain rfl := Option.some.inj H
 go_enter Tryz.func116, Tryz.ntmps116
 go_wp2_with (first | (refine gs_ 6 Tryz.func135 #[.string a0] ?_; (with_reducible refine (xF6.calls a0 true _ A3.out).mono ?_); rintro e w' ⟨rfl, ⟨nd, rfl⟩⟩; refine ⟨_, rfl, ?_⟩) | (go_at_call 135; (with_reducible refine (xF6.calls a1 false _ A5.out).mono ?_); rintro e w' ⟨rfl, ⟨nd, rfl⟩⟩))
 go_ret
 exact ⟨by rfl, by repeat (first | exact Drawn0.refl _ | apply Drawn0.step)⟩
def xF52.f (a0 : ByteArray) : Option (Bool) := some (a0.toList != a0.toList)
theorem xF52.calls (a0 : ByteArray) (r : Bool) (w : World) (h : xF52.f a0 = some r) :
  Calls Tryz.prog 117 #[.string a0] w fun e w' => e = .returned (.bool r) ∧ Drawn0 w w' := by
 have H : (some (a0.toList != a0.toList)) = some r := h
 clear h
 obtain rfl := Option.some.inj H
 go_enter Tryz.func117, Tryz.ntmps117
 go_wp2
 go_ret
 exact ⟨by rfl, by repeat (first | exact Drawn0.refl _ | apply Drawn0.step)⟩
def xF47.l0 : Nat → List ByteArray → ByteArray → Int → Int → Int → Option (Int × Bool)
 | 0, _, _, _, _, _ => none
 | k + 1, x0, x1, x6, x7, x8 => if x7 < x8 then (if 0 ≤ (wrap64 ((IntKind.u64.wrap (wrap64 (x7 + x8))) / 2)) then (if (wrap64 ((IntKind.u64.wrap (wrap64 (x7 + x8))) / 2)) < (x0.length : Int) then ((xF5.f (rdOf eB_ x0 (wrap64 ((IntKind.u64.wrap (wrap64 (x7 + x8))) / 2))) x1).bind fun t420 => (if t420 = true then (xF47.l0 k x0 x1 x6 (wrap64 ((wrap64 ((IntKind.u64.wrap (wrap64 (x7 + x8))) / 2)) + 1)) x8) else (xF47.l0 k x0 x1 x6 x7 (wrap64 ((IntKind.u64.wrap (wrap64 (x7 + x8))) / 2))))) else (none)) else (none)) else (if x7 < x6 then (if 0 ≤ x7 then (if x7 < (x0.length : Int) then (if (rdOf eB_ x0 x7).toList = x1.toList then (some (x7, true)) else ((xF52.f (rdOf eB_ x0 x7)).bind fun t423 => (if t423 = true then ((xF52.f x1).bind fun t424 => (some (x7, t424))) else (some (x7, false))))) else (none)) else (none)) else (some (x7, false)))
def xF47.f (k : Nat) (l0 : List ByteArray) (a1 : ByteArray) : Option (Int × Bool) := xF47.l0 k l0 a1 (l0.length : Int) 0 (l0.length : Int)
theorem xF47.mono_l : ∀ k, (∀ y0 y1 y2 y3 y4, LeO (xF47.l0 k y0 y1 y2 y3 y4) (xF47.l0 (k + 1) y0 y1 y2 y3 y4))
 | 0 => fun _ _ _ _ _ r h => by simp [xF47.l0] at h
 | k + 1 => by
  have ih0 := xF47.mono_l k
  intro y0 y1 y2 y3 y4
  unfold xF47.l0
  repeat' with_reducible first | exact ih0 _ _ _ _ _ | exact l3_ _ | exact l0_ _ | refine l2_ ?_ ?_ | refine l1_ ?_ (fun _ => ?_)
theorem xF47.mono : ∀ a0 a1 k, LeO (xF47.f k a0 a1) (xF47.f (k + 1) a0 a1) := by
 intro a0 a1 k
 have ih0 := xF47.mono_l k
 unfold xF47.f
 repeat' with_reducible first | exact ih0 _ _ _ _ _ | exact l3_ _ | exact l0_ _ | refine l2_ ?_ ?_ | refine l1_ ?_ (fun _ => ?_)
theorem xF47.calls (k : Nat) (A0 : Option Addr) (c0 : Nat) (l0 : List ByteArray) (a1 : ByteArray) (r1 : Int) (r2 : Bool) (w : World) (hr0 : Kd.C Kd.string w A0 l0.length l0) (hc0 : l0.length ≤ c0) (h : xF47.f k l0 a1 = some (r1, r2)) :
  Calls Tryz.prog 93 #[.slice A0 l0.length c0, .string a1] w fun e w' => e = .returned (.tuple #[.int .i64 r1, .bool r2]) ∧ Drawn0 w w' := by
 have HR0 := aM_ hr0
 have HC0 := aM_ hc0
 clear hr0 hc0
 have H : (xF47.l0 k l0 a1 (l0.length : Int) 0 (l0.length : Int)) = some (r1, r2) := h
 clear h
 have H' := aM_ H
 clear H
 go_enter Tryz.func93, Tryz.ntmps93
 go_wp2
 go_loopg [7, 8] k (fun kq v7 v8 w' => ∃ (x7_1 : Int) (x8_1 : Int), v7 = .int .i64 x7_1 ∧ v8 = .int .i64 x8_1 ∧ Aside0 (xF47.l0 kq l0 a1 (l0.length : Int) x7_1 x8_1 = some (r1, r2)) ∧ Aside0 (kq ≤ k) ∧ Drawn0 w w')
 case atStart => exact ⟨(0), ((l0.length : Int)), (by rfl), (by rfl), H', ⟨Nat.le_refl _⟩, by repeat (first | exact Drawn0.refl _ | apply Drawn0.step)⟩
 clear H'
 try clear p2
 obtain ⟨x7_1, x8_1, rfl, rfl, HA, HK1, ⟨m1, rfl⟩⟩ := hrel
 cases gk with
 | zero => exact absurd HA.out (by simp [xF47.l0])
 | succ k1 =>
  have H := HA.out
  clear HA
  simp only [xF47.l0] at H
  by_cases c3 : x7_1 < x8_1
  ·
   rw [if_pos c3] at H
   have c3b0 := dT_ c3
   clear c3
   obtain ⟨ji4, hji4⟩ : ∃ j_ : Int, (wrap64 ((IntKind.u64.wrap (wrap64 (x7_1 + x8_1))) / 2)) = j_ := ⟨_, rfl⟩
   replace H : (if 0 ≤ (ji4) then (if (ji4) < (l0.length : Int) then ((xF5.f (rdOf eB_ l0 (ji4)) a1).bind fun t420 => (if t420 = true then (xF47.l0 k1 l0 a1 (l0.length : Int) (wrap64 ((ji4) + 1)) x8_1) else (xF47.l0 k1 l0 a1 (l0.length : Int) x7_1 ji4))) else (none)) else (none)) = some (r1, r2) := by first | (rw [hji4] at H; exact H) | (simp only [hji4] at H ⊢; exact H)
   have hji4w : (IntKind.i64.wrap ((IntKind.u64.wrap (wrap64 (x7_1 + x8_1))) / 2)) = ji4 := (i6_ _).trans hji4
   by_cases c5 : 0 ≤ (ji4)
   rotate_left
   ·
    rw [if_neg c5] at H
    exact absurd H (by simp)
   rw [if_pos c5] at H
   have c5b0 := dT_ c5
   clear c5
   by_cases c6 : (ji4) < (l0.length : Int)
   rotate_left
   ·
    rw [if_neg c6] at H
    exact absurd H (by simp)
   rw [if_pos c6] at H
   have c6b0 := dT_ c6
   clear c6
   replace H := oB_.mp H
   obtain ⟨t420, A70, H⟩ := H
   try dsimp only at H
   have A7 := aM_ A70
   clear A70
   by_cases c8 : t420 = true
   ·
    subst c8
    rw [if_pos rfl] at H
    have H' := aM_ H
    clear H
    have p419 : 0 ≤ ((ji4) : Int) := oD_ ‹_›
    have q419 : (ji4) < (l0.length : Int) := oD_ ‹_›
    obtain ⟨ad419, e419, hx419_0⟩ := Kd.at_string HR0.out (ji4) p419 q419
    cases e419
    replace p419 := eq_true p419
    replace q419 := eq_true q419
    go_wp2_with (first | (refine gs_ 27 Tryz.func116 #[.string (rdOf eB_ l0 (ji4)), .string a1] ?_; (with_reducible refine (xF5.calls (rdOf eB_ l0 (ji4)) a1 true _ A7.out).mono ?_); rintro e w' ⟨rfl, ⟨nd, rfl⟩⟩; refine ⟨_, rfl, ?_⟩))
    go_roundg k1
    case measure => have := HK1.out; omega
    case rel => exact ⟨(wrap64 ((ji4) + 1)), (x8_1), (by rfl), (by rfl), H', ⟨by have := HK1.out; omega⟩, by repeat (first | exact Drawn0.refl _ | apply Drawn0.step)⟩
   replace c8 := Bool.eq_false_iff.mpr c8
   subst c8
   replace H : (xF47.l0 k1 l0 a1 (l0.length : Int) x7_1 ji4) = some (r1, r2) := by rw [if_neg (show ¬ (false = true) by decide)] at H; exact H
   have H' := aM_ H
   clear H
   have p419 : 0 ≤ ((ji4) : Int) := oD_ ‹_›
   have q419 : (ji4) < (l0.length : Int) := oD_ ‹_›
   obtain ⟨ad419, e419, hx419_0⟩ := Kd.at_string HR0.out (ji4) p419 q419
   cases e419
   replace p419 := eq_true p419
   replace q419 := eq_true q419
   go_wp2_with (first | (refine gs_ 27 Tryz.func116 #[.string (rdOf eB_ l0 (ji4)), .string a1] ?_; (with_reducible refine (xF5.calls (rdOf eB_ l0 (ji4)) a1 false _ A7.out).mono ?_); rintro e w' ⟨rfl, ⟨nd, rfl⟩⟩; refine ⟨_, rfl, ?_⟩))
   go_roundg k1
   case measure => have := HK1.out; omega
   case rel => exact ⟨(x7_1), (ji4), (by rfl), (by rfl), H', ⟨by have := HK1.out; omega⟩, by repeat (first | exact Drawn0.refl _ | apply Drawn0.step)⟩
  rw [if_neg c3] at H
  have c3b0 := dF_ c3
  clear c3
  by_cases c9 : x7_1 < (l0.length : Int)
  rotate_left
  ·
   rw [if_neg c9] at H
   have c9b0 := dF_ c9
   clear c9
   simp only [Option.some.injEq, Prod.mk.injEq] at H
   obtain ⟨rfl, rfl⟩ := H
   go_wp2
   go_ret2
   exact ⟨by rfl, by repeat (first | exact Drawn0.refl _ | apply Drawn0.step)⟩
  rw [if_pos c9] at H
  have c9b0 := dT_ c9
  clear c9
  by_cases c10 : 0 ≤ x7_1
  rotate_left
  ·
   rw [if_neg c10] at H
   exact absurd H (by simp)
  rw [if_pos c10] at H
  have c10b0 := dT_ c10
  clear c10
  by_cases c11 : x7_1 < (l0.length : Int)
  rotate_left
  ·
   rw [if_neg c11] at H
   exact absurd H (by simp)
  rw [if_pos c11] at H
  have c11b0 := dT_ c11
  clear c11
  by_cases c12 : (rdOf eB_ l0 x7_1).toList = a1.toList
  ·
   rw [if_pos c12] at H
   have c12b0 : ((rdOf eB_ l0 x7_1).toList == a1.toList) = true := beq_iff_eq.mpr c12
   have c12b1 : ((rdOf eB_ l0 x7_1).toList != a1.toList) = false := bne_eq_false_iff_eq.mpr c12
   clear c12
   simp only [Option.some.injEq, Prod.mk.injEq] at H
   obtain ⟨rfl, rfl⟩ := H
   have p421 : 0 ≤ (x7_1 : Int) := oD_ ‹_›
   have q421 : x7_1 < (l0.length : Int) := oD_ ‹_›
   obtain ⟨ad421, e421, hx421_0⟩ := Kd.at_string HR0.out x7_1 p421 q421
   cases e421
   replace p421 := eq_true p421
   replace q421 := eq_true q421
   go_wp2
   go_ret2
   exact ⟨by rfl, by repeat (first | exact Drawn0.refl _ | apply Drawn0.step)⟩
  rw [if_neg c12] at H
  have c12b0 : ((rdOf eB_ l0 x7_1).toList == a1.toList) = false := beq_eq_false_iff_ne.mpr c12
  have c12b1 : ((rdOf eB_ l0 x7_1).toList != a1.toList) = true := bne_iff_ne.mpr c12
  replace H := oB_.mp H
  obtain ⟨t423, A130, H⟩ := H
  try dsimp only at H
  have A13 := aM_ A130
  clear A130
  by_cases c14 : t423 = true
  ·
   subst c14
   rw [if_pos rfl] at H
   replace H := oB_.mp H
   obtain ⟨t424, A150, H⟩ := H
   try dsimp only at H
   have A15 := aM_ A150
   clear A150
   simp only [Option.some.injEq, Prod.mk.injEq] at H
   obtain ⟨rfl, rfl⟩ := H
   have p421 : 0 ≤ (x7_1 : Int) := oD_ ‹_›
   have q421 : x7_1 < (l0.length : Int) := oD_ ‹_›
   obtain ⟨ad421, e421, hx421_0⟩ := Kd.at_string HR0.out x7_1 p421 q421
   cases e421
   replace p421 := eq_true p421
   replace q421 := eq_true q421
   have p422 : 0 ≤ (x7_1 : Int) := oD_ ‹_›
   have q422 : x7_1 < (l0.length : Int) := oD_ ‹_›
   obtain ⟨ad422, e422, hx422_0⟩ := Kd.at_string HR0.out x7_1 p422 q422
   obtain rfl : ad421 = ad422 := (by injection e422)
   replace p422 := eq_true p422
   replace q422 := eq_true q422
   go_wp2_with (first | (go_at_call 117; (with_reducible refine (xF52.calls (rdOf eB_ l0 x7_1) true _ A13.out).mono ?_); rintro e w' ⟨rfl, ⟨nd, rfl⟩⟩) | (go_at_call 117; (with_reducible refine (xF52.calls a1 t424 _ A15.out).mono ?_); rintro e w' ⟨rfl, ⟨nd, rfl⟩⟩))
   go_ret2
   exact ⟨by rfl, by repeat (first | exact Drawn0.refl _ | apply Drawn0.step)⟩
  replace c14 := Bool.eq_false_iff.mpr c14
  subst c14
  replace H : (some (x7_1, false)) = some (r1, r2) := by rw [if_neg (show ¬ (false = true) by decide)] at H; exact H
  simp only [Option.some.injEq, Prod.mk.injEq] at H
  obtain ⟨rfl, rfl⟩ := H
  have p421 : 0 ≤ (x7_1 : Int) := oD_ ‹_›
  have q421 : x7_1 < (l0.length : Int) := oD_ ‹_›
  obtain ⟨ad421, e421, hx421_0⟩ := Kd.at_string HR0.out x7_1 p421 q421
  cases e421
  replace p421 := eq_true p421
  replace q421 := eq_true q421
  have p422 : 0 ≤ (x7_1 : Int) := oD_ ‹_›
  have q422 : x7_1 < (l0.length : Int) := oD_ ‹_›
  obtain ⟨ad422, e422, hx422_0⟩ := Kd.at_string HR0.out x7_1 p422 q422
  obtain rfl : ad421 = ad422 := (by injection e422)
  replace p422 := eq_true p422
  replace q422 := eq_true q422
  go_wp2_with (first | (go_at_call 117; (with_reducible refine (xF52.calls (rdOf eB_ l0 x7_1) false _ A13.out).mono ?_); rintro e w' ⟨rfl, ⟨nd, rfl⟩⟩))
  go_ret2
  exact ⟨by rfl, by repeat (first | exact Drawn0.refl _ | apply Drawn0.step)⟩
mutual
def iF28.l0 : Nat → List ByteArray → List ByteArray → List ByteArray → Int → Int → Option ((List (S96)))
 | 0, _, _, _, _, _ => none
 | k + 1, x0, x3, x15, x16, x17 => if x17 < x16 then (if 0 ≤ x17 then (if x17 < (x15.length : Int) then (iF28.l1 k x0 x3 (rdOf eB_ x15 x17) x15 x16 x17 ((rdOf eB_ x15 x17).size : Int) 0) else (none)) else (none)) else ((iF27.f x3).bind fun t433 => (if SM.okL t433 = true then (iF28.l2 k x0 t433 (t433.length : Int) 0 ([] : List (S96))) else none))
def iF28.l1 : Nat → List ByteArray → List ByteArray → ByteArray → List ByteArray → Int → Int → Int → Int → Option ((List (S96)))
 | 0, _, _, _, _, _, _, _, _ => none
 | k + 1, x0, x3, x5, x15, x16, x17, x22, x23 => if x23 < x22 then (if 0 ≤ (wrap64 (x23 + 1)) then (if (wrap64 (x23 + 1)) ≤ (x5.size : Int) then (if x3.length < 8796093022208 then (iF28.l1 k x0 (x3 ++ [x5.extract 0 ((wrap64 (x23 + 1)) : Int).toNat]) x5 x15 x16 x17 x22 (wrap64 (x23 + 1))) else (none)) else (none)) else (none)) else (iF28.l0 k x0 x3 x15 x16 (wrap64 (x17 + 1)))
def iF28.l2 : Nat → List ByteArray → List ByteArray → Int → Int → List (S96) → Option ((List (S96)))
 | 0, _, _, _, _, _ => none
 | k + 1, x0, x39, x40, x41, x437000 => if x41 < x40 then (if 0 ≤ x41 then (if x41 < (x39.length : Int) then ((xF47.f k x0 (rdOf eB_ x39 x41)).bind fun bt438 => (if (rdOf eB_ x39 x41).toList = ([] : List UInt8) then (if x437000.length < 5864062014805 then (iF28.l2 k x0 x39 x40 (wrap64 (x41 + 1)) (x437000 ++ [(⟨(-1), (-1), bt438.2⟩ : S96)])) else (none)) else (if 0 ≤ (wrap64 (((rdOf eB_ x39 x41).size : Int) - 1)) then (if (wrap64 (((rdOf eB_ x39 x41).size : Int) - 1)) < ((rdOf eB_ x39 x41).size : Int) then (if (wrap64 (((rdOf eB_ x39 x41).size : Int) - 1)) ≤ ((rdOf eB_ x39 x41).size : Int) then (if x437000.length < 5864062014805 then (iF28.l2 k x0 x39 x40 (wrap64 (x41 + 1)) (x437000 ++ [(⟨((bt (rdOf eB_ x39 x41) (wrap64 (((rdOf eB_ x39 x41).size : Int) - 1))) - 97) % 256, SM.at_ (List.take ((x41 : Int).toNat + 1) x39) ((rdOf eB_ x39 x41).extract 0 ((wrap64 (((rdOf eB_ x39 x41).size : Int) - 1)) : Int).toNat), bt438.2⟩ : S96)])) else (none)) else (none)) else (none)) else (none)))) else (none)) else (none)) else (some x437000)
end
def iF28.f (k : Nat) (l0 : List ByteArray) : Option ((List (S96))) := iF28.l0 k l0 (([(⟨#[]⟩ : ByteArray)] : List ByteArray)) l0 (l0.length : Int) 0
theorem iF28.mono_l : ∀ k, (∀ y0 y1 y2 y3 y4, LeO (iF28.l0 k y0 y1 y2 y3 y4) (iF28.l0 (k + 1) y0 y1 y2 y3 y4)) ∧ (∀ y0 y1 y2 y3 y4 y5 y6 y7, LeO (iF28.l1 k y0 y1 y2 y3 y4 y5 y6 y7) (iF28.l1 (k + 1) y0 y1 y2 y3 y4 y5 y6 y7)) ∧ (∀ y0 y1 y2 y3 y4, LeO (iF28.l2 k y0 y1 y2 y3 y4) (iF28.l2 (k + 1) y0 y1 y2 y3 y4))
 | 0 => ⟨fun _ _ _ _ _ r h => by simp [iF28.l0] at h, fun _ _ _ _ _ _ _ _ r h => by simp [iF28.l1] at h, fun _ _ _ _ _ r h => by simp [iF28.l2] at h⟩
 | k + 1 => by
  obtain ⟨ih0, ih1, ih2⟩ := iF28.mono_l k
  refine ⟨?_, ?_, ?_⟩
  ·
   intro y0 y1 y2 y3 y4
   unfold iF28.l0
   repeat' with_reducible first | exact ih0 _ _ _ _ _ | exact ih1 _ _ _ _ _ _ _ _ | exact ih2 _ _ _ _ _ | exact xF47.mono _ _ _ | exact l3_ _ | exact l0_ _ | refine l2_ ?_ ?_ | refine l1_ ?_ (fun _ => ?_)
  ·
   intro y0 y1 y2 y3 y4 y5 y6 y7
   unfold iF28.l1
   repeat' with_reducible first | exact ih0 _ _ _ _ _ | exact ih1 _ _ _ _ _ _ _ _ | exact ih2 _ _ _ _ _ | exact xF47.mono _ _ _ | exact l3_ _ | exact l0_ _ | refine l2_ ?_ ?_ | refine l1_ ?_ (fun _ => ?_)
  intro y0 y1 y2 y3 y4
  unfold iF28.l2
  repeat' with_reducible first | exact ih0 _ _ _ _ _ | exact ih1 _ _ _ _ _ _ _ _ | exact ih2 _ _ _ _ _ | exact xF47.mono _ _ _ | exact l3_ _ | exact l0_ _ | refine l2_ ?_ ?_ | refine l1_ ?_ (fun _ => ?_)
theorem iF28.mono : ∀ a0 k, LeO (iF28.f k a0) (iF28.f (k + 1) a0) := by
 intro a0 k
 obtain ⟨ih0, ih1, ih2⟩ := iF28.mono_l k
 unfold iF28.f
 repeat' with_reducible first | exact ih0 _ _ _ _ _ | exact ih1 _ _ _ _ _ _ _ _ | exact ih2 _ _ _ _ _ | exact xF47.mono _ _ _ | exact l3_ _ | exact l0_ _ | refine l2_ ?_ ?_ | refine l1_ ?_ (fun _ => ?_)
def iF28.T20 : Bool × List (List Nat × List Nat) := (true, [([], []), ([], []), ([1], [1]), ([2], [2]), ([0, 3], [0, 3]), ([4], [4]), ([5], [5]), ([], []), ([], []), ([], []), ([9], [9]), ([10], [10]), ([8, 11], [8, 11]), ([7, 12], [7, 12]), ([0, 1, 2, 3, 4, 5, 6], []), ([14, 6, 0, 1, 2, 3, 4, 5, 6], [6, 14]), ([0, 1, 2, 3, 4, 5, 6, 7, 8, 9, 10, 11, 12, 13, 14, 15], []), ([16, 13, 15, 0, 1, 2, 3, 4, 5, 6, 7, 8, 9, 10, 11, 12, 13, 14, 15], [13, 16])])
def iF28.B20 : List Nat := [0, 0, 2, 6, 15, 31, 63, 0, 0, 0, 512, 1536, 3840, 8064, 127, 16511, 65535, 131071]
theorem iF28.tab20 : rtab .any (opsOf Tryz.f108 20) = iF28.T20 := by kernel_rfl
theorem iF28.bits20 : waitsOk iF28.T20.2 iF28.B20 = true := by kernel_rfl
set_option maxHeartbeats 60000000 in
theorem iF28.calls (k : Nat) (A0 : Option Addr) (c0 : Nat) (l0 : List ByteArray) (r : List (S96)) (w : World) (hr0 : Kd.C Kd.string w A0 l0.length l0) (hc0 : l0.length ≤ c0) (h : iF28.f k l0 = some r) :
  Calls Tryz.prog 108 #[.slice A0 l0.length c0] w fun e w' => ∃ v0_ : Value, e = .returned (.agg #[v0_]) ∧ Kd.R k96 96 w' w.heap.size (fun _ => True) v0_ r ∧ Below w.heap.size w w' := by
 have hu28 := Tryz.underlying28
 have hu96 := Tryz.underlying96
 have HR0 := aM_ hr0
 have HC0 := aM_ hc0
 clear hr0 hc0
 have HB := aM_ (Below.refl w.heap.size w)
 have H : (iF28.l0 k l0 (([(⟨#[]⟩ : ByteArray)] : List ByteArray)) l0 (l0.length : Int) 0) = some r := h
 clear h
 obtain ⟨y426, hy426⟩ : ∃ y_ : List ByteArray, y_ = (([(⟨#[]⟩ : ByteArray)] : List ByteArray)) := ⟨_, rfl⟩
 replace H : (iF28.l0 k l0 y426 l0 (l0.length : Int) 0) = some r := by (try rw [hy426]); first | with_reducible exact H | with_reducible exact oS_ H | exact H
 have Ny426 := aM_ hy426
 clear hy426
 have H' := aM_ H
 clear H
 go_enter Tryz.func108, Tryz.ntmps108
 go_wp2_with (first | (refine bx_ 2 #[.slice none 0 0] 28 ?_; intro gb425 hg w2 hbox hb; have BK425 := aM_ (hbox); have GW425 := gw_ hg HB; replace HB := b4_ HB hb; clear hb hbox hg) | ((with_reducible refine gD_ (N := 14) rfl ?_); refine Kd.R_lit Kd.string _ 9 ?hg (N := 14) ?hd (xs := ([(⟨#[]⟩ : ByteArray)] : List ByteArray)) (inner := [.string (⟨#[]⟩ : ByteArray)]) (ok := fun _ => True) (okp := fun _ => True) ?hr ?hp (fun _ hk => hk) trivial (Below.refl _ _) (Nat.le_refl _) (by simp) ?_; (case hd => rfl); (case hg => rfl); (case hr => (go_simp; done)); (case hp => exact (Reps.one (show Kd.M Kd.string _ _ _ (⟨#[]⟩ : ByteArray) [.string (⟨#[]⟩ : ByteArray)] from rfl) (Reps.none _ _))); intro v427 w3 ho4 hb hg_ hnew_; clear hg_ hnew_; (rw [← Ny426.out] at ho4); have HO428 := aM_ (k5_ ho4 (bZ_ HB.out)); replace BK425 := b5_ BK425 hb; replace HB := b4_ HB hb; clear hb ho4))
 go_loopg [3, 17] k (fun kq v3 v17 w' => ∃ (x3_1 : List ByteArray) (x17_1 : Int), v17 = .int .i64 x17_1 ∧ Aside0 (iF28.l0 kq l0 x3_1 l0 (l0.length : Int) x17_1 = some r) ∧ Aside0 (kq ≤ k) ∧ Aside0 (Kd.R Kd.string 9 w' w.heap.size (fun _ => True) v3 x3_1) ∧ Aside0 (w'.heap[gb425]? = some (.cells #[(.slice none 0 0)] 28 (0, 0))) ∧ Aside0 (Below w.heap.size w w'))
 case atStart => exact ⟨(y426), (0), (by rfl), H', ⟨Nat.le_refl _⟩, ⟨HO428.out⟩, ⟨BK425.out⟩, ⟨HB.out⟩⟩
 clear H'
 try clear p2
 obtain ⟨x3_1, x17_1, rfl, HA, HK1, HO_3, BK425, HB⟩ := hrel
 cases gk with
 | zero => exact absurd HA.out (by simp [iF28.l0])
 | succ k1 =>
  have H := HA.out
  clear HA
  simp only [iF28.l0] at H
  by_cases c5 : x17_1 < (l0.length : Int)
  ·
   rw [if_pos c5] at H
   have c5b0 := dT_ c5
   clear c5
   by_cases c6 : 0 ≤ x17_1
   rotate_left
   ·
    rw [if_neg c6] at H
    exact absurd H (by simp)
   rw [if_pos c6] at H
   have c6b0 := dT_ c6
   clear c6
   by_cases c7 : x17_1 < (l0.length : Int)
   rotate_left
   ·
    rw [if_neg c7] at H
    exact absurd H (by simp)
   rw [if_pos c7] at H
   have c7b0 := dT_ c7
   clear c7
   have H' := aM_ H
   clear H
   have p429 : 0 ≤ (x17_1 : Int) := oD_ ‹_›
   have q429 : x17_1 < (l0.length : Int) := oD_ ‹_›
   obtain ⟨ad429, e429, hx429_0⟩ := Kd.at_string HR0.out x17_1 p429 q429
   cases e429
   replace hx429_0 := cb_ HB hx429_0
   replace p429 := eq_true p429
   replace q429 := eq_true q429
   go_wp2
   go_loopg [3, 23] k1 (fun kq v3 v23 w' => ∃ (x3_2 : List ByteArray) (x23_2 : Int), v23 = .int .i64 x23_2 ∧ Aside0 (iF28.l1 kq l0 x3_2 (rdOf eB_ l0 x17_1) l0 (l0.length : Int) x17_1 ((rdOf eB_ l0 x17_1).size : Int) x23_2 = some r) ∧ Aside0 (kq ≤ k1) ∧ Aside0 (Kd.R Kd.string 9 w' w.heap.size (fun _ => True) v3 x3_2) ∧ Aside0 (w'.heap[gb425]? = some (.cells #[(.slice none 0 0)] 28 (0, 0))) ∧ Aside0 (Below w.heap.size w w'))
   case atStart => exact ⟨(x3_1), (0), (by rfl), H', ⟨Nat.le_refl _⟩, ⟨HO_3.out⟩, ⟨BK425.out⟩, ⟨HB.out⟩⟩
   clear H'
   try clear p2
   try clear p4
   try clear q4
   try clear hx4
   try clear c5b0
   try clear c6b0
   try clear c7b0
   try clear hx429_0
   try clear p2
   try clear p429
   try clear q429
   obtain ⟨x3_2, x23_2, rfl, HA, HK2, HO_3, BK425, HB⟩ := hrel
   cases gk with
   | zero => exact absurd HA.out (by simp [iF28.l1])
   | succ k2 =>
    have H := HA.out
    clear HA
    simp only [iF28.l1] at H
    by_cases c8 : x23_2 < ((rdOf eB_ l0 x17_1).size : Int)
    rotate_left
    ·
     rw [if_neg c8] at H
     have c8b0 := dF_ c8
     clear c8
     have H' := aM_ H
     clear H
     go_wp2
     go_roundg k2
     case measure => have := HK1.out; have := HK2.out; omega
     case rel => exact ⟨(x3_2), (wrap64 (x17_1 + 1)), (by rfl), H', ⟨by have := HK1.out; have := HK2.out; omega⟩, ⟨HO_3.out⟩, ⟨BK425.out⟩, ⟨HB.out⟩⟩
    rw [if_pos c8] at H
    have c8b0 := dT_ c8
    clear c8
    obtain ⟨ji9, hji9⟩ : ∃ j_ : Int, (wrap64 (x23_2 + 1)) = j_ := ⟨_, rfl⟩
    replace H : (if 0 ≤ (ji9) then (if (ji9) ≤ ((rdOf eB_ l0 x17_1).size : Int) then (if x3_2.length < 8796093022208 then (iF28.l1 k2 l0 (x3_2 ++ [(rdOf eB_ l0 x17_1).extract 0 ((ji9) : Int).toNat]) (rdOf eB_ l0 x17_1) l0 (l0.length : Int) x17_1 ((rdOf eB_ l0 x17_1).size : Int) ji9) else (none)) else (none)) else (none)) = some r := by first | (rw [hji9] at H; exact H) | (simp only [hji9] at H ⊢; exact H)
    have hji9w : (IntKind.i64.wrap (x23_2 + 1)) = ji9 := (i6_ _).trans hji9
    by_cases c10 : 0 ≤ (ji9)
    rotate_left
    ·
     rw [if_neg c10] at H
     exact absurd H (by simp)
    rw [if_pos c10] at H
    have c10b0 := eq_true c10
    have c10b1 := dT_ c10
    clear c10
    by_cases c11 : (ji9) ≤ ((rdOf eB_ l0 x17_1).size : Int)
    rotate_left
    ·
     rw [if_neg c11] at H
     exact absurd H (by simp)
    rw [if_pos c11] at H
    have c11b0 := eq_true c11
    have c11b1 := dT_ c11
    clear c11
    by_cases c12 : x3_2.length < 8796093022208
    ·
     rw [if_pos c12] at H
     have LMc12 := aM_ c12
     clear c12
     obtain ⟨y430, hy430⟩ : ∃ y_ : List ByteArray, y_ = (x3_2 ++ [(rdOf eB_ l0 x17_1).extract 0 ((ji9) : Int).toNat]) := ⟨_, rfl⟩
     replace H : (iF28.l1 k2 l0 y430 (rdOf eB_ l0 x17_1) l0 (l0.length : Int) x17_1 ((rdOf eB_ l0 x17_1).size : Int) ji9) = some r := by (try rw [hy430]); first | with_reducible exact H | with_reducible exact oS_ H | exact H
     have Ny430 := aM_ hy430
     clear hy430
     have H' := aM_ H
     clear H
     go_wp2_with (first | ((with_reducible refine gate_builtin (b := .append) (xs := #[.tmp 26, .tmp 31]) rfl ?_); at_builtin; refine Kd.R_append Kd.string (w0 := w) w.heap.size rfl (.tmp 26) (.tmp 31) 51 9 (.string ⟨#[]⟩) 16 rfl Tryz.underlying51 info9 rfl (by decide) (by omega) u3 x3_2 ((rdOf eB_ l0 x17_1).extract 0 ((ji9) : Int).toNat) [.string ((rdOf eB_ l0 x17_1).extract 0 ((ji9) : Int).toNat)] (fun _ => True) (fun _ => False) rfl rfl ?aP (fun _ hk => hk.elim) ?aF ?aO ?aB ?aS ?aL ?_; (case aP => exact rfl); (case aB => exact HB.out); (case aF => exact (fun _ _ => trivial)); (case aO => exact HO_3.out); (case aS => exact (bZ_ HB.out)); (case aL => have := LMc12.out; omega); intro v431 w13 ho hb hg hat; rw [← Ny430.out] at ho; have n0_ := aM_ (blk_grown (g := gb425) (o := .cells #[.slice none 0 0] 28 (0, 0)) BK425.out hg (k6_ HO_3.out BK425.out (by decide))); have n1_ := aM_ (hb); have n2_ := aM_ (ho); clear BK425; clear HB; clear HO_3; have BK425 := n0_; have HB := n1_; have HO432 := n2_; clear n0_ n1_ n2_; clear ho hb hg hat))
     go_roundg k2
     case measure => have := HK1.out; have := HK2.out; omega
     case rel => exact ⟨(y430), (ji9), (by rfl), H', ⟨by have := HK1.out; have := HK2.out; omega⟩, ⟨HO432.out⟩, ⟨BK425.out⟩, ⟨HB.out⟩⟩
    rw [if_neg c12] at H
    exact absurd H (by simp)
  rw [if_neg c5] at H
  have c5b0 := dF_ c5
  clear c5
  replace H := oB_.mp H
  obtain ⟨t433, A140, H⟩ := H
  try dsimp only at H
  have hsz_ : SM.okL t433 = true := by
   by_cases h_ : SM.okL t433 = true
   ·
    exact h_
   rw [if_neg h_] at H; cases H
  rw [if_pos hsz_] at H
  have HSZ := aM_ hsz_
  clear hsz_
  have A14 := aM_ A140
  clear A140
  have H' := aM_ H
  clear H
  obtain ⟨Ao15, co15, eo15⟩ := kS_ HO_3.out
  subst eo15
  go_wp2_with (first | (refine gs_ 36 Tryz.func107 #[.slice Ao15 x3_1.length co15] ?_; (with_reducible refine (iF27.calls _ _ x3_1 t433 _ ?side1 ?side2 A14.out).mono ?_); (case side1 => repeat (first | exact (kR_ HO_3.out).2.2 | with_reducible first | apply cA_ | apply cN_ | apply cD_)); (case side2 => exact (kR_ HO_3.out).2.1); rintro e w16 ⟨v434, rfl, ho0, hb⟩; refine ⟨_, rfl, ?_⟩; have HO435 := aM_ (k5_ (Kd.R_new' ho0 (Kd.R_lt HO_3.out)) (bZ_ HB.out)); replace HO_3 := aM_ (Kd.R_elder' HO_3.out (Kd.R_base ho0) hb); replace BK425 := b5_ BK425 hb; replace HB := b4_ HB hb; (try clear hb); (try clear ho0)) | ((with_reducible refine gD_ (N := 38) rfl ?_); refine SM.made ?hg (N := 38) ?hd ?hr ?_; (case hd => rfl); (case hg => rfl); (case hr => (go_simp; rfl)); intro gbM hg wMade hbox hb; replace HO_3 := k9_ HO_3 hb; replace HO435 := k9_ HO435 hb; have BKM := aM_ (hbox); have GWM := gw_ hg HB; have GEM := gw_ hg HB; replace HB := b4_ HB hb; have NB425_M := nb_ hg BK425; have NBM_425 := ns_ NB425_M; replace BK425 := b5_ BK425 hb; clear hb hbox hg) | (refine bx_ 7 #[.slice none 0 0] 28 ?_; intro gb436 hg w17 hbox hb; have n0_ := k9_ HO_3 hb; have n1_ := k9_ HO435 hb; have n2_ := b5_ BK425 hb; have n29_ := aM_ (SM.Is.below (l := []) (by (with_reducible repeat (first | refine SM.Is.drewN ?_ _ | refine SM.Is.drew ?_ | refine SM.Is.alloc ?_ _)); exact BKM.out) hb); have n3_ := b4_ HB hb; have n4_ := aM_ (hbox); have n5_ := gw_ hg HB; have n6_ := gw_ hg HB; have n7_ := nb_ hg BK425; have n79_ := aM_ ((by rw [hg]; exact Nat.ne_of_lt (SM.Is.lt (l := []) (by (with_reducible repeat (first | refine SM.Is.drewN ?_ _ | refine SM.Is.drew ?_ | refine SM.Is.alloc ?_ _)); exact BKM.out)) : gbM ≠ gb436)); have n8_ := aM_ ((by rw [hg]; exact Nat.ne_of_gt (bL_ BK425.out) : gb436 ≠ gb425)); have n89_ := aM_ ((by rw [hg]; exact Nat.ne_of_gt (SM.Is.lt (l := []) (by (with_reducible repeat (first | refine SM.Is.drewN ?_ _ | refine SM.Is.drew ?_ | refine SM.Is.alloc ?_ _)); exact BKM.out)) : gb436 ≠ gbM)); clear HO_3; clear HO435; clear BKM; clear BK425; clear HB; have HO_3 := n0_; have HO435 := n1_; have BK425 := n2_; have BKM := n29_; have HB := n3_; have BK436 := n4_; have GW436 := n5_; have GW436 := n6_; have NB425_436 := n7_; have NBM_436 := n79_; have NB436_425 := n8_; have NB436_M := n89_; clear n0_ n1_ n2_ n3_ n4_ n5_ n6_ n7_ n8_ n29_ n79_ n89_; clear hb hbox hg; have hnb18 := NB436_425.out; have hnc18 := NB425_436.out; have hcz19_0 := c0_ BK436; have hfz19_0 := bF_ BK436.out 0; obtain ⟨Ao20, co20, eo20⟩ := kS_ HO435.out; subst eo20))
  go_loopg [41] k1 (fun kq v41 w' => ∃ (x41_2 : Int) (x437000_2 : List (S96)) (u437000 : Value), v41 = .int .i64 x41_2 ∧ Aside0 (iF28.l2 kq l0 t433 (t433.length : Int) x41_2 x437000_2 = some r) ∧ Aside0 (kq ≤ k1) ∧ Aside0 (Kd.R Kd.string 9 w' w.heap.size (fun _ => True) (.slice Ao20 t433.length co20) t433) ∧ Aside0 (Kd.R k96 96 w' w.heap.size (fun _ => True) u437000 x437000_2) ∧ Aside0 (w'.heap[gb425]? = some (.cells #[(.slice none 0 0)] 28 (0, 0))) ∧ Aside0 (w'.heap[gb436]? = some (.cells #[u437000] 28 (0, 0))) ∧ Aside0 (Below w.heap.size w w') ∧ Aside0 (SM.Is w' gbM (List.take ((x41_2 : Int).toNat) t433)))
  case atStart => exact ⟨(0), (([] : List (S96))), (.slice none 0 0), (by rfl), H', ⟨Nat.le_refl _⟩, ⟨by exact kM_ (kG_ (kT_ HO435.out BK436.out (by decide))) (fun _ hk => trivial)⟩, ⟨by exact Kd.R_nil _ _ _ _ _⟩, ⟨by exact br_ NB425_436.out (BK425.out)⟩, ⟨by refine bP_ (cs := #[.slice none 0 0]) ?_ 0 _ rfl; exact BK436.out⟩, ⟨by repeat with_reducible first | exact HB.out | apply bA_ | apply bN_ | apply bD_ | refine bS_ ?_ (Aside0.out ‹_›)⟩, ⟨(by (with_reducible repeat (first | refine SM.Is.drewN ?_ _ | refine SM.Is.drew ?_ | refine SM.Is.alloc ?_ _)); refine SM.Is.far ?_ NBM_436.out _; (with_reducible repeat (first | refine SM.Is.drewN ?_ _ | refine SM.Is.drew ?_ | refine SM.Is.alloc ?_ _)); exact BKM.out : SM.Is _ gbM [])⟩⟩
  clear H'
  try clear p2
  try clear p4
  try clear q4
  try clear hx4
  try clear c5b0
  try clear c6b0
  try clear p6
  try clear c7b0
  try clear c8b0
  try clear c10b0
  try clear c10b1
  try clear c11b0
  try clear c11b1
  try clear hcz19_0
  try clear hfz19_0
  try clear hx429_0
  try clear p2
  try clear p4
  try clear p429
  try clear q4
  try clear q429
  obtain ⟨x41_2, x437000_2, u437000, rfl, HA, HK2, HO_39, HO_437000, BK425, BK436, HB, BKM0⟩ := hrel
  obtain ⟨lm, hlm⟩ : ∃ l_ : List ByteArray, l_ = List.take ((x41_2 : Int).toNat) t433 := ⟨_, rfl⟩
  have BKM : Aside0 (SM.Is wr gbM lm) := ⟨by rw [hlm]; exact BKM0.out⟩
  clear BKM0
  have HLM := aM_ hlm
  clear hlm
  cases gk with
  | zero => exact absurd HA.out (by simp [iF28.l2])
  | succ k2 =>
   have H := HA.out
   clear HA
   simp only [iF28.l2] at H
   by_cases c21 : x41_2 < (t433.length : Int)
   rotate_left
   ·
    rw [if_neg c21] at H
    have c21b0 := dF_ c21
    clear c21
    obtain rfl := Option.some.inj H
    have hnb57 := NB436_425.out
    have hnc57 := NB425_436.out
    have hcz58_0 := c0_ BK436
    have hfz58_0 := bF_ BK436.out 0
    obtain ⟨Ao59, co59, eo59⟩ := kS_ HO_437000.out
    subst eo59
    have hcz60_0 := c0_ BK425
    have hfz60_0 := bF_ BK425.out 0
    go_wp2
    refine bodyPost_ret (results_cell_row rfl _ _ gb425 28 #[.slice Ao59 x437000_2.length co59] (0, 0) _ rfl (by refine bP_ (cs := #[.slice none 0 0]) ?_ 0 _ rfl; exact BK425.out) Tryz.underlying28 rfl (by kernel_rfl)) rfl ?_
    exact ⟨_, by rfl, by exact kM_ (kG_ (kT_ HO_437000.out BK425.out (by decide))) (fun _ hk => trivial), by repeat with_reducible first | exact HB.out | apply bA_ | apply bN_ | apply bD_ | refine bS_ ?_ (Aside0.out ‹_›)⟩
   rw [if_pos c21] at H
   have c21b0 := dT_ c21
   clear c21
   by_cases c22 : 0 ≤ x41_2
   rotate_left
   ·
    rw [if_neg c22] at H
    exact absurd H (by simp)
   rw [if_pos c22] at H
   have c22b0 := dT_ c22
   clear c22
   by_cases c23 : x41_2 < (t433.length : Int)
   rotate_left
   ·
    rw [if_neg c23] at H
    exact absurd H (by simp)
   rw [if_pos c23] at H
   have c23b0 := dT_ c23
   clear c23
   replace H := oB_.mp H
   obtain ⟨⟨t438, t439⟩, A240, H⟩ := H
   try dsimp only at H
   have A24 := aM_ A240
   clear A240
   by_cases c25 : (rdOf eB_ t433 x41_2).toList = ([] : List UInt8)
   ·
    rw [if_pos c25] at H
    have c25b0 : ((rdOf eB_ t433 x41_2).toList == ([] : List UInt8)) = true := beq_iff_eq.mpr c25
    have c25b1 : ((rdOf eB_ t433 x41_2).toList != ([] : List UInt8)) = false := bne_eq_false_iff_eq.mpr c25
    clear c25
    by_cases c26 : x437000_2.length < 5864062014805
    rotate_left
    ·
     rw [if_neg c26] at H
     exact absurd H (by simp)
    rw [if_pos c26] at H
    have LMc26 := aM_ c26
    clear c26
    obtain ⟨y441, hy441⟩ : ∃ y_ : List (S96), y_ = (x437000_2 ++ [(⟨(-1), (-1), t439⟩ : S96)]) := ⟨_, rfl⟩
    replace H : (iF28.l2 k2 l0 t433 (t433.length : Int) (wrap64 (x41_2 + 1)) y441) = some r := by (try rw [hy441]); first | with_reducible exact H | with_reducible exact oS_ H | exact H
    have Ny441 := aM_ hy441
    clear hy441
    have H' := aM_ H
    clear H
    have p437 : 0 ≤ (x41_2 : Int) := oD_ ‹_›
    have q437 : x41_2 < (t433.length : Int) := oD_ ‹_›
    have HLL := aM_ (show (lm.length : Int) = x41_2 from by rw [HLM.out, List.length_take]; omega)
    have HLL2 := aM_ (show lm.length < t433.length from by rw [HLM.out, List.length_take]; omega)
    have HLP := aM_ (SM.okL.size HSZ.out x41_2 p437 q437)
    have HLN := aM_ (show lm ++ [rdOf eB_ t433 x41_2] = List.take ((x41_2 : Int).toNat + 1) t433 from by rw [HLM.out]; exact SM.take_rd t433 x41_2 p437 q437)
    obtain ⟨ad437, e437, hx437_0⟩ := Kd.at_string (kR_ HO_39.out).2.2 x41_2 p437 q437
    cases e437
    replace p437 := eq_true p437
    replace q437 := eq_true q437
    go_wp2_with (first | (at_mapUpdate; refine SM.put rfl (.tmp 46) (.tmp 47) (.tmp 48) 112 Tryz.underlying112 rfl gbM lm rfl (by (with_reducible repeat (first | refine SM.Is.drewN ?_ _ | refine SM.Is.drew ?_ | refine SM.Is.alloc ?_ _)); exact BKM.out) ?hn (rdOf eB_ t433 x41_2) ?hp rfl ?hv ?_; (case hn => have h1_ := SM.okL.len HSZ.out; have h2_ := HLL2.out; omega); (case hp => have h1_ := HLP.out; unfold maxLen; omega); (case hv => exact (congrArg (Value.int IntKind.i64) HLL.out).symm); intro w9m h1m hgm; obtain ⟨lm2, hlm2⟩ : ∃ l_ : List ByteArray, l_ = lm ++ [rdOf eB_ t433 x41_2] := ⟨_, rfl⟩; rw [← hlm2] at h1m; have HLM2 := aM_ hlm2; clear hlm2; have nr0_ := aM_ (SM.R_over HO_39.out (by (with_reducible repeat (first | refine SM.Is.drewN ?_ _ | refine SM.Is.drew ?_ | refine SM.Is.alloc ?_ _)); exact BKM.out) hgm); have nr1_ := aM_ (SM.R_over HO_437000.out (by (with_reducible repeat (first | refine SM.Is.drewN ?_ _ | refine SM.Is.drew ?_ | refine SM.Is.alloc ?_ _)); exact BKM.out) hgm); have nb_ := aM_ (blk_grown (g := gb425) (o := .cells #[.slice none 0 0] 28 (0, 0)) BK425.out hgm (fun e_ => NBM_425.out (Option.some.inj e_).symm)); have nt_ := aM_ (blk_grown (g := gb436) BK436.out hgm (fun e_ => NBM_436.out (Option.some.inj e_).symm)); have nh_ := aM_ (RowKit.Below.grown HB.out hgm (bZ_ HB.out) (fun j hj => by cases hj; exact GEM.out)); clear HO_39 HO_437000 BK425 BK436 HB BKM; have HO_39 := nr0_; clear nr0_; have HO_437000 := nr1_; clear nr1_; have BK425 := nb_; have BK436 := nt_; have HB := nh_; have BKM := aM_ h1m; clear nb_ nt_ nh_ h1m hgm) | (refine gs_ 52 Tryz.func93 #[.slice A0 l0.length c0, .string (rdOf eB_ t433 x41_2)] ?_; (with_reducible refine (xF47.calls k2 _ _ l0 (rdOf eB_ t433 x41_2) t438 t439 _ ?side1 HC0.out A24.out).mono ?_); (case side1 => repeat (first | exact (k4_ HR0.out HB.out) | with_reducible first | apply cA_ | apply cN_ | apply cD_)); rintro e w' ⟨rfl, ⟨nd, rfl⟩⟩; refine ⟨_, rfl, ?_⟩; (try (rw [drewN_self wr]; generalize hq_ : World.drewN wr _ = wr; have n0_ : Aside0 (Kd.R Kd.string 9 wr w.heap.size (fun _ => True) (.slice (some ad437) t433.length co20) t433) := ⟨by rw [← hq_]; exact (by (with_reducible repeat (first | apply k1_ | apply k2_ | apply k3_)); exact HO_39.out)⟩; have n1_ : Aside0 (Kd.R k96 96 wr w.heap.size (fun _ => True) u437000 x437000_2) := ⟨by rw [← hq_]; exact (by (with_reducible repeat (first | apply k1_ | apply k2_ | apply k3_)); exact HO_437000.out)⟩; have n2_ : Aside0 (wr.heap[gb425]? = some (.cells #[.slice none 0 0] 28 (0, 0))) := ⟨by rw [← hq_]; exact (by (with_reducible repeat (first | refine b2_ ?_ _ | refine b1_ ?_ | refine b3_ ?_ _)); exact BK425.out)⟩; have n29_ : Aside0 (SM.Is wr gbM lm2) := ⟨by rw [← hq_]; exact (by (with_reducible repeat (first | refine SM.Is.drewN ?_ _ | refine SM.Is.drew ?_ | refine SM.Is.alloc ?_ _)); exact BKM.out)⟩; have n3_ : Aside0 (wr.heap[gb436]? = some (.cells #[u437000] 28 (0, 0))) := ⟨by rw [← hq_]; exact (by (with_reducible repeat (first | refine b2_ ?_ _ | refine b1_ ?_ | refine b3_ ?_ _)); exact BK436.out)⟩; have n4_ : Aside0 (Below w.heap.size w wr) := ⟨by rw [← hq_]; exact (by repeat with_reducible first | exact HB.out | apply bA_ | apply bN_ | apply bD_ | refine bS_ ?_ (Aside0.out ‹_›))⟩; clear HO_39 HO_437000 BKM BK425 BK436 HB hq_; have HO_39 := n0_; have HO_437000 := n1_; have BK425 := n2_; have BKM := n29_; have BK436 := n3_; have HB := n4_; clear n0_ n1_ n2_ n3_ n4_ n29_))) | (refine bx_ 13 #[.int .i64 0, .int .i64 0, .bool false] 96 ?_; intro gb440 hg w27 hbox hb; have n0_ := aM_ (kB_ (by (with_reducible repeat (first | apply k1_ | apply k2_ | apply k3_)); exact HO_39.out) hb); have n1_ := aM_ (kB_ (Kd.R_elderB (by (with_reducible repeat (first | apply k1_ | apply k2_ | apply k3_)); exact HO_437000.out) gb440 (Nat.le_of_eq hg.symm)) hb); have n2_ := aM_ (bB_ (g := gb425) (o := .cells #[.slice none 0 0] 28 (0, 0)) (by (with_reducible repeat (first | refine b2_ ?_ _ | refine b1_ ?_ | refine b3_ ?_ _)); exact BK425.out) hb); have n29_ := aM_ (SM.Is.below (l := lm2) (by (with_reducible repeat (first | refine SM.Is.drewN ?_ _ | refine SM.Is.drew ?_ | refine SM.Is.alloc ?_ _)); exact BKM.out) hb); have n3_ := aM_ (bB_ (g := gb436) (o := .cells #[u437000] 28 (0, 0)) (by (with_reducible repeat (first | refine b2_ ?_ _ | refine b1_ ?_ | refine b3_ ?_ _)); exact BK436.out) hb); have n4_ := aM_ (bT_ (by repeat with_reducible first | exact HB.out | apply bA_ | apply bN_ | apply bD_ | refine bS_ ?_ (Aside0.out ‹_›)) hb); have n5_ := aM_ (hbox); have n6_ := aM_ ((by rw [hg]; exact (bZ_ (by repeat with_reducible first | exact HB.out | apply bA_ | apply bN_ | apply bD_ | refine bS_ ?_ (Aside0.out ‹_›))) : w.heap.size ≤ gb440)); have n7_ := aM_ ((by rw [hg]; exact (bZ_ (by repeat with_reducible first | exact HB.out | apply bA_ | apply bN_ | apply bD_ | refine bS_ ?_ (Aside0.out ‹_›))) : w.heap.size ≤ gb440)); have n8_ := aM_ ((by rw [hg]; exact Nat.ne_of_lt (bL_ (g := gb425) (o := .cells #[.slice none 0 0] 28 (0, 0)) (by (with_reducible repeat (first | refine b2_ ?_ _ | refine b1_ ?_ | refine b3_ ?_ _)); exact BK425.out)) : gb425 ≠ gb440)); have n89_ := aM_ ((by rw [hg]; exact Nat.ne_of_lt (SM.Is.lt (l := lm2) (by (with_reducible repeat (first | refine SM.Is.drewN ?_ _ | refine SM.Is.drew ?_ | refine SM.Is.alloc ?_ _)); exact BKM.out)) : gbM ≠ gb440)); have n9_ := aM_ ((by rw [hg]; exact Nat.ne_of_gt (bL_ (g := gb425) (o := .cells #[.slice none 0 0] 28 (0, 0)) (by (with_reducible repeat (first | refine b2_ ?_ _ | refine b1_ ?_ | refine b3_ ?_ _)); exact BK425.out)) : gb440 ≠ gb425)); have n99_ := aM_ ((by rw [hg]; exact Nat.ne_of_gt (SM.Is.lt (l := lm2) (by (with_reducible repeat (first | refine SM.Is.drewN ?_ _ | refine SM.Is.drew ?_ | refine SM.Is.alloc ?_ _)); exact BKM.out)) : gb440 ≠ gbM)); have n10_ := aM_ ((by rw [hg]; exact Nat.ne_of_lt (bL_ (g := gb436) (o := .cells #[u437000] 28 (0, 0)) (by (with_reducible repeat (first | refine b2_ ?_ _ | refine b1_ ?_ | refine b3_ ?_ _)); exact BK436.out)) : gb436 ≠ gb440)); have n11_ := aM_ ((by rw [hg]; exact Nat.ne_of_gt (bL_ (g := gb436) (o := .cells #[u437000] 28 (0, 0)) (by (with_reducible repeat (first | refine b2_ ?_ _ | refine b1_ ?_ | refine b3_ ?_ _)); exact BK436.out)) : gb440 ≠ gb436)); clear HO_39; clear HO_437000; clear BKM; clear BK425; clear BK436; clear HB; have HO_39 := n0_; have HO_437000 := n1_; have BK425 := n2_; have BKM := n29_; have BK436 := n3_; have HB := n4_; have BK440 := n5_; have GW440 := n6_; have GW440 := n7_; have NB425_440 := n8_; have NBM_440 := n89_; have NB440_425 := n9_; have NB440_M := n99_; have NB436_440 := n10_; have NB440_436 := n11_; clear n0_ n1_ n2_ n3_ n4_ n5_ n6_ n7_ n8_ n9_ n10_ n11_ n29_ n89_ n99_; clear hb hbox hg; have hnb28 := NB440_425.out; have hnc28 := NB425_440.out; have hnb29 := NB440_436.out; have hnc29 := NB436_440.out; have hcz30_0 := c0_ BK440; have hcz30_1 := c1_ BK440; have hcz30_2 := c2_ BK440; have hfz30_0 := bF_ BK440.out 0; have hfz30_1 := bF_ BK440.out 1; have hfz30_2 := bF_ BK440.out 2; have hnb31 := NB436_425.out; have hnc31 := NB425_436.out; have hcz32_0 := c0_ BK436; have hfz32_0 := bF_ BK436.out 0) | ((with_reducible refine gate_builtin (b := .append) (xs := #[.tmp 76, .tmp 78]) rfl ?_); at_builtin; refine Kd.R_append k96 (w0 := w) w.heap.size rfl (.tmp 76) (.tmp 78) 26 96 (.agg #[(.int .i64 0), (.int .i64 0), (.bool false)]) 24 rfl Tryz.underlying26 info96 rfl (by decide) (by omega) u437000 x437000_2 (⟨(-1), (-1), t439⟩ : S96) [.int .i64 (-1), .int .i64 (-1), .bool t439] (fun k_ => k_ ≠ gb440) (fun _ => False) rfl (by (go_simp; done)) ?aP (fun _ hk => hk.elim) ?aF ?aO ?aB ?aS ?aL ?_; (case aP => exact k96_mkM _ _ _ (⟨(-1), (-1), t439⟩ : S96)); (case aB => exact (by repeat with_reducible first | exact HB.out | apply bA_ | apply bN_ | apply bD_ | refine bS_ ?_ (Aside0.out ‹_›))); (case aF => exact (fun k_ hk => Kd.freshB (g := gb440) (o := .cells #[.int .i64 (-1), .int .i64 (-1), .bool t439] 96 (0, 0)) (by refine bP_ (cs := #[.int .i64 (-1), .int .i64 (-1), .bool false]) ?_ 2 _ rfl; refine bP_ (cs := #[.int .i64 (-1), .int .i64 0, .bool false]) ?_ 1 _ rfl; refine bP_ (cs := #[.int .i64 0, .int .i64 0, .bool false]) ?_ 0 _ rfl; exact BK440.out) k_ hk)); (case aO => exact (by exact kM_ (kF_ (p := ⟨gb440, 2, none⟩) (kF_ (p := ⟨gb440, 1, none⟩) (kF_ (p := ⟨gb440, 0, none⟩) (kM_ HO_437000.out (fun k_ hk => (⟨hk, hk.2⟩ : _ ∧ k_ ≠ gb440))) (fun _ hk => hk.2) (.int .i64 (-1))) (fun _ hk => hk.2) (.int .i64 (-1))) (fun _ hk => hk.2) (.bool t439)) (fun _ hk => hk.1.2))); (case aS => exact (bZ_ (by repeat with_reducible first | exact HB.out | apply bA_ | apply bN_ | apply bD_ | refine bS_ ?_ (Aside0.out ‹_›)))); (case aL => have := LMc26.out; omega); intro v442 w33 ho hb hg hat; rw [← Ny441.out] at ho; have n0_ := aM_ (Kd.R_over' (by exact (kM_ (kG_ (kG_ (kG_ (kT_ HO_39.out BK440.out (by decide))))) (fun _ h_ => h_.1))) (Kd.R_typed (by exact (kM_ (kF_ (p := ⟨gb440, 2, none⟩) (kF_ (p := ⟨gb440, 1, none⟩) (kF_ (p := ⟨gb440, 0, none⟩) (kM_ HO_437000.out (fun k_ hk => (⟨hk, hk.2⟩ : _ ∧ k_ ≠ gb440))) (fun _ hk => hk.2) (.int .i64 (-1))) (fun _ hk => hk.2) (.int .i64 (-1))) (fun _ hk => hk.2) (.bool t439)) (fun _ h_ => h_.1)))) (by decide) hg); have n1_ := aM_ (blk_grown (g := gb425) (o := .cells #[.slice none 0 0] 28 (0, 0)) (by exact br_ NB425_440.out (br_ NB425_440.out (br_ NB425_440.out (BK425.out)))) hg (k6_ HO_437000.out BK425.out (by decide))); have n19_ := aM_ (SM.Is.grown (l := lm2) (by (with_reducible repeat (first | refine SM.Is.drewN ?_ _ | refine SM.Is.drew ?_ | refine SM.Is.alloc ?_ _)); refine SM.Is.far ?_ NBM_440.out _; (with_reducible repeat (first | refine SM.Is.drewN ?_ _ | refine SM.Is.drew ?_ | refine SM.Is.alloc ?_ _)); refine SM.Is.far ?_ NBM_440.out _; (with_reducible repeat (first | refine SM.Is.drewN ?_ _ | refine SM.Is.drew ?_ | refine SM.Is.alloc ?_ _)); refine SM.Is.far ?_ NBM_440.out _; (with_reducible repeat (first | refine SM.Is.drewN ?_ _ | refine SM.Is.drew ?_ | refine SM.Is.alloc ?_ _)); exact BKM.out) hg (SM.Is.ne BKM.out HO_437000.out)); have n2_ := aM_ (blk_grown (g := gb436) (o := .cells #[u437000] 28 (0, 0)) (by exact br_ NB436_440.out (br_ NB436_440.out (br_ NB436_440.out (BK436.out)))) hg (k6_ HO_437000.out BK436.out (by decide))); have n3_ := aM_ (blk_grown (g := gb440) (o := .cells #[.int .i64 (-1), .int .i64 (-1), .bool t439] 96 (0, 0)) (by refine bP_ (cs := #[.int .i64 (-1), .int .i64 (-1), .bool false]) ?_ 2 _ rfl; refine bP_ (cs := #[.int .i64 (-1), .int .i64 0, .bool false]) ?_ 1 _ rfl; refine bP_ (cs := #[.int .i64 0, .int .i64 0, .bool false]) ?_ 0 _ rfl; exact BK440.out) hg (Kd.R_away HO_437000.out (fun _ hk => hk.2))); have n4_ := aM_ (hb); have n5_ := aM_ (ho); clear HO_39; clear BKM; clear BK425; clear BK436; clear BK440; clear HB; clear HO_437000; have HO_39 := n0_; have BK425 := n1_; have BKM := n19_; have BK436 := n2_; have BK440 := n3_; have HB := n4_; have HO443 := n5_; clear n0_ n1_ n2_ n3_ n4_ n5_ n19_; clear ho hb hg hat; obtain ⟨Ao34, co34, eo34⟩ := kS_ HO443.out; subst eo34; have hcz35_0 := c0_ BK436; have hfz35_0 := bF_ BK436.out 0))
    go_roundg k2
    case measure => have := HK1.out; have := HK2.out; omega
    case rel => exact ⟨(wrap64 (x41_2 + 1)), (y441), (.slice Ao34 y441.length co34), (by rfl), H', ⟨by have := HK1.out; have := HK2.out; omega⟩, ⟨by exact kM_ (kG_ (kT_ HO_39.out BK436.out (by decide))) (fun _ hk => trivial)⟩, ⟨by exact kM_ (kG_ (kT_ HO443.out BK436.out (by decide))) (fun _ hk => trivial)⟩, ⟨by exact br_ NB425_436.out (BK425.out)⟩, ⟨by refine bP_ (cs := #[u437000]) ?_ 0 _ rfl; exact BK436.out⟩, ⟨by repeat with_reducible first | exact HB.out | apply bA_ | apply bN_ | apply bD_ | refine bS_ ?_ (Aside0.out ‹_›)⟩, ⟨by rw [SM.next_rd t433 x41_2 lm2 HLM2.out HLN.out HLL.out HLL2.out HSZ.out]; (with_reducible repeat (first | refine SM.Is.drewN ?_ _ | refine SM.Is.drew ?_ | refine SM.Is.alloc ?_ _)); refine SM.Is.far ?_ NBM_436.out _; (with_reducible repeat (first | refine SM.Is.drewN ?_ _ | refine SM.Is.drew ?_ | refine SM.Is.alloc ?_ _)); exact BKM.out⟩⟩
   rw [if_neg c25] at H
   have c25b0 : ((rdOf eB_ t433 x41_2).toList == ([] : List UInt8)) = false := beq_eq_false_iff_ne.mpr c25
   have c25b1 : ((rdOf eB_ t433 x41_2).toList != ([] : List UInt8)) = true := bne_iff_ne.mpr c25
   obtain ⟨ji36, hji36⟩ : ∃ j_ : Int, (wrap64 (((rdOf eB_ t433 x41_2).size : Int) - 1)) = j_ := ⟨_, rfl⟩
   replace H : (if 0 ≤ (ji36) then (if (ji36) < ((rdOf eB_ t433 x41_2).size : Int) then (if (ji36) ≤ ((rdOf eB_ t433 x41_2).size : Int) then (if x437000_2.length < 5864062014805 then (iF28.l2 k2 l0 t433 (t433.length : Int) (wrap64 (x41_2 + 1)) (x437000_2 ++ [(⟨((bt (rdOf eB_ t433 x41_2) (ji36)) - 97) % 256, SM.at_ (List.take ((x41_2 : Int).toNat + 1) t433) ((rdOf eB_ t433 x41_2).extract 0 ((ji36) : Int).toNat), t439⟩ : S96)])) else (none)) else (none)) else (none)) else (none)) = some r := by first | (rw [hji36] at H; exact H) | (simp only [hji36] at H ⊢; exact H)
   (try rw [hji36] at A24)
   have hji36w : (IntKind.i64.wrap (((rdOf eB_ t433 x41_2).size : Int) - 1)) = ji36 := (i6_ _).trans hji36
   obtain ⟨mv, hmv⟩ : ∃ m_ : Int, SM.at_ (List.take ((x41_2 : Int).toNat + 1) t433) ((rdOf eB_ t433 x41_2).extract 0 ((ji36) : Int).toNat) = m_ := ⟨_, rfl⟩
   rw [hmv] at H
   have HMV := aM_ hmv
   clear hmv
   by_cases c37 : 0 ≤ (ji36)
   rotate_left
   ·
    rw [if_neg c37] at H
    exact absurd H (by simp)
   rw [if_pos c37] at H
   have c37b0 := dT_ c37
   clear c37
   by_cases c38 : (ji36) < ((rdOf eB_ t433 x41_2).size : Int)
   rotate_left
   ·
    rw [if_neg c38] at H
    exact absurd H (by simp)
   rw [if_pos c38] at H
   have c38b0 := dT_ c38
   clear c38
   have c40b0 := eq_true (oD_ ‹_› : 0 ≤ (ji36))
   by_cases c41 : (ji36) ≤ ((rdOf eB_ t433 x41_2).size : Int)
   rotate_left
   ·
    rw [if_neg c41] at H
    exact absurd H (by simp)
   rw [if_pos c41] at H
   have c41b0 := eq_true c41
   have c41b1 := dT_ c41
   clear c41
   by_cases c42 : x437000_2.length < 5864062014805
   rotate_left
   ·
    rw [if_neg c42] at H
    exact absurd H (by simp)
   rw [if_pos c42] at H
   have LMc42 := aM_ c42
   clear c42
   obtain ⟨y444, hy444⟩ : ∃ y_ : List (S96), y_ = (x437000_2 ++ [(⟨((bt (rdOf eB_ t433 x41_2) (ji36)) - 97) % 256, mv, t439⟩ : S96)]) := ⟨_, rfl⟩
   replace H : (iF28.l2 k2 l0 t433 (t433.length : Int) (wrap64 (x41_2 + 1)) y444) = some r := by (try rw [hy444]); first | with_reducible exact H | with_reducible exact oS_ H | exact H
   have Ny444 := aM_ hy444
   clear hy444
   have H' := aM_ H
   clear H
   have p437 : 0 ≤ (x41_2 : Int) := oD_ ‹_›
   have q437 : x41_2 < (t433.length : Int) := oD_ ‹_›
   have HLL := aM_ (show (lm.length : Int) = x41_2 from by rw [HLM.out, List.length_take]; omega)
   have HLL2 := aM_ (show lm.length < t433.length from by rw [HLM.out, List.length_take]; omega)
   have HLP := aM_ (SM.okL.size HSZ.out x41_2 p437 q437)
   have HLN := aM_ (show lm ++ [rdOf eB_ t433 x41_2] = List.take ((x41_2 : Int).toNat + 1) t433 from by rw [HLM.out]; exact SM.take_rd t433 x41_2 p437 q437)
   have hwz_ : wrap64 ((bt (rdOf eB_ t433 x41_2) ji36 - 97) % 256) = (bt (rdOf eB_ t433 x41_2) ji36 - 97) % 256 := by unfold wrap64; omega
   obtain ⟨ad437, e437, hx437_0⟩ := Kd.at_string (kR_ HO_39.out).2.2 x41_2 p437 q437
   cases e437
   replace p437 := eq_true p437
   replace q437 := eq_true q437
   try go_wp2_with (first | (at_mapUpdate; refine SM.put rfl (.tmp 46) (.tmp 47) (.tmp 48) 112 Tryz.underlying112 rfl gbM lm rfl (by (with_reducible repeat (first | refine SM.Is.drewN ?_ _ | refine SM.Is.drew ?_ | refine SM.Is.alloc ?_ _)); exact BKM.out) ?hn (rdOf eB_ t433 x41_2) ?hp rfl ?hv ?_; (case hn => have h1_ := SM.okL.len HSZ.out; have h2_ := HLL2.out; omega); (case hp => have h1_ := HLP.out; unfold maxLen; omega); (case hv => exact (congrArg (Value.int IntKind.i64) HLL.out).symm); intro w9m h1m hgm; obtain ⟨lm2, hlm2⟩ : ∃ l_ : List ByteArray, l_ = lm ++ [rdOf eB_ t433 x41_2] := ⟨_, rfl⟩; rw [← hlm2] at h1m; have HLM2 := aM_ hlm2; clear hlm2; have nr0_ := aM_ (SM.R_over HO_39.out (by (with_reducible repeat (first | refine SM.Is.drewN ?_ _ | refine SM.Is.drew ?_ | refine SM.Is.alloc ?_ _)); exact BKM.out) hgm); have nr1_ := aM_ (SM.R_over HO_437000.out (by (with_reducible repeat (first | refine SM.Is.drewN ?_ _ | refine SM.Is.drew ?_ | refine SM.Is.alloc ?_ _)); exact BKM.out) hgm); have nb_ := aM_ (blk_grown (g := gb425) (o := .cells #[.slice none 0 0] 28 (0, 0)) BK425.out hgm (fun e_ => NBM_425.out (Option.some.inj e_).symm)); have nt_ := aM_ (blk_grown (g := gb436) BK436.out hgm (fun e_ => NBM_436.out (Option.some.inj e_).symm)); have nh_ := aM_ (RowKit.Below.grown HB.out hgm (bZ_ HB.out) (fun j hj => by cases hj; exact GEM.out)); clear HO_39 HO_437000 BK425 BK436 HB BKM; have HO_39 := nr0_; clear nr0_; have HO_437000 := nr1_; clear nr1_; have BK425 := nb_; have BK436 := nt_; have HB := nh_; have BKM := aM_ h1m; clear nb_ nt_ nh_ h1m hgm) | (refine gs_ 52 Tryz.func93 #[.slice A0 l0.length c0, .string (rdOf eB_ t433 x41_2)] ?_; (with_reducible refine (xF47.calls k2 _ _ l0 (rdOf eB_ t433 x41_2) t438 t439 _ ?side1 HC0.out A24.out).mono ?_); (case side1 => repeat (first | exact (k4_ HR0.out HB.out) | with_reducible first | apply cA_ | apply cN_ | apply cD_)); rintro e w' ⟨rfl, ⟨nd, rfl⟩⟩; refine ⟨_, rfl, ?_⟩; (try (rw [drewN_self wr]; generalize hq_ : World.drewN wr _ = wr; have n0_ : Aside0 (Kd.R Kd.string 9 wr w.heap.size (fun _ => True) (.slice (some ad437) t433.length co20) t433) := ⟨by rw [← hq_]; exact (by (with_reducible repeat (first | apply k1_ | apply k2_ | apply k3_)); exact HO_39.out)⟩; have n1_ : Aside0 (Kd.R k96 96 wr w.heap.size (fun _ => True) u437000 x437000_2) := ⟨by rw [← hq_]; exact (by (with_reducible repeat (first | apply k1_ | apply k2_ | apply k3_)); exact HO_437000.out)⟩; have n2_ : Aside0 (wr.heap[gb425]? = some (.cells #[.slice none 0 0] 28 (0, 0))) := ⟨by rw [← hq_]; exact (by (with_reducible repeat (first | refine b2_ ?_ _ | refine b1_ ?_ | refine b3_ ?_ _)); exact BK425.out)⟩; have n29_ : Aside0 (SM.Is wr gbM lm2) := ⟨by rw [← hq_]; exact (by (with_reducible repeat (first | refine SM.Is.drewN ?_ _ | refine SM.Is.drew ?_ | refine SM.Is.alloc ?_ _)); exact BKM.out)⟩; have n3_ : Aside0 (wr.heap[gb436]? = some (.cells #[u437000] 28 (0, 0))) := ⟨by rw [← hq_]; exact (by (with_reducible repeat (first | refine b2_ ?_ _ | refine b1_ ?_ | refine b3_ ?_ _)); exact BK436.out)⟩; have n4_ : Aside0 (Below w.heap.size w wr) := ⟨by rw [← hq_]; exact (by repeat with_reducible first | exact HB.out | apply bA_ | apply bN_ | apply bD_ | refine bS_ ?_ (Aside0.out ‹_›))⟩; clear HO_39 HO_437000 BKM BK425 BK436 HB hq_; have HO_39 := n0_; have HO_437000 := n1_; have BK425 := n2_; have BKM := n29_; have BK436 := n3_; have HB := n4_; clear n0_ n1_ n2_ n3_ n4_ n29_))) | (refine bx_ 13 #[.int .i64 0, .int .i64 0, .bool false] 96 ?_; intro gb440 hg w43 hbox hb; have n0_ := aM_ (kB_ (by (with_reducible repeat (first | apply k1_ | apply k2_ | apply k3_)); exact HO_39.out) hb); have n1_ := aM_ (kB_ (Kd.R_elderB (by (with_reducible repeat (first | apply k1_ | apply k2_ | apply k3_)); exact HO_437000.out) gb440 (Nat.le_of_eq hg.symm)) hb); have n2_ := aM_ (bB_ (g := gb425) (o := .cells #[.slice none 0 0] 28 (0, 0)) (by (with_reducible repeat (first | refine b2_ ?_ _ | refine b1_ ?_ | refine b3_ ?_ _)); exact BK425.out) hb); have n29_ := aM_ (SM.Is.below (l := lm2) (by (with_reducible repeat (first | refine SM.Is.drewN ?_ _ | refine SM.Is.drew ?_ | refine SM.Is.alloc ?_ _)); exact BKM.out) hb); have n3_ := aM_ (bB_ (g := gb436) (o := .cells #[u437000] 28 (0, 0)) (by (with_reducible repeat (first | refine b2_ ?_ _ | refine b1_ ?_ | refine b3_ ?_ _)); exact BK436.out) hb); have n4_ := aM_ (bT_ (by repeat with_reducible first | exact HB.out | apply bA_ | apply bN_ | apply bD_ | refine bS_ ?_ (Aside0.out ‹_›)) hb); have n5_ := aM_ (hbox); have n6_ := aM_ ((by rw [hg]; exact (bZ_ (by repeat with_reducible first | exact HB.out | apply bA_ | apply bN_ | apply bD_ | refine bS_ ?_ (Aside0.out ‹_›))) : w.heap.size ≤ gb440)); have n7_ := aM_ ((by rw [hg]; exact (bZ_ (by repeat with_reducible first | exact HB.out | apply bA_ | apply bN_ | apply bD_ | refine bS_ ?_ (Aside0.out ‹_›))) : w.heap.size ≤ gb440)); have n8_ := aM_ ((by rw [hg]; exact Nat.ne_of_lt (bL_ (g := gb425) (o := .cells #[.slice none 0 0] 28 (0, 0)) (by (with_reducible repeat (first | refine b2_ ?_ _ | refine b1_ ?_ | refine b3_ ?_ _)); exact BK425.out)) : gb425 ≠ gb440)); have n89_ := aM_ ((by rw [hg]; exact Nat.ne_of_lt (SM.Is.lt (l := lm2) (by (with_reducible repeat (first | refine SM.Is.drewN ?_ _ | refine SM.Is.drew ?_ | refine SM.Is.alloc ?_ _)); exact BKM.out)) : gbM ≠ gb440)); have n9_ := aM_ ((by rw [hg]; exact Nat.ne_of_gt (bL_ (g := gb425) (o := .cells #[.slice none 0 0] 28 (0, 0)) (by (with_reducible repeat (first | refine b2_ ?_ _ | refine b1_ ?_ | refine b3_ ?_ _)); exact BK425.out)) : gb440 ≠ gb425)); have n99_ := aM_ ((by rw [hg]; exact Nat.ne_of_gt (SM.Is.lt (l := lm2) (by (with_reducible repeat (first | refine SM.Is.drewN ?_ _ | refine SM.Is.drew ?_ | refine SM.Is.alloc ?_ _)); exact BKM.out)) : gb440 ≠ gbM)); have n10_ := aM_ ((by rw [hg]; exact Nat.ne_of_lt (bL_ (g := gb436) (o := .cells #[u437000] 28 (0, 0)) (by (with_reducible repeat (first | refine b2_ ?_ _ | refine b1_ ?_ | refine b3_ ?_ _)); exact BK436.out)) : gb436 ≠ gb440)); have n11_ := aM_ ((by rw [hg]; exact Nat.ne_of_gt (bL_ (g := gb436) (o := .cells #[u437000] 28 (0, 0)) (by (with_reducible repeat (first | refine b2_ ?_ _ | refine b1_ ?_ | refine b3_ ?_ _)); exact BK436.out)) : gb440 ≠ gb436)); clear HO_39; clear HO_437000; clear BKM; clear BK425; clear BK436; clear HB; have HO_39 := n0_; have HO_437000 := n1_; have BK425 := n2_; have BKM := n29_; have BK436 := n3_; have HB := n4_; have BK440 := n5_; have GW440 := n6_; have GW440 := n7_; have NB425_440 := n8_; have NBM_440 := n89_; have NB440_425 := n9_; have NB440_M := n99_; have NB436_440 := n10_; have NB440_436 := n11_; clear n0_ n1_ n2_ n3_ n4_ n5_ n6_ n7_ n8_ n9_ n10_ n11_ n29_ n89_ n99_; clear hb hbox hg; have hnb44 := NB440_425.out; have hnc44 := NB425_440.out; have hnb45 := NB440_436.out; have hnc45 := NB436_440.out; have hcz46_0 := c0_ BK440; have hcz46_1 := c1_ BK440; have hcz46_2 := c2_ BK440; have hfz46_0 := bF_ BK440.out 0; have hfz46_1 := bF_ BK440.out 1; have hfz46_2 := bF_ BK440.out 2))
   have n0_ : Aside0 (Kd.R Kd.string 9 (((w43.setCell ⟨gb440, 0, none⟩ (.int .i64 (-1))).setCell ⟨gb440, 1, none⟩ (.int .i64 (-1))).setCell ⟨gb440, 2, none⟩ (.bool t439)) w.heap.size (fun _ => True) (.slice (some ad437) t433.length co20) t433) := ⟨by exact kM_ (kG_ (kG_ (kG_ (kT_ HO_39.out BK440.out (by decide))))) (fun _ hk => trivial)⟩
   have n1_ : Aside0 (Kd.R k96 96 (((w43.setCell ⟨gb440, 0, none⟩ (.int .i64 (-1))).setCell ⟨gb440, 1, none⟩ (.int .i64 (-1))).setCell ⟨gb440, 2, none⟩ (.bool t439)) w.heap.size (fun k_ => k_ ≠ gb440) u437000 x437000_2) := ⟨by exact kM_ (kF_ (p := ⟨gb440, 2, none⟩) (kF_ (p := ⟨gb440, 1, none⟩) (kF_ (p := ⟨gb440, 0, none⟩) (kM_ HO_437000.out (fun k_ hk => (⟨hk, hk.2⟩ : _ ∧ k_ ≠ gb440))) (fun _ hk => hk.2) (.int .i64 (-1))) (fun _ hk => hk.2) (.int .i64 (-1))) (fun _ hk => hk.2) (.bool t439)) (fun _ hk => hk.1.2)⟩
   have n2_ : Aside0 ((((w43.setCell ⟨gb440, 0, none⟩ (.int .i64 (-1))).setCell ⟨gb440, 1, none⟩ (.int .i64 (-1))).setCell ⟨gb440, 2, none⟩ (.bool t439)).heap[gb425]? = some (.cells #[.slice none 0 0] 28 (0, 0))) := ⟨by exact br_ NB425_440.out (br_ NB425_440.out (br_ NB425_440.out (BK425.out)))⟩
   have n29_ : Aside0 (SM.Is (((w43.setCell ⟨gb440, 0, none⟩ (.int .i64 (-1))).setCell ⟨gb440, 1, none⟩ (.int .i64 (-1))).setCell ⟨gb440, 2, none⟩ (.bool t439)) gbM lm2) := ⟨by (with_reducible repeat (first | refine SM.Is.drewN ?_ _ | refine SM.Is.drew ?_ | refine SM.Is.alloc ?_ _)); refine SM.Is.far ?_ NBM_440.out _; (with_reducible repeat (first | refine SM.Is.drewN ?_ _ | refine SM.Is.drew ?_ | refine SM.Is.alloc ?_ _)); refine SM.Is.far ?_ NBM_440.out _; (with_reducible repeat (first | refine SM.Is.drewN ?_ _ | refine SM.Is.drew ?_ | refine SM.Is.alloc ?_ _)); refine SM.Is.far ?_ NBM_440.out _; (with_reducible repeat (first | refine SM.Is.drewN ?_ _ | refine SM.Is.drew ?_ | refine SM.Is.alloc ?_ _)); exact BKM.out⟩
   have n3_ : Aside0 ((((w43.setCell ⟨gb440, 0, none⟩ (.int .i64 (-1))).setCell ⟨gb440, 1, none⟩ (.int .i64 (-1))).setCell ⟨gb440, 2, none⟩ (.bool t439)).heap[gb436]? = some (.cells #[u437000] 28 (0, 0))) := ⟨by exact br_ NB436_440.out (br_ NB436_440.out (br_ NB436_440.out (BK436.out)))⟩
   have n4_ : Aside0 ((((w43.setCell ⟨gb440, 0, none⟩ (.int .i64 (-1))).setCell ⟨gb440, 1, none⟩ (.int .i64 (-1))).setCell ⟨gb440, 2, none⟩ (.bool t439)).heap[gb440]? = some (.cells #[.int .i64 (-1), .int .i64 (-1), .bool t439] 96 (0, 0))) := ⟨by refine bP_ (cs := #[.int .i64 (-1), .int .i64 (-1), .bool false]) ?_ 2 _ rfl; refine bP_ (cs := #[.int .i64 (-1), .int .i64 0, .bool false]) ?_ 1 _ rfl; refine bP_ (cs := #[.int .i64 0, .int .i64 0, .bool false]) ?_ 0 _ rfl; exact BK440.out⟩
   have n5_ : Aside0 (Below w.heap.size w (((w43.setCell ⟨gb440, 0, none⟩ (.int .i64 (-1))).setCell ⟨gb440, 1, none⟩ (.int .i64 (-1))).setCell ⟨gb440, 2, none⟩ (.bool t439))) := ⟨by repeat with_reducible first | exact HB.out | apply bA_ | apply bN_ | apply bD_ | refine bS_ ?_ (Aside0.out ‹_›)⟩
   (try clear HO_39)
   (try clear HO_437000)
   (try clear BK425); (try clear BKM)
   (try clear BK436)
   (try clear BK440)
   (try clear HB)
   generalize (((w43.setCell ⟨gb440, 0, none⟩ (.int .i64 (-1))).setCell ⟨gb440, 1, none⟩ (.int .i64 (-1))).setCell ⟨gb440, 2, none⟩ (.bool t439)) = w47 at n0_ n1_ n2_ n3_ n4_ n5_ n29_ ⊢
   have HO_39 := n0_
   have HO_437000 := n1_
   have BK425 := n2_
   have BKM := n29_
   have BK436 := n3_
   have BK440 := n4_
   have HB := n5_
   clear n0_ n1_ n2_ n3_ n4_ n5_ n29_
   have n0_ := aM_ (k3_ HO_39.out)
   have n1_ := aM_ (k3_ HO_437000.out)
   have n2_ := aM_ (b1_ BK425.out)
   have n29_ := aM_ (SM.Is.drew BKM.out)
   have n3_ := aM_ (b1_ BK436.out)
   have n4_ := aM_ (b1_ BK440.out)
   have n5_ := aM_ (bD_ HB.out)
   clear HO_39
   clear HO_437000
   clear BKM; clear BK425
   clear BK436
   clear BK440
   clear HB
   have HO_39 := n0_
   have HO_437000 := n1_
   have BK425 := n2_
   have BKM := n29_
   have BK436 := n3_
   have BK440 := n4_
   have HB := n5_
   clear n0_ n1_ n2_ n3_ n4_ n5_ n29_
   have p39 : 0 ≤ ((ji36) : Int) := oD_ ‹_›
   have q39 : (ji36) < ((rdOf eB_ t433 x41_2).size : Int) := oD_ ‹_›
   have hx39 := bt_at (rdOf eB_ t433 x41_2) (ji36)
   replace p39 := eq_true p39
   replace q39 := eq_true q39
   refine start_ (n := 18) (S := fun w' => SM.Is w' gbM lm2) (ds := []) #[fy, fy, fy, fy, fy, fy, fy, fy, fy, fy, fy, fy, fy, fy, fy, fy, fy, fy] (by kernel_rfl) rfl rfl (SM.Is.drew BKM.out) (fun hHeld => ?_); refine with_tabW iF28.tab20 iF28.bits20 (fun HT_ HW_ => ?_)
   generalize w47.drew = w48 at HO_39 HO_437000 BKM BK425 BK436 BK440 HB hHeld ⊢
   refine pu_ HT_ 0 59 #[ty, fy, fy, fy, fy, fy, fy, fy, fy, fy, fy, fy, fy, fy, fy, fy, fy, fy] ?_
   refine pu_ HT_ 1 60 #[ty, ty, fy, fy, fy, fy, fy, fy, fy, fy, fy, fy, fy, fy, fy, fy, fy, fy] ?_
   refine pu_ HT_ 2 61 #[ty, ty, ty, fy, fy, fy, fy, fy, fy, fy, fy, fy, fy, fy, fy, fy, fy, fy] ?_
   refine pu_ HT_ 3 62 #[ty, ty, ty, ty, fy, fy, fy, fy, fy, fy, fy, fy, fy, fy, fy, fy, fy, fy] ?_
   refine pu_ HT_ 7 66 #[ty, ty, ty, ty, fy, fy, fy, ty, fy, fy, fy, fy, fy, fy, fy, fy, fy, fy] ?_
   refine pu_ HT_ 8 67 #[ty, ty, ty, ty, fy, fy, fy, ty, ty, fy, fy, fy, fy, fy, fy, fy, fy, fy] ?_
   refine pu_ HT_ 9 68 #[ty, ty, ty, ty, fy, fy, fy, ty, ty, ty, fy, fy, fy, fy, fy, fy, fy, fy] ?_
   refine pu_ HT_ 10 69 #[ty, ty, ty, ty, fy, fy, fy, ty, ty, ty, ty, fy, fy, fy, fy, fy, fy, fy] ?_
   refine pu_ HT_ 11 70 #[ty, ty, ty, ty, fy, fy, fy, ty, ty, ty, ty, ty, fy, fy, fy, fy, fy, fy] ?_
   refine pu_ HT_ 12 71 #[ty, ty, ty, ty, fy, fy, fy, ty, ty, ty, ty, ty, ty, fy, fy, fy, fy, fy] ?_
   refine take_ (i := 13) (N := some 72) (v := ?_) (a' := ?_) #[ty, ty, ty, ty, fy, fy, fy, ty, ty, ty, ty, ty, ty, ty, fy, fy, fy, fy] rfl rfl (tW_ HT_.out HW_.out (by kernel_rfl)) (fun _ _ _ h => h) (Or.inl ⟨by rfl, ?_⟩) hHeld ?_ ?_
   rotate_left
   ·
    intro w' hS_
    have hlk_ := SM.get hS_ 112 Tryz.underlying112 ((rdOf eB_ t433 x41_2).extract 0 ((ji36) : Int).toNat) (SM.size_ext _ _ HLP.out)
    rw [show SM.at_ lm2 ((rdOf eB_ t433 x41_2).extract 0 ((ji36) : Int).toNat) = mv from by rw [HLM2.out, HLN.out]; exact HMV.out] at hlk_
    go_simp
    with_reducible rfl
   rotate_left
   ·
    simp only [Act.put, sA_, sB_, sC_, i6_, i3_]
    rfl
   refine take_ (i := 4) (N := some 63) (v := ?_) (a' := ?_) #[ty, ty, ty, ty, ty, fy, fy, ty, ty, ty, ty, ty, ty, ty, fy, fy, fy, fy] rfl rfl (tW_ HT_.out HW_.out (by kernel_rfl)) (fun _ _ _ h => h) (Or.inl ⟨by rfl, ?_⟩) hHeld ?_ ?_; rotate_left; (intro w' _; go_simp; with_reducible rfl); rotate_left; (simp only [Act.put, sA_, sB_, sC_, i6_, i3_]; rfl)
   refine pu_ HT_ 5 64 #[ty, ty, ty, ty, ty, ty, fy, ty, ty, ty, ty, ty, ty, ty, fy, fy, fy, fy] ?_
   refine pu_ HT_ 6 65 #[ty, ty, ty, ty, ty, ty, ty, ty, ty, ty, ty, ty, ty, ty, fy, fy, fy, fy] ?_
   refine pu_ HT_ 14 73 #[ty, ty, ty, ty, ty, ty, ty, ty, ty, ty, ty, ty, ty, ty, ty, fy, fy, fy] ?_
   refine one_ (i := 15) (N := none) #[ty, ty, ty, ty, ty, ty, ty, ty, ty, ty, ty, ty, ty, ty, ty, ty, fy, fy] rfl rfl (one_of HT_.out (by kernel_rfl)) (by decide) (fun K hK => ?_)
   have hs49 : w48.cell? ⟨gb440, 0, none⟩ = some (.int .i64 (-1)) := (bC_ BK440.out 0).trans rfl
   have hfs49 := bF_ BK440.out 0
   have hns49_0 := NB425_440.out
   have hns49_1 := NB436_440.out
   have hms49_0 := NB440_425.out
   have hms49_1 := NB440_436.out
   refine skip_ (w1 := ?_) (by rfl) rfl ?_ ?_
   rotate_left
   ·
    go_simp
    rfl
   refine hK.out _ _ (by exact SM.Is.far hHeld NBM_440.out _) (fun hHeld => ?_)
   clear hK K
   refine pu_ HT_ 16 74 #[ty, ty, ty, ty, ty, ty, ty, ty, ty, ty, ty, ty, ty, ty, ty, ty, ty, fy] ?_
   refine one_ (i := 17) (N := none) #[ty, ty, ty, ty, ty, ty, ty, ty, ty, ty, ty, ty, ty, ty, ty, ty, ty, ty] rfl rfl (one_of HT_.out (by kernel_rfl)) (by decide) (fun K hK => ?_)
   have hs50 : w48.cell? ⟨gb440, 1, none⟩ = some (.int .i64 (-1)) := (bC_ BK440.out 1).trans rfl
   have hfs50 := bF_ BK440.out 1
   have hns50_0 := NB425_440.out
   have hns50_1 := NB436_440.out
   have hms50_0 := NB440_425.out
   have hms50_1 := NB440_436.out
   refine skip_ (w1 := ?_) (by rfl) rfl ?_ ?_
   rotate_left
   ·
    go_simp
    rfl
   refine hK.out _ _ (by exact SM.Is.far hHeld NBM_440.out _) (fun hHeld => ?_)
   clear hK K
   refine done_ (done_of HT_.out (by kernel_rfl)) ?_
   have hnb51 := NB436_425.out
   have hnc51 := NB425_436.out
   have hcz52_0 := c0_ BK436
   have hfz52_0 := bF_ BK436.out 0
   have hcz53_0 := c0_ BK440
   have hcz53_1 := c1_ BK440
   have hcz53_2 := c2_ BK440
   have hfz53_0 := bF_ BK440.out 0
   have hfz53_1 := bF_ BK440.out 1
   have hfz53_2 := bF_ BK440.out 2
   try go_wp2_with (first | ((with_reducible refine gate_builtin (b := .append) (xs := #[.tmp 76, .tmp 78]) rfl ?_); at_builtin; refine Kd.R_append k96 (w0 := w) w.heap.size rfl (.tmp 76) (.tmp 78) 26 96 (.agg #[(.int .i64 0), (.int .i64 0), (.bool false)]) 24 rfl Tryz.underlying26 info96 rfl (by decide) (by omega) u437000 x437000_2 (⟨((bt (rdOf eB_ t433 x41_2) (ji36)) - 97) % 256, mv, t439⟩ : S96) [.int .i64 (((bt (rdOf eB_ t433 x41_2) (ji36)) - 97) % 256), .int .i64 mv, .bool t439] (fun k_ => k_ ≠ gb440) (fun _ => False) rfl (by (go_simp; done)) ?aP (fun _ hk => hk.elim) ?aF ?aO ?aB ?aS ?aL ?_; (case aP => exact k96_mkM _ _ _ (⟨((bt (rdOf eB_ t433 x41_2) (ji36)) - 97) % 256, mv, t439⟩ : S96)); (case aB => exact (by repeat with_reducible first | exact HB.out | apply bA_ | apply bN_ | apply bD_ | refine bS_ ?_ (Aside0.out ‹_›))); (case aF => exact (fun k_ hk => Kd.freshB (g := gb440) (o := .cells #[.int .i64 (((bt (rdOf eB_ t433 x41_2) (ji36)) - 97) % 256), .int .i64 mv, .bool t439] 96 (0, 0)) (by refine bP_ (cs := #[.int .i64 (((bt (rdOf eB_ t433 x41_2) (ji36)) - 97) % 256), .int .i64 (-1), .bool t439]) ?_ 1 _ rfl; refine bP_ (cs := #[.int .i64 (-1), .int .i64 (-1), .bool t439]) ?_ 0 _ rfl; exact BK440.out) k_ hk)); (case aO => exact (by exact kM_ (kF_ (p := ⟨gb440, 1, none⟩) (kF_ (p := ⟨gb440, 0, none⟩) (kM_ HO_437000.out (fun k_ hk => (⟨hk, hk⟩ : _ ∧ k_ ≠ gb440))) (fun _ hk => hk.2) (.int .i64 (((bt (rdOf eB_ t433 x41_2) (ji36)) - 97) % 256))) (fun _ hk => hk.2) (.int .i64 mv)) (fun _ hk => hk.1))); (case aS => exact (bZ_ (by repeat with_reducible first | exact HB.out | apply bA_ | apply bN_ | apply bD_ | refine bS_ ?_ (Aside0.out ‹_›)))); (case aL => have := LMc42.out; omega); intro v445 w54 ho hb hg hat; rw [← Ny444.out] at ho; have n0_ := aM_ (Kd.R_over' (by exact (kM_ (kG_ (kG_ (kT_ HO_39.out BK440.out (by decide)))) (fun _ h_ => h_.1))) (Kd.R_typed (by exact (kM_ (kF_ (p := ⟨gb440, 1, none⟩) (kF_ (p := ⟨gb440, 0, none⟩) (kM_ HO_437000.out (fun k_ hk => (⟨hk, hk⟩ : _ ∧ k_ ≠ gb440))) (fun _ hk => hk.2) (.int .i64 (((bt (rdOf eB_ t433 x41_2) (ji36)) - 97) % 256))) (fun _ hk => hk.2) (.int .i64 mv)) (fun _ h_ => h_.1)))) (by decide) hg); have n1_ := aM_ (blk_grown (g := gb425) (o := .cells #[.slice none 0 0] 28 (0, 0)) (by exact br_ NB425_440.out (br_ NB425_440.out (BK425.out))) hg (k6_ HO_437000.out BK425.out (by decide))); have n19_ := aM_ (SM.Is.grown (l := lm2) (by (with_reducible repeat (first | refine SM.Is.drewN ?_ _ | refine SM.Is.drew ?_ | refine SM.Is.alloc ?_ _)); refine SM.Is.far ?_ NBM_440.out _; (with_reducible repeat (first | refine SM.Is.drewN ?_ _ | refine SM.Is.drew ?_ | refine SM.Is.alloc ?_ _)); refine SM.Is.far ?_ NBM_440.out _; (with_reducible repeat (first | refine SM.Is.drewN ?_ _ | refine SM.Is.drew ?_ | refine SM.Is.alloc ?_ _)); exact BKM.out) hg (SM.Is.ne BKM.out HO_437000.out)); have n2_ := aM_ (blk_grown (g := gb436) (o := .cells #[u437000] 28 (0, 0)) (by exact br_ NB436_440.out (br_ NB436_440.out (BK436.out))) hg (k6_ HO_437000.out BK436.out (by decide))); have n3_ := aM_ (blk_grown (g := gb440) (o := .cells #[.int .i64 (((bt (rdOf eB_ t433 x41_2) (ji36)) - 97) % 256), .int .i64 mv, .bool t439] 96 (0, 0)) (by refine bP_ (cs := #[.int .i64 (((bt (rdOf eB_ t433 x41_2) (ji36)) - 97) % 256), .int .i64 (-1), .bool t439]) ?_ 1 _ rfl; refine bP_ (cs := #[.int .i64 (-1), .int .i64 (-1), .bool t439]) ?_ 0 _ rfl; exact BK440.out) hg (Kd.R_away HO_437000.out (fun _ hk => hk))); have n4_ := aM_ (hb); have n5_ := aM_ (ho); clear HO_39; clear BKM; clear BK425; clear BK436; clear BK440; clear HB; clear HO_437000; have HO_39 := n0_; have BK425 := n1_; have BKM := n19_; have BK436 := n2_; have BK440 := n3_; have HB := n4_; have HO446 := n5_; clear n0_ n1_ n2_ n3_ n4_ n5_ n19_; clear ho hb hg hat; obtain ⟨Ao55, co55, eo55⟩ := kS_ HO446.out; subst eo55; have hcz56_0 := c0_ BK436; have hfz56_0 := bF_ BK436.out 0))
   go_roundg k2
   case measure => have := HK1.out; have := HK2.out; omega
   case rel => exact ⟨(wrap64 (x41_2 + 1)), (y444), (.slice Ao55 y444.length co55), (by rfl), H', ⟨by have := HK1.out; have := HK2.out; omega⟩, ⟨by exact kM_ (kG_ (kT_ HO_39.out BK436.out (by decide))) (fun _ hk => trivial)⟩, ⟨by exact kM_ (kG_ (kT_ HO446.out BK436.out (by decide))) (fun _ hk => trivial)⟩, ⟨by exact br_ NB425_436.out (BK425.out)⟩, ⟨by refine bP_ (cs := #[u437000]) ?_ 0 _ rfl; exact BK436.out⟩, ⟨by repeat with_reducible first | exact HB.out | apply bA_ | apply bN_ | apply bD_ | refine bS_ ?_ (Aside0.out ‹_›)⟩, ⟨by rw [SM.next_rd t433 x41_2 lm2 HLM2.out HLN.out HLL.out HLL2.out HSZ.out]; (with_reducible repeat (first | refine SM.Is.drewN ?_ _ | refine SM.Is.drew ?_ | refine SM.Is.alloc ?_ _)); refine SM.Is.far ?_ NBM_436.out _; (with_reducible repeat (first | refine SM.Is.drewN ?_ _ | refine SM.Is.drew ?_ | refine SM.Is.alloc ?_ _)); exact BKM.out⟩⟩
def iF24.f (k : Nat) (l0 : List ByteArray) : Option ((List (S96)) × Bool) := (iF27.f l0).bind fun t448 => (if (t448.length : Int) > 40 then (some (([] : List (S96)), false)) else ((iF28.f k t448).bind fun t451 => (some (t451, true))))
theorem iF24.mono : ∀ a0 k, LeO (iF24.f k a0) (iF24.f (k + 1) a0) := by
 intro a0 k
 unfold iF24.f
 repeat' with_reducible first | exact iF28.mono _ _ | exact l3_ _ | exact l0_ _ | refine l2_ ?_ ?_ | refine l1_ ?_ (fun _ => ?_)
theorem iF24.calls (k : Nat) (A0 : Option Addr) (c0 : Nat) (l0 : List ByteArray) (r1 : List (S96)) (r2 : Bool) (w : World) (hr0 : Kd.C Kd.string w A0 l0.length l0) (hc0 : l0.length ≤ c0) (h : iF24.f k l0 = some (r1, r2)) :
  Calls Tryz.prog 82 #[.slice A0 l0.length c0] w fun e w' => ∃ v0_ : Value, e = .returned (.tuple #[.agg #[v0_], .bool r2]) ∧ Kd.R k96 96 w' w.heap.size (fun _ => True) v0_ r1 ∧ Below w.heap.size w w' := by
 have hu28 := Tryz.underlying28
 have HR0 := aM_ hr0
 have HC0 := aM_ hc0
 clear hr0 hc0
 have HB := aM_ (Below.refl w.heap.size w)
 have H : ((iF27.f l0).bind fun t448 => (if (t448.length : Int) > 40 then (some (([] : List (S96)), false)) else ((iF28.f k t448).bind fun t451 => (some (t451, true))))) = some (r1, r2) := h
 clear h
 replace H := oB_.mp H
 obtain ⟨t448, A20, H⟩ := H
 try dsimp only at H
 have A2 := aM_ A20
 clear A20
 by_cases c3 : (t448.length : Int) > 40
 ·
  rw [if_pos c3] at H
  have c3b0 := dT_ c3
  have c3b1 : decide (40 < t448.length) = true := dT_ (by omega)
  clear c3
  simp only [Option.some.injEq, Prod.mk.injEq] at H
  obtain ⟨rfl, rfl⟩ := H
  go_enter Tryz.func82, Tryz.ntmps82
  go_wp2_with (first | (refine bx_ 2 #[.slice none 0 0] 28 ?_; intro gb447 hg w4 hbox hb; have BK447 := aM_ (hbox); have GW447 := gw_ hg HB; replace HB := b4_ HB hb; clear hb hbox hg) | (refine gs_ 6 Tryz.func107 #[.slice A0 l0.length c0] ?_; (with_reducible refine (iF27.calls _ _ l0 t448 _ ?side1 HC0.out A2.out).mono ?_); (case side1 => repeat (first | exact (k4_ HR0.out HB.out) | with_reducible first | apply cA_ | apply cN_ | apply cD_)); rintro e w5 ⟨v449, rfl, ho0, hb⟩; refine ⟨_, rfl, ?_⟩; have HO450 := aM_ (k5_ ho0 (bZ_ HB.out)); replace BK447 := b5_ BK447 hb; replace HB := b4_ HB hb; (try clear hb); (try clear ho0); obtain ⟨Ao6, co6, eo6⟩ := kS_ HO450.out; subst eo6; have hcz7_0 := c0_ BK447; have hfz7_0 := bF_ BK447.out 0))
  refine bodyPost_ret (results_ct rfl _ _ gb447 28 #[.slice none 0 0] (0, 0) _ rfl (by refine bP_ (cs := #[.slice none 0 0]) ?_ 0 _ rfl; exact BK447.out) Tryz.underlying28 rfl (by kernel_rfl)) rfl ?_
  exact ⟨_, by rfl, by exact Kd.R_nil _ _ _ _ _, by repeat with_reducible first | exact HB.out | apply bA_ | apply bN_ | apply bD_ | refine bS_ ?_ GW447.out⟩
 rw [if_neg c3] at H
 have c3b0 := dF_ c3
 have c3b1 : decide (40 < t448.length) = false := dF_ (by omega)
 clear c3
 replace H := oB_.mp H
 obtain ⟨t451, A80, H⟩ := H
 try dsimp only at H
 have A8 := aM_ A80
 clear A80
 simp only [Option.some.injEq, Prod.mk.injEq] at H
 obtain ⟨rfl, rfl⟩ := H
 go_enter Tryz.func82, Tryz.ntmps82
 go_wp2_with (first | (refine bx_ 2 #[.slice none 0 0] 28 ?_; intro gb447 hg w9 hbox hb; have BK447 := aM_ (hbox); have GW447 := gw_ hg HB; replace HB := b4_ HB hb; clear hb hbox hg) | (refine gs_ 6 Tryz.func107 #[.slice A0 l0.length c0] ?_; (with_reducible refine (iF27.calls _ _ l0 t448 _ ?side1 HC0.out A2.out).mono ?_); (case side1 => repeat (first | exact (k4_ HR0.out HB.out) | with_reducible first | apply cA_ | apply cN_ | apply cD_)); rintro e w10 ⟨v449, rfl, ho0, hb⟩; refine ⟨_, rfl, ?_⟩; have HO450 := aM_ (k5_ ho0 (bZ_ HB.out)); replace BK447 := b5_ BK447 hb; replace HB := b4_ HB hb; (try clear hb); (try clear ho0); obtain ⟨Ao11, co11, eo11⟩ := kS_ HO450.out; subst eo11) | (refine gs_ 12 Tryz.func108 #[.slice Ao11 t448.length co11] ?_; (with_reducible refine (iF28.calls k _ _ t448 t451 _ ?side1 ?side2 A8.out).mono ?_); (case side1 => repeat (first | exact (kR_ HO450.out).2.2 | with_reducible first | apply cA_ | apply cN_ | apply cD_)); (case side2 => exact (kR_ HO450.out).2.1); rintro e w12 ⟨v452, rfl, ho0, hb⟩; refine ⟨_, rfl, ?_⟩; replace HO450 := k9_ HO450 hb; have HO453 := aM_ (k5_ ho0 (bZ_ HB.out)); replace BK447 := b5_ BK447 hb; replace HB := b4_ HB hb; (try clear hb); (try clear ho0); obtain ⟨Ao13, co13, eo13⟩ := kS_ HO453.out; subst eo13; have hcz14_0 := c0_ BK447; have hfz14_0 := bF_ BK447.out 0))
 refine bodyPost_ret (results_ct rfl _ _ gb447 28 #[.slice Ao13 t451.length co13] (0, 0) _ rfl (by refine bP_ (cs := #[.slice none 0 0]) ?_ 0 _ rfl; exact BK447.out) Tryz.underlying28 rfl (by kernel_rfl)) rfl ?_
 exact ⟨_, by rfl, by exact kM_ (kG_ (kT_ HO453.out BK447.out (by decide))) (fun _ hk => trivial), by repeat with_reducible first | exact HB.out | apply bA_ | apply bN_ | apply bD_ | refine bS_ ?_ GW447.out⟩
end Go.Proofs.YtnnkedeohfbkeaaGreatDoor.P
