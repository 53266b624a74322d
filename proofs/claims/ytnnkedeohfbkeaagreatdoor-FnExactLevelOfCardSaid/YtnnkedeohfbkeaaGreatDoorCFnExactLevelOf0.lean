/-
  Part 1 of the proof that FnExactLevelOf returns true for every input: the functions that it reaches, each with its contract, and the law.
  Conditions: those of the given statement, no others.
-/
import Derived.Test.YtnnkedeohfbkeaaGreatDoorKNW0
import Derived.Test.YtnnkedeohfbkeaaGreatDoorRows
import Derived.WalkKit
import Derived.ProofKit
import Derived.OpenShut
import Derived.ShutString
import Derived.ChangeOld
import Derived.Below
import Derived.SizedLaws
import Derived.Lay
import Derived.LaidOnce
import Derived.SevenTiedAt
import Derived.Test.YtnnkedeohfbkeaaGreatDoorCards
import Derived.Test.YtnnkedeohfbkeaaGreatDoorTie
import Derived.Test.YtnnkedeohfbkeaaGreatDoorKN0
import Derived.Test.YtnnkedeohfbkeaaGreatDoorKN2
import Derived.Test.YtnnkedeohfbkeaaGreatDoorKN1
import Derived.Test.YtnnkedeohfbkeaaGreatDoorKN3
import Derived.Test.YtnnkedeohfbkeaaGreatDoorKN4
set_option linter.unusedVariables false
set_option linter.unusedSimpArgs false
set_option maxHeartbeats 8000000
set_option maxRecDepth 100000
namespace Go.Proofs.YtnnkedeohfbkeaaGreatDoor.P
open Go.RowKit Go.Proofs.YtnnkedeohfbkeaaGreatDoorW.PrintWords Go.Proofs.YtnnkedeohfbkeaaGreatDoorW.PrintLast Go.Proofs.YtnnkedeohfbkeaaGreatDoorW.PrintMore
open Go.Proofs.YtnnkedeohfbkeaaGreatDoorW.PrintWords renaming blk_frozen → bF_, blk_cell → bC_, below_set → bS_, blk_below → bB_, below_step → bT_, pw_below_drewN → bN_, below_size → bZ_, below_drew1 → bD_, below_alloc → bA_, blk_far → bR_, gate_callee → gC_, gate_dst → gD_, box_event → bE_, blk_drew → b1_, blk_put → bP_, blk_drewN → b2_, blk_alloc → b3_, blk_lt → bL_, cell_far → cF_
open Go.Proofs.YtnnkedeohfbkeaaGreatDoorW.PrintLast renaming any_of → aO_, i64_w → i6_, i32_w → i3_, take_ofW → tW_
open Go.Proofs.YtnnkedeohfbkeaaGreatDoorW.PrintWords.Kd renaming R_below → kB_, R_mono → kM_, R_far → kF_, R_reads' → kR_, R_types → kT_, R_slice → kS_, R_celln → kC_, R_alloc → k1_, R_drewN → k2_, R_drew → k3_, C_below → k4_, R_lower → k5_, R_ne → k6_, own_blk → k7_
open Go.Proofs.YtnnkedeohfbkeaaGreatDoorW.PrintWords.LeO renaming none → l0_, bind → l1_, ite → l2_, refl → l3_
open World renaming block_lt_of_cell? → wB_
open _root_.Option renaming bind_eq_some_iff → oB_
open _root_.ByteArray renaming empty → eB_
open List renaming setIfInBounds_toArray → sA_, set_cons_zero → sB_, set_cons_succ → sC_, map_toArray → sD_, map_cons → sE_, map_nil → sF_, length_drop → sG_, length_take → sH_
open Bool renaming true → ty, false → fy
open Aside0 renaming mk → aM_
attribute [local go_sem] max2_int min2_int max_two min_two max_three min_three max_four min_four
def spec_l1Most.f (a0 : Int) (a1 : Int) : Option (Int) := if a0 > a1 then (some a0) else (some a1)
theorem spec_l1Most.calls (a0 : Int) (a1 : Int) (r : Int) (w : World) (h : spec_l1Most.f a0 a1 = some r) :
  Calls Tryz.prog 64 #[.int .i64 a0, .int .i64 a1] w fun e w' => e = .returned (.int .i64 r) ∧ Drawn0 w w' := by
 have H : (if a0 > a1 then (some a0) else (some a1)) = some r := h
 clear h
 by_cases c3 : a0 > a1
 ·
  rw [if_pos c3] at H
  have c3b0 := dT_ c3
  clear c3
  obtain rfl := Option.some.inj H
  go_enter Tryz.func64, Tryz.ntmps64
  go_wp2
  go_ret
  exact ⟨by rfl, by repeat (first | exact Drawn0.refl _ | apply Drawn0.step)⟩
 rw [if_neg c3] at H
 have c3b0 := dF_ c3
 clear c3
 obtain rfl := Option.some.inj H
 go_enter Tryz.func64, Tryz.ntmps64
 go_wp2
 go_ret
 exact ⟨by rfl, by repeat (first | exact Drawn0.refl _ | apply Drawn0.step)⟩
def slices_Index_int_int.l0 : Nat → List Int → Int → Int → Int → Option (Int)
 | 0, _, _, _, _ => none
 | k + 1, x0, x1, x7, x8 => if x8 < x7 then (if 0 ≤ x8 then (if x8 < (x0.length : Int) then (if x1 = (rd x0 x8) then (some x8) else (slices_Index_int_int.l0 k x0 x1 x7 (wrap64 (x8 + 1)))) else (none)) else (none)) else (some (-1))
def slices_Index_int_int.f (k : Nat) (l0 : List Int) (a1 : Int) : Option (Int) := slices_Index_int_int.l0 k l0 a1 (l0.length : Int) 0
theorem slices_Index_int_int.mono_l : ∀ k, (∀ y0 y1 y2 y3, LeO (slices_Index_int_int.l0 k y0 y1 y2 y3) (slices_Index_int_int.l0 (k + 1) y0 y1 y2 y3))
 | 0 => fun _ _ _ _ r h => by simp [slices_Index_int_int.l0] at h
 | k + 1 => by
  have ih0 := slices_Index_int_int.mono_l k
  intro y0 y1 y2 y3
  unfold slices_Index_int_int.l0
  repeat' with_reducible first | exact ih0 _ _ _ _ | exact l3_ _ | exact l0_ _ | refine l2_ ?_ ?_ | refine l1_ ?_ (fun _ => ?_)
theorem slices_Index_int_int.mono : ∀ a0 a1 k, LeO (slices_Index_int_int.f k a0 a1) (slices_Index_int_int.f (k + 1) a0 a1) := by
 intro a0 a1 k
 have ih0 := slices_Index_int_int.mono_l k
 unfold slices_Index_int_int.f
 repeat' with_reducible first | exact ih0 _ _ _ _ | exact l3_ _ | exact l0_ _ | refine l2_ ?_ ?_ | refine l1_ ?_ (fun _ => ?_)
theorem slices_Index_int_int.calls (k : Nat) (A0 : Option Addr) (c0 : Nat) (l0 : List Int) (a1 : Int) (r : Int) (w : World) (hr0 : Kd.C (Kd.int .i64) w A0 l0.length l0) (hc0 : l0.length ≤ c0) (h : slices_Index_int_int.f k l0 a1 = some r) :
  Calls Tryz.prog 99 #[.slice A0 l0.length c0, .int .i64 a1] w fun e w' => e = .returned (.int .i64 r) ∧ Drawn0 w w' := by
 have HR0 := aM_ hr0
 have HC0 := aM_ hc0
 clear hr0 hc0
 have H : (slices_Index_int_int.l0 k l0 a1 (l0.length : Int) 0) = some r := h
 clear h
 have H' := aM_ H
 clear H
 go_enter Tryz.func99, Tryz.ntmps99
 go_wp2
 go_loopg [8] k (fun kq v8 w' => ∃ (x8_1 : Int), v8 = .int .i64 x8_1 ∧ Aside0 (slices_Index_int_int.l0 kq l0 a1 (l0.length : Int) x8_1 = some r) ∧ Aside0 (kq ≤ k) ∧ Drawn0 w w')
 case atStart => exact ⟨(0), (by rfl), H', ⟨Nat.le_refl _⟩, by repeat (first | exact Drawn0.refl _ | apply Drawn0.step)⟩
 clear H'
 try clear p2
 obtain ⟨x8_1, rfl, HA, HK1, ⟨m1, rfl⟩⟩ := hrel
 cases gk with
 | zero => exact absurd HA.out (by simp [slices_Index_int_int.l0])
 | succ k1 =>
  have H := HA.out
  clear HA
  simp only [slices_Index_int_int.l0] at H
  by_cases c3 : x8_1 < (l0.length : Int)
  rotate_left
  ·
   rw [if_neg c3] at H
   have c3b0 := dF_ c3
   clear c3
   obtain rfl := Option.some.inj H
   go_wp2
   go_ret
   exact ⟨by rfl, by repeat (first | exact Drawn0.refl _ | apply Drawn0.step)⟩
  rw [if_pos c3] at H
  have c3b0 := dT_ c3
  clear c3
  by_cases c4 : 0 ≤ x8_1
  rotate_left
  ·
   rw [if_neg c4] at H
   exact absurd H (by simp)
  rw [if_pos c4] at H
  have c4b0 := dT_ c4
  clear c4
  by_cases c5 : x8_1 < (l0.length : Int)
  rotate_left
  ·
   rw [if_neg c5] at H
   exact absurd H (by simp)
  rw [if_pos c5] at H
  have c5b0 := dT_ c5
  clear c5
  by_cases c6 : a1 = (rd l0 x8_1)
  ·
   rw [if_pos c6] at H
   have c6b0 : (a1 == (rd l0 x8_1)) = true := beq_iff_eq.mpr c6
   have c6b1 : (a1 != (rd l0 x8_1)) = false := bne_eq_false_iff_eq.mpr c6
   clear c6
   obtain rfl := Option.some.inj H
   have p681 : 0 ≤ (x8_1 : Int) := oD_ ‹_›
   have q681 : x8_1 < (l0.length : Int) := oD_ ‹_›
   obtain ⟨ad681, e681, hx681_0⟩ := Kd.at_int HR0.out x8_1 p681 q681
   cases e681
   replace p681 := eq_true p681
   replace q681 := eq_true q681
   go_wp2
   go_ret
   exact ⟨by rfl, by repeat (first | exact Drawn0.refl _ | apply Drawn0.step)⟩
  rw [if_neg c6] at H
  have c6b0 : (a1 == (rd l0 x8_1)) = false := beq_eq_false_iff_ne.mpr c6
  have c6b1 : (a1 != (rd l0 x8_1)) = true := bne_iff_ne.mpr c6
  have H' := aM_ H
  clear H
  have p681 : 0 ≤ (x8_1 : Int) := oD_ ‹_›
  have q681 : x8_1 < (l0.length : Int) := oD_ ‹_›
  obtain ⟨ad681, e681, hx681_0⟩ := Kd.at_int HR0.out x8_1 p681 q681
  cases e681
  replace p681 := eq_true p681
  replace q681 := eq_true q681
  go_wp2
  go_roundg k1
  case measure => have := HK1.out; omega
  case rel => exact ⟨(wrap64 (x8_1 + 1)), (by rfl), H', ⟨by have := HK1.out; omega⟩, by repeat (first | exact Drawn0.refl _ | apply Drawn0.step)⟩
def impl_Machine_prefixOf.f (k : Nat) (l0_0 : List (S72)) (l1_0 : List (S96)) (a2 : Int) : Option (ByteArray) := (impl_Trie_prefixes.f k l1_0).bind fun bt684 => ((impl_Trie_machine.f k l1_0).bind fun bt688 => ((slices_Index_int_int.f k bt688.2 a2).bind fun t695 => (if 0 ≤ t695 then (if t695 < (bt684.1.length : Int) then (some (rdOf eB_ bt684.1 t695)) else (none)) else (none))))
theorem impl_Machine_prefixOf.mono : ∀ a0 a1 a2 k, LeO (impl_Machine_prefixOf.f k a0 a1 a2) (impl_Machine_prefixOf.f (k + 1) a0 a1 a2) := by
 intro a0 a1 a2 k
 unfold impl_Machine_prefixOf.f
 repeat' with_reducible first | exact impl_Trie_machine.mono _ _ | exact impl_Trie_prefixes.mono _ _ | exact slices_Index_int_int.mono _ _ _ | exact l3_ _ | exact l0_ _ | refine l2_ ?_ ?_ | refine l1_ ?_ (fun _ => ?_)
theorem impl_Machine_prefixOf.calls (k : Nat) (A0_0 : Option Addr) (c0_0 : Nat) (l0_0 : List (S72)) (A1_0 : Option Addr) (c1_0 : Nat) (l1_0 : List (S96)) (a2 : Int) (r : ByteArray) (w : World) (hr0_0 : Kd.C k72 w A0_0 l0_0.length l0_0) (hc0_0 : l0_0.length ≤ c0_0) (hr1_0 : Kd.C k96 w A1_0 l1_0.length l1_0) (hc1_0 : l1_0.length ≤ c1_0) (h : impl_Machine_prefixOf.f k l0_0 l1_0 a2 = some r) :
  Calls Tryz.prog 72 #[.agg #[.slice A0_0 l0_0.length c0_0], .agg #[.slice A1_0 l1_0.length c1_0], .int .i64 a2] w fun e w' => e = .returned (.string r) ∧ Below w.heap.size w w' := by
 have hu33 := Tryz.underlying33
 have hu28 := Tryz.underlying28
 have HR0_0 := aM_ hr0_0
 have HC0_0 := aM_ hc0_0
 clear hr0_0 hc0_0
 have HR1_0 := aM_ hr1_0
 have HC1_0 := aM_ hc1_0
 clear hr1_0 hc1_0
 have HB := aM_ (Below.refl w.heap.size w)
 have H : ((impl_Trie_prefixes.f k l1_0).bind fun bt684 => ((impl_Trie_machine.f k l1_0).bind fun bt688 => ((slices_Index_int_int.f k bt688.2 a2).bind fun t695 => (if 0 ≤ t695 then (if t695 < (bt684.1.length : Int) then (some (rdOf eB_ bt684.1 t695)) else (none)) else (none))))) = some r := h
 clear h
 replace H := oB_.mp H
 obtain ⟨⟨t684, t687⟩, A40, H⟩ := H
 try dsimp only at H
 have A4 := aM_ A40
 clear A40
 replace H := oB_.mp H
 obtain ⟨⟨t688, t691⟩, A50, H⟩ := H
 try dsimp only at H
 have A5 := aM_ A50
 clear A50
 replace H := oB_.mp H
 obtain ⟨t695, A60, H⟩ := H
 try dsimp only at H
 have A6 := aM_ A60
 clear A60
 by_cases c7 : 0 ≤ t695
 rotate_left
 ·
  rw [if_neg c7] at H
  exact absurd H (by simp)
 rw [if_pos c7] at H
 have c7b0 := dT_ c7
 clear c7
 by_cases c8 : t695 < (t684.length : Int)
 rotate_left
 ·
  rw [if_neg c8] at H
  exact absurd H (by simp)
 rw [if_pos c8] at H
 have c8b0 := dT_ c8
 clear c8
 obtain rfl := Option.some.inj H
 go_enter Tryz.func72, Tryz.ntmps72
 go_wp2_with (first | (refine bx_ 3 #[.slice A0_0 l0_0.length c0_0] 33 ?_; intro gb682 hg w9 hbox hb; have BK682 := aM_ (hbox); have GW682 := gw_ hg HB; replace HB := b4_ HB hb; clear hb hbox hg) | (refine bx_ 4 #[.slice A1_0 l1_0.length c1_0] 28 ?_; intro gb683 hg w10 hbox hb; have BK683 := aM_ (hbox); have GW683 := gw_ hg HB; replace HB := b4_ HB hb; have NB682_683 := nb_ hg BK682; have NB683_682 := ns_ NB682_683; replace BK682 := b5_ BK682 hb; clear hb hbox hg; have hnb11 := NB683_682.out; have hnc11 := NB682_683.out; have hcz12_0 := c0_ BK683; have hfz12_0 := bF_ BK683.out 0) | (refine gs_ 13 Tryz.func94 #[.agg #[.slice A1_0 l1_0.length c1_0]] ?_; (with_reducible refine (impl_Trie_prefixes.calls k _ _ l1_0 t684 t687 _ ?side1 HC1_0.out A4.out).mono ?_); (case side1 => repeat (first | exact (k4_ HR1_0.out HB.out) | with_reducible first | apply cA_ | apply cN_ | apply cD_)); rintro e w13 ⟨v685, rfl, ho0, hb⟩; refine ⟨_, rfl, ?_⟩; have HO686 := aM_ (k5_ ho0 (bZ_ HB.out)); replace BK682 := b5_ BK682 hb; replace BK683 := b5_ BK683 hb; replace HB := b4_ HB hb; (try clear hb); (try clear ho0); have hcz14_0 := c0_ BK683; have hfz14_0 := bF_ BK683.out 0) | (refine gs_ 18 Tryz.func68 #[.agg #[.slice A1_0 l1_0.length c1_0]] ?_; (with_reducible refine (impl_Trie_machine.calls k _ _ l1_0 t688 t691 _ ?side1 HC1_0.out A5.out).mono ?_); (case side1 => repeat (first | exact (k4_ HR1_0.out HB.out) | with_reducible first | apply cA_ | apply cN_ | apply cD_)); rintro e w15 ⟨v689, v692, rfl, ho0, ho1, hb⟩; refine ⟨_, rfl, ?_⟩; replace HO686 := k9_ HO686 hb; have HO690 := aM_ (Kd.S_lower ho0 (bZ_ HB.out)); have HO693 := aM_ (k5_ ho1 (bZ_ HB.out)); replace BK682 := b5_ BK682 hb; replace BK683 := b5_ BK683 hb; replace HB := b4_ HB hb; (try clear hb); (try clear ho0); (try clear ho1)) | (refine bx_ 9 #[.slice none 0 0] 33 ?_; intro gb694 hg w16 hbox hb; replace HO686 := k9_ HO686 hb; replace HO690 := aM_ (Kd.S_below (by (with_reducible repeat (first | apply Kd.S_alloc | apply Kd.S_drewN | apply Kd.S_drew)); exact HO690.out) hb); replace HO693 := k9_ HO693 hb; have BK694 := aM_ (hbox); have GW694 := gw_ hg HB; replace HB := b4_ HB hb; have NB682_694 := nb_ hg BK682; have NB694_682 := ns_ NB682_694; replace BK682 := b5_ BK682 hb; have NB683_694 := nb_ hg BK683; have NB694_683 := ns_ NB683_694; replace BK683 := b5_ BK683 hb; clear hb hbox hg; obtain ⟨Ao17, co17, eo17⟩ := Kd.S_slice HO690.out; subst eo17; have hnb18 := NB694_682.out; have hnc18 := NB682_694.out; have hnb19 := NB694_683.out; have hnc19 := NB683_694.out; have hcz20_0 := c0_ BK694; have hfz20_0 := bF_ BK694.out 0; obtain ⟨Ao21, co21, eo21⟩ := kS_ HO693.out; subst eo21) | (refine gs_ 24 Tryz.func99 #[.slice Ao21 t691.length co21, .int .i64 a2] ?_; (with_reducible refine (slices_Index_int_int.calls k _ _ t691 a2 t695 _ ?side1 ?side2 A6.out).mono ?_); (case side1 => refine (kR_ (e := 3) (base := w.heap.size) (ok := fun k_ => True) (n := t691.length) (c := co21) ?_).2.2; exact (by exact (kM_ (kG_ (kT_ HO693.out BK694.out (by decide))) (fun _ h_ => h_.1)))); (case side2 => exact (kR_ HO693.out).2.1); rintro e w' ⟨rfl, ⟨nd, rfl⟩⟩; refine ⟨_, rfl, ?_⟩; obtain ⟨Ao22, co22, eo22⟩ := kS_ HO686.out; subst eo22; have p696 : 0 ≤ (t695 : Int) := oD_ ‹_›; have q696 : t695 < (t684.length : Int) := oD_ ‹_›; obtain ⟨ad696, e696, hx696_0⟩ := Kd.at_string (kR_ HO686.out).2.2 t695 p696 q696; cases e696; have hn696_0 : ad696.block ≠ gb694 := k7_ (k6_ HO686.out BK694.out (by decide)); replace hx696_0 := (cF_ (p := ⟨gb694, 0, none⟩) (by (rw [add_block]; exact hn696_0)) (.slice Ao17 t688.length co17)).trans hx696_0; clear hn696_0; replace p696 := eq_true p696; replace q696 := eq_true q696))
 go_ret
 exact ⟨by rfl, by repeat with_reducible first | exact HB.out | apply bA_ | apply bN_ | apply bD_ | refine bS_ ?_ (Aside0.out ‹_›)⟩
def impl_BehindState.j0 : Nat → Int → Bool → List (S72) → List (S96) → Option (List ByteArray × Bool)
 | 0, _, _, _, _ => none
 | k + 1, x1, x23, x698000, x703000 => if x23 = true then (some (([] : List ByteArray), false)) else ((impl_Machine_prefixOf.f k x698000 x703000 x1).bind fun t704 => ((impl_Trie_behind.f k x703000 t704).bind fun t705 => (some (t705, true))))
def impl_BehindState.f (k : Nat) (l0_0 : List (S72)) (a1 : Int) : Option (List ByteArray × Bool) := (impl_Machine_open.f k l0_0).bind fun bt698 => (if bt698.2 = true then ((impl_in.f a1 0 (wrap64 ((l0_0.length : Int) - 1))).bind fun t703 => (impl_BehindState.j0 k a1 (!t703) l0_0 bt698.1)) else (impl_BehindState.j0 k a1 true l0_0 bt698.1))
theorem impl_BehindState.mono_l : ∀ k, (∀ y0 y1 y2 y3, LeO (impl_BehindState.j0 k y0 y1 y2 y3) (impl_BehindState.j0 (k + 1) y0 y1 y2 y3))
 | 0 => fun _ _ _ _ r h => by simp [impl_BehindState.j0] at h
 | k + 1 => by
  have ih0 := impl_BehindState.mono_l k
  intro y0 y1 y2 y3
  unfold impl_BehindState.j0
  repeat' with_reducible first | exact ih0 _ _ _ _ | exact impl_Machine_open.mono _ _ | exact impl_Machine_prefixOf.mono _ _ _ _ | exact impl_Trie_behind.mono _ _ _ | exact l3_ _ | exact l0_ _ | refine l2_ ?_ ?_ | refine l1_ ?_ (fun _ => ?_)
theorem impl_BehindState.mono : ∀ a0 a1 k, LeO (impl_BehindState.f k a0 a1) (impl_BehindState.f (k + 1) a0 a1) := by
 intro a0 a1 k
 have ih0 := impl_BehindState.mono_l k
 unfold impl_BehindState.f
 repeat' with_reducible first | exact ih0 _ _ _ _ | exact impl_Machine_open.mono _ _ | exact impl_Machine_prefixOf.mono _ _ _ _ | exact impl_Trie_behind.mono _ _ _ | exact l3_ _ | exact l0_ _ | refine l2_ ?_ ?_ | refine l1_ ?_ (fun _ => ?_)
def impl_BehindState.T4 : Bool × List (List Nat × List Nat) := (true, [([], []), ([], []), ([], []), ([], []), ([1, 2, 3], [1, 2, 3]), ([0, 4, 4], [0, 4]), ([5, 5, 0, 1, 2, 3, 4, 5], [5]), ([6, 0, 1, 2, 3, 4, 5, 6], [])])
def impl_BehindState.B4 : List Nat := [0, 0, 0, 0, 14, 31, 63, 127]
theorem impl_BehindState.tab4 : rtab .any (opsOf Tryz.f37 4) = impl_BehindState.T4 := by kernel_rfl
theorem impl_BehindState.bits4 : waitsOk impl_BehindState.T4.2 impl_BehindState.B4 = true := by kernel_rfl
theorem impl_BehindState.calls (k : Nat) (A0_0 : Option Addr) (c0_0 : Nat) (l0_0 : List (S72)) (a1 : Int) (r1 : List ByteArray) (r2 : Bool) (w : World) (hr0_0 : Kd.C k72 w A0_0 l0_0.length l0_0) (hc0_0 : l0_0.length ≤ c0_0) (h : impl_BehindState.f k l0_0 a1 = some (r1, r2)) :
  Calls Tryz.prog 37 #[.agg #[.slice A0_0 l0_0.length c0_0], .int .i64 a1] w fun e w' => ∃ v0_ : Value, e = .returned (.tuple #[v0_, .bool r2]) ∧ Kd.R Kd.string 9 w' w.heap.size (fun _ => True) v0_ r1 ∧ Below w.heap.size w w' := by
 have hu33 := Tryz.underlying33
 have hu28 := Tryz.underlying28
 have HR0_0 := aM_ hr0_0
 have HC0_0 := aM_ hc0_0
 clear hr0_0 hc0_0
 have HB := aM_ (Below.refl w.heap.size w)
 have H : ((impl_Machine_open.f k l0_0).bind fun bt698 => (if bt698.2 = true then ((impl_in.f a1 0 (wrap64 ((l0_0.length : Int) - 1))).bind fun t703 => (impl_BehindState.j0 k a1 (!t703) l0_0 bt698.1)) else (impl_BehindState.j0 k a1 true l0_0 bt698.1))) = some (r1, r2) := h
 clear h
 replace H := oB_.mp H
 obtain ⟨⟨t698, t701⟩, A30, H⟩ := H
 try dsimp only at H
 have A3 := aM_ A30
 clear A30
 have HC4 := aM_ H
 clear H
 go_enter Tryz.func37, Tryz.ntmps37
 go_upto_region 2 with (first | ((with_reducible refine gD_ (N := 2) rfl ?_); (try (refine gate_guard (by rfl) ?_; dsimp only)); refine bE_ ?hg (N := 2) ?hd (cs := #[.slice A0_0 l0_0.length c0_0]) (t := 33) ?hr ?_; (case hd => rfl); (case hg => rfl); (case hr => (go_simp; done)); intro gb697 hg w5 hbox hb; have BK697 := aM_ (hbox); have GW697 := gw_ hg HB; replace HB := b4_ HB hb; clear hb hbox hg; have hcz6_0 := c0_ BK697; have hfz6_0 := bF_ BK697.out 0) | (refine gs_ 10 Tryz.func51 #[.agg #[.slice A0_0 l0_0.length c0_0]] ?_; (with_reducible refine (impl_Machine_open.calls k _ _ l0_0 t698 t701 _ ?side1 HC0_0.out A3.out).mono ?_); (case side1 => repeat (first | exact (k4_ HR0_0.out HB.out) | with_reducible first | apply cA_ | apply cN_ | apply cD_)); rintro e w7 ⟨v699, rfl, ho0, hb⟩; refine ⟨_, rfl, ?_⟩; have HO700 := aM_ (k5_ ho0 (bZ_ HB.out)); replace BK697 := b5_ BK697 hb; replace HB := b4_ HB hb; (try clear hb); (try clear ho0)) | ((with_reducible refine gD_ (N := 6) rfl ?_); (try (refine gate_guard (by rfl) ?_; dsimp only)); refine bE_ ?hg (N := 6) ?hd (cs := #[.slice none 0 0]) (t := 28) ?hr ?_; (case hd => rfl); (case hg => rfl); (case hr => (go_simp; done)); intro gb702 hg w8 hbox hb; replace HO700 := k9_ HO700 hb; have BK702 := aM_ (hbox); have GW702 := gw_ hg HB; replace HB := b4_ HB hb; have NB697_702 := nb_ hg BK697; have NB702_697 := ns_ NB697_702; replace BK697 := b5_ BK697 hb; clear hb hbox hg; obtain ⟨Ao9, co9, eo9⟩ := kS_ HO700.out; subst eo9; have hnb10 := NB702_697.out; have hnc10 := NB697_702.out; have hcz11_0 := c0_ BK702; have hfz11_0 := bF_ BK702.out 0))
 (try simp only [Act.put, sA_, sB_, sC_])
 go_cut [23] (fun v23 wc => ∃ (kq : Nat) (x23_3 : Bool), v23 = .bool x23_3 ∧ Aside0 (impl_BehindState.j0 kq a1 x23_3 l0_0 t698 = some (r1, r2)) ∧ Aside0 (kq ≤ k) ∧ Aside0 (Kd.R k96 96 wc w.heap.size (fun _ => True) (.slice Ao9 t698.length co9) t698) ∧ Aside0 (wc.heap[gb697]? = some (.cells #[(.slice A0_0 l0_0.length c0_0)] 33 (0, 0))) ∧ Aside0 (wc.heap[gb702]? = some (.cells #[(.slice Ao9 t698.length co9)] 28 (0, 0))) ∧ Aside0 (Below w.heap.size w wc))
 case first =>
  have H := HC4.out
  clear HC4
  by_cases c12 : t701 = true
  ·
   subst c12
   rw [if_pos rfl] at H
   replace H := oB_.mp H
   obtain ⟨t703, A130, H⟩ := H
   try dsimp only at H
   have A13 := aM_ A130
   clear A130
   have H' := aM_ H
   clear H
   have hnb14 := NB697_702.out
   have hnc14 := NB702_697.out
   have hcz15_0 := c0_ BK697
   have hfz15_0 := bF_ BK697.out 0
   go_wp2_with (first | (go_at_call 70; (with_reducible refine (impl_in.calls a1 0 (wrap64 ((l0_0.length : Int) - 1)) t703 _ A13.out).mono ?_); rintro e w' ⟨rfl, ⟨nd, rfl⟩⟩))
   go_meet
   case rel => exact ⟨_, (!t703), (by rfl), H', ⟨by omega⟩, ⟨by (with_reducible repeat (first | apply k1_ | apply k2_ | apply k3_)); exact kM_ (kG_ (kT_ HO700.out BK702.out (by decide))) (fun _ hk => trivial)⟩, ⟨by (with_reducible repeat (first | refine b2_ ?_ _ | refine b1_ ?_ | refine b3_ ?_ _)); exact br_ NB697_702.out (BK697.out)⟩, ⟨by (with_reducible repeat (first | refine b2_ ?_ _ | refine b1_ ?_ | refine b3_ ?_ _)); refine bP_ (cs := #[.slice none 0 0]) ?_ 0 _ rfl; exact BK702.out⟩, ⟨by repeat with_reducible first | exact HB.out | apply bA_ | apply bN_ | apply bD_ | refine bS_ ?_ (Aside0.out ‹_›)⟩⟩
  replace c12 := Bool.eq_false_iff.mpr c12
  subst c12
  replace H : (impl_BehindState.j0 k a1 true l0_0 t698) = some (r1, r2) := by rw [if_neg (show ¬ (false = true) by decide)] at H; exact H
  have H' := aM_ H
  clear H
  go_wp2
  go_meet
  case rel => exact ⟨_, (true), (by rfl), H', ⟨by omega⟩, ⟨by exact kM_ (kG_ (kT_ HO700.out BK702.out (by decide))) (fun _ hk => trivial)⟩, ⟨by exact br_ NB697_702.out (BK697.out)⟩, ⟨by refine bP_ (cs := #[.slice none 0 0]) ?_ 0 _ rfl; exact BK702.out⟩, ⟨by repeat with_reducible first | exact HB.out | apply bA_ | apply bN_ | apply bD_ | refine bS_ ?_ (Aside0.out ‹_›)⟩⟩
 clear HC4
 try clear p2
 try clear p6
 try clear hcz11_0
 try clear hcz15_0
 try clear hcz6_0
 try clear hfz11_0
 try clear hfz15_0
 try clear hfz6_0
 obtain ⟨kq, x23_3, rfl, HA, HJ3, HO_703000, BK697, BK702, HB⟩ := hcut
 cases kq with
 | zero => exact absurd HA.out (by simp [impl_BehindState.j0])
 | succ kj3 =>
  have H := HA.out
  clear HA
  simp only [impl_BehindState.j0] at H
  by_cases c16 : x23_3 = true
  ·
   subst c16
   rw [if_pos rfl] at H
   simp only [Option.some.injEq, Prod.mk.injEq] at H
   obtain ⟨rfl, rfl⟩ := H
   go_wp2
   go_ret2
   exact ⟨_, by rfl, by exact Kd.R_nil _ _ _ _ _, by exact HB.out⟩
  replace c16 := Bool.eq_false_iff.mpr c16
  subst c16
  replace H : ((impl_Machine_prefixOf.f kj3 l0_0 t698 a1).bind fun t704 => ((impl_Trie_behind.f kj3 t698 t704).bind fun t705 => (some (t705, true)))) = some (r1, r2) := by rw [if_neg (show ¬ (false = true) by decide)] at H; exact H
  replace H := oB_.mp H
  obtain ⟨t704, A170, H⟩ := H
  try dsimp only at H
  have A17 := aM_ A170
  clear A170
  replace H := oB_.mp H
  obtain ⟨t705, A180, H⟩ := H
  try dsimp only at H
  have A18 := aM_ A180
  clear A180
  simp only [Option.some.injEq, Prod.mk.injEq] at H
  obtain ⟨rfl, rfl⟩ := H
  try go_wp2
  have n0_ := aM_ (k3_ HO_703000.out)
  have n1_ := aM_ (b1_ BK697.out)
  have n2_ := aM_ (b1_ BK702.out)
  have n3_ := aM_ (bD_ HB.out)
  clear HO_703000
  clear BK697
  clear BK702
  clear HB
  have HO_703000 := n0_
  have BK697 := n1_
  have BK702 := n2_
  have HB := n3_
  clear n0_ n1_ n2_ n3_
  refine start_ (n := 8) (S := fun w' => w'.cell? ⟨gb702, 0, none⟩ = some (.slice Ao9 t698.length co9) ∧ w'.cell? ⟨gb697, 0, none⟩ = some (.slice A0_0 l0_0.length c0_0)) (ds := []) #[fy, fy, fy, fy, fy, fy, fy, fy] (by kernel_rfl) rfl rfl ⟨(bC_ BK702.out 0).trans rfl, (bC_ BK697.out 0).trans rfl⟩ (fun hHeld => ?_); refine with_tabW impl_BehindState.tab4 impl_BehindState.bits4 (fun HT_ HW_ => ?_)
  generalize wc.drew = w19 at HO_703000 BK697 BK702 HB hHeld ⊢
  refine pu_ HT_ 3 27 #[fy, fy, fy, ty, fy, fy, fy, fy] ?_
  refine tk_ HT_ HW_ 0 24 #[ty, fy, fy, ty, fy, fy, fy, fy] hHeld ?_ (hr := by rintro w' ⟨s0, s1⟩; go_simp; with_reducible rfl)
  refine tk_ HT_ HW_ 1 25 #[ty, ty, fy, ty, fy, fy, fy, fy] hHeld ?_ (hr := by rintro w' ⟨s0, s1⟩; go_simp; with_reducible rfl)
  refine tk_ HT_ HW_ 2 26 #[ty, ty, ty, ty, fy, fy, fy, fy] hHeld ?_ (hr := by rintro w' ⟨s0, s1⟩; go_simp; with_reducible rfl)
  refine one_ (i := 4) (N := some 28) #[ty, ty, ty, ty, ty, fy, fy, fy] rfl rfl (one_of HT_.out (by kernel_rfl)) (by decide) (fun K hK => ?_)
  refine goes_ Tryz.func72 (by kernel_rfl) rfl #[.agg #[.slice A0_0 l0_0.length c0_0], .agg #[.slice Ao9 t698.length co9], .int .i64 a1] (by rfl) rfl rfl (by (try simp only [sD_, sE_, sF_]); rfl) ?_
  with_reducible refine (impl_Machine_prefixOf.calls kj3 _ _ l0_0 _ _ t698 a1 t704 _ ?side1 ?side2 ?side3 ?side4 A17.out).mono ?_
  (case side1 => repeat (first | exact (k4_ HR0_0.out HB.out) | with_reducible first | apply cA_ | apply cN_ | apply cD_))
  (case side2 => exact HC0_0.out)
  (case side3 => repeat (first | exact (kR_ HO_703000.out).2.2 | with_reducible first | apply cA_ | apply cN_ | apply cD_))
  (case side4 => exact (kR_ HO_703000.out).2.1)
  rintro e w20 ⟨rfl, hb⟩
  refine ⟨_, rfl, ?_⟩
  have n0_ := k9_ HO_703000 hb
  have n1_ := b5_ BK697 hb
  have n2_ := b5_ BK702 hb
  have n3_ := b4_ HB hb
  clear HO_703000
  clear BK697
  clear BK702
  clear HB
  have HO_703000 := n0_
  have BK697 := n1_
  have BK702 := n2_
  have HB := n3_
  clear n0_ n1_ n2_ n3_
  (try clear hb)
  refine hK.out _ _ ⟨(bC_ BK702.out 0).trans rfl, (bC_ BK697.out 0).trans rfl⟩ (fun hHeld => ?_)
  clear hK K
  refine norm_ (by show Act.put _ (some 28) _ = _; simp only [Act.put, sA_, sB_, sC_, i6_, i3_]; rfl) ?_
  refine one_ (i := 5) (N := some 29) #[ty, ty, ty, ty, ty, ty, fy, fy] rfl rfl (one_of HT_.out (by kernel_rfl)) (by decide) (fun K hK => ?_)
  refine goes_ Tryz.func71 (by kernel_rfl) rfl #[.agg #[.slice Ao9 t698.length co9], .string t704] (by rfl) rfl rfl (by (try simp only [sD_, sE_, sF_]); rfl) ?_
  with_reducible refine (impl_Trie_behind.calls kj3 _ _ t698 t704 t705 _ ?side1 ?side2 A18.out).mono ?_
  (case side1 => repeat (first | exact (kR_ HO_703000.out).2.2 | with_reducible first | apply cA_ | apply cN_ | apply cD_))
  (case side2 => exact (kR_ HO_703000.out).2.1)
  rintro e w21 ⟨v706, rfl, ho0, hb⟩
  refine ⟨_, rfl, ?_⟩
  have n0_ := k9_ HO_703000 hb
  have n1_ := aM_ (k5_ ho0 (bZ_ HB.out))
  have n2_ := b5_ BK697 hb
  have n3_ := b5_ BK702 hb
  have n4_ := b4_ HB hb
  clear HO_703000
  clear BK697
  clear BK702
  clear HB
  have HO_703000 := n0_
  have HO707 := n1_
  have BK697 := n2_
  have BK702 := n3_
  have HB := n4_
  clear n0_ n1_ n2_ n3_ n4_
  (try clear hb)
  (try clear ho0)
  refine hK.out _ _ ⟨(bC_ BK702.out 0).trans rfl, (bC_ BK697.out 0).trans rfl⟩ (fun hHeld => ?_)
  clear hK K
  refine norm_ (by show Act.put _ (some 29) _ = _; simp only [Act.put, sA_, sB_, sC_, i6_, i3_]; rfl) ?_
  refine pu_ HT_ 6 4 #[ty, ty, ty, ty, ty, ty, ty, fy] ?_
  refine pu_ HT_ 7 5 #[ty, ty, ty, ty, ty, ty, ty, ty] ?_
  refine done_ (done_of HT_.out (by kernel_rfl)) ?_
  try go_wp2
  go_ret2
  exact ⟨_, by rfl, by exact HO707.out, by exact HB.out⟩
def impl_LevelOf.l0 : Nat → Int → List ByteArray → Int → Int → Option (Int × Bool)
 | 0, _, _, _, _ => none
 | k + 1, x8, x19, x20, x21 => if x21 < x20 then (if 0 ≤ x21 then (if x21 < (x19.length : Int) then (impl_LevelOf.l0 k (mx x8 ((rdOf eB_ x19 x21).size : Int)) x19 x20 (wrap64 (x21 + 1))) else (none)) else (none)) else (some (x8, true))
def impl_LevelOf.f (k : Nat) (l0_0 : List (S72)) (a1 : Int) : Option (Int × Bool) := (impl_BehindState.f k l0_0 a1).bind fun bt709 => (if bt709.2 = true then (impl_LevelOf.l0 k 0 bt709.1 (bt709.1.length : Int) 0) else (some (0, false)))
theorem impl_LevelOf.mono_l : ∀ k, (∀ y0 y1 y2 y3, LeO (impl_LevelOf.l0 k y0 y1 y2 y3) (impl_LevelOf.l0 (k + 1) y0 y1 y2 y3))
 | 0 => fun _ _ _ _ r h => by simp [impl_LevelOf.l0] at h
 | k + 1 => by
  have ih0 := impl_LevelOf.mono_l k
  intro y0 y1 y2 y3
  unfold impl_LevelOf.l0
  repeat' with_reducible first | exact ih0 _ _ _ _ | exact impl_BehindState.mono _ _ _ | exact l3_ _ | exact l0_ _ | refine l2_ ?_ ?_ | refine l1_ ?_ (fun _ => ?_)
theorem impl_LevelOf.mono : ∀ a0 a1 k, LeO (impl_LevelOf.f k a0 a1) (impl_LevelOf.f (k + 1) a0 a1) := by
 intro a0 a1 k
 have ih0 := impl_LevelOf.mono_l k
 unfold impl_LevelOf.f
 repeat' with_reducible first | exact ih0 _ _ _ _ | exact impl_BehindState.mono _ _ _ | exact l3_ _ | exact l0_ _ | refine l2_ ?_ ?_ | refine l1_ ?_ (fun _ => ?_)
theorem impl_LevelOf.calls (k : Nat) (A0_0 : Option Addr) (c0_0 : Nat) (l0_0 : List (S72)) (a1 : Int) (r1 : Int) (r2 : Bool) (w : World) (hr0_0 : Kd.C k72 w A0_0 l0_0.length l0_0) (hc0_0 : l0_0.length ≤ c0_0) (h : impl_LevelOf.f k l0_0 a1 = some (r1, r2)) :
  Calls Tryz.prog 31 #[.agg #[.slice A0_0 l0_0.length c0_0], .int .i64 a1] w fun e w' => e = .returned (.tuple #[.int .i64 r1, .bool r2]) ∧ Below w.heap.size w w' := by
 have hu33 := Tryz.underlying33
 have HR0_0 := aM_ hr0_0
 have HC0_0 := aM_ hc0_0
 clear hr0_0 hc0_0
 have HB := aM_ (Below.refl w.heap.size w)
 have H : ((impl_BehindState.f k l0_0 a1).bind fun bt709 => (if bt709.2 = true then (impl_LevelOf.l0 k 0 bt709.1 (bt709.1.length : Int) 0) else (some (0, false)))) = some (r1, r2) := h
 clear h
 replace H := oB_.mp H
 obtain ⟨⟨t709, t712⟩, A30, H⟩ := H
 try dsimp only at H
 have A3 := aM_ A30
 clear A30
 by_cases c4 : t712 = true
 rotate_left
 ·
  replace c4 := Bool.eq_false_iff.mpr c4
  subst c4
  replace H : (some (0, false)) = some (r1, r2) := by rw [if_neg (show ¬ (false = true) by decide)] at H; exact H
  simp only [Option.some.injEq, Prod.mk.injEq] at H
  obtain ⟨rfl, rfl⟩ := H
  go_enter Tryz.func31, Tryz.ntmps31
  go_wp2_with (first | (refine bx_ 2 #[.slice A0_0 l0_0.length c0_0] 33 ?_; intro gb708 hg w13 hbox hb; have BK708 := aM_ (hbox); have GW708 := gw_ hg HB; replace HB := b4_ HB hb; clear hb hbox hg; have hcz14_0 := c0_ BK708; have hfz14_0 := bF_ BK708.out 0) | (refine gs_ 14 Tryz.func37 #[.agg #[.slice A0_0 l0_0.length c0_0], .int .i64 a1] ?_; (with_reducible refine (impl_BehindState.calls k _ _ l0_0 a1 t709 false _ ?side1 HC0_0.out A3.out).mono ?_); (case side1 => repeat (first | exact (k4_ HR0_0.out HB.out) | with_reducible first | apply cA_ | apply cN_ | apply cD_)); rintro e w15 ⟨v710, rfl, ho0, hb⟩; refine ⟨_, rfl, ?_⟩; have HO711 := aM_ (k5_ ho0 (bZ_ HB.out)); replace BK708 := b5_ BK708 hb; replace HB := b4_ HB hb; (try clear hb); (try clear ho0)))
  go_ret2
  exact ⟨by rfl, by exact HB.out⟩
 subst c4
 rw [if_pos rfl] at H
 have H' := aM_ H
 clear H
 go_enter Tryz.func31, Tryz.ntmps31
 go_wp2_with (first | (refine bx_ 2 #[.slice A0_0 l0_0.length c0_0] 33 ?_; intro gb708 hg w5 hbox hb; have BK708 := aM_ (hbox); have GW708 := gw_ hg HB; replace HB := b4_ HB hb; clear hb hbox hg; have hcz6_0 := c0_ BK708; have hfz6_0 := bF_ BK708.out 0) | (refine gs_ 14 Tryz.func37 #[.agg #[.slice A0_0 l0_0.length c0_0], .int .i64 a1] ?_; (with_reducible refine (impl_BehindState.calls k _ _ l0_0 a1 t709 true _ ?side1 HC0_0.out A3.out).mono ?_); (case side1 => repeat (first | exact (k4_ HR0_0.out HB.out) | with_reducible first | apply cA_ | apply cN_ | apply cD_)); rintro e w7 ⟨v710, rfl, ho0, hb⟩; refine ⟨_, rfl, ?_⟩; have HO711 := aM_ (k5_ ho0 (bZ_ HB.out)); replace BK708 := b5_ BK708 hb; replace HB := b4_ HB hb; (try clear hb); (try clear ho0); obtain ⟨Ao8, co8, eo8⟩ := kS_ HO711.out; subst eo8))
 go_loopg [8, 21] k (fun kq v8 v21 w' => ∃ (x8_1 : Int) (x21_1 : Int), v8 = .int .i64 x8_1 ∧ v21 = .int .i64 x21_1 ∧ Aside0 (impl_LevelOf.l0 kq x8_1 t709 (t709.length : Int) x21_1 = some (r1, r2)) ∧ Aside0 (kq ≤ k) ∧ Aside0 (Kd.R Kd.string 9 w' w.heap.size (fun _ => True) (.slice Ao8 t709.length co8) t709) ∧ Aside0 (w'.heap[gb708]? = some (.cells #[(.slice A0_0 l0_0.length c0_0)] 33 (0, 0))) ∧ Aside0 (Below w.heap.size w w'))
 case atStart => exact ⟨(0), (0), (by rfl), (by rfl), H', ⟨Nat.le_refl _⟩, ⟨HO711.out⟩, ⟨BK708.out⟩, ⟨HB.out⟩⟩
 clear H'
 try clear p2
 try clear hcz6_0
 try clear hfz6_0
 obtain ⟨x8_1, x21_1, rfl, rfl, HA, HK1, HO_19, BK708, HB⟩ := hrel
 cases gk with
 | zero => exact absurd HA.out (by simp [impl_LevelOf.l0])
 | succ k1 =>
  have H := HA.out
  clear HA
  simp only [impl_LevelOf.l0] at H
  by_cases c9 : x21_1 < (t709.length : Int)
  rotate_left
  ·
   rw [if_neg c9] at H
   have c9b0 := dF_ c9
   clear c9
   simp only [Option.some.injEq, Prod.mk.injEq] at H
   obtain ⟨rfl, rfl⟩ := H
   go_wp2
   go_ret2
   exact ⟨by rfl, by exact HB.out⟩
  rw [if_pos c9] at H
  have c9b0 := dT_ c9
  clear c9
  by_cases c10 : 0 ≤ x21_1
  rotate_left
  ·
   rw [if_neg c10] at H
   exact absurd H (by simp)
  rw [if_pos c10] at H
  have c10b0 := dT_ c10
  clear c10
  by_cases c11 : x21_1 < (t709.length : Int)
  rotate_left
  ·
   rw [if_neg c11] at H
   exact absurd H (by simp)
  rw [if_pos c11] at H
  have c11b0 := dT_ c11
  clear c11
  obtain ⟨ji12, hji12⟩ : ∃ j_ : Int, (mx x8_1 ((rdOf eB_ t709 x21_1).size : Int)) = j_ := ⟨_, rfl⟩
  replace H : (impl_LevelOf.l0 k1 ji12 t709 (t709.length : Int) (wrap64 (x21_1 + 1))) = some (r1, r2) := by first | (rw [hji12] at H; exact H) | (simp only [hji12] at H ⊢; exact H)
  have hji12_ : (if x8_1 < ((rdOf eB_ t709 x21_1).size : Int) then ((rdOf eB_ t709 x21_1).size : Int) else x8_1) = ji12 := hji12
  have hji12n := hji12_
  (try simp only [Int.ofNat_lt] at hji12n)
  have H' := aM_ H
  clear H
  have p713 : 0 ≤ (x21_1 : Int) := oD_ ‹_›
  have q713 : x21_1 < (t709.length : Int) := oD_ ‹_›
  obtain ⟨ad713, e713, hx713_0⟩ := Kd.at_string (kR_ HO_19.out).2.2 x21_1 p713 q713
  cases e713
  replace p713 := eq_true p713
  replace q713 := eq_true q713
  go_wp2
  go_roundg k1
  case measure => have := HK1.out; omega
  case rel => exact ⟨(ji12), (wrap64 (x21_1 + 1)), (by rfl), (by rfl), H', ⟨by have := HK1.out; omega⟩, ⟨HO_19.out⟩, ⟨BK708.out⟩, ⟨HB.out⟩⟩
def spec_BehindState.f (k : Nat) (l0_0 : List (S72)) (a1 : Int) : Option (List ByteArray × Bool) := (spec_l7Valid.f k l0_0).bind fun t662 => (if t662 = true then ((spec_l1In.f a1 0 (wrap64 ((l0_0.length : Int) - 1))).bind fun t663 => (if t663 = true then ((spec_l7Walk.f k l0_0 a1 (⟨#[]⟩ : ByteArray) 0).bind fun bt664 => (some (bt664.1, true))) else (some ((([] : List ByteArray)), false)))) else (some ((([] : List ByteArray)), false)))
theorem spec_BehindState.mono : ∀ a0 a1 k, LeO (spec_BehindState.f k a0 a1) (spec_BehindState.f (k + 1) a0 a1) := by
 intro a0 a1 k
 unfold spec_BehindState.f
 repeat' with_reducible first | exact spec_l7Valid.mono _ _ | exact spec_l7Walk.mono _ _ _ _ _ | exact l3_ _ | exact l0_ _ | refine l2_ ?_ ?_ | refine l1_ ?_ (fun _ => ?_)
theorem spec_BehindState.calls (k : Nat) (A0_0 : Option Addr) (c0_0 : Nat) (l0_0 : List (S72)) (a1 : Int) (r1 : List ByteArray) (r2 : Bool) (w : World) (hr0_0 : Kd.C k72 w A0_0 l0_0.length l0_0) (hc0_0 : l0_0.length ≤ c0_0) (h : spec_BehindState.f k l0_0 a1 = some (r1, r2)) :
  Calls Tryz.prog 36 #[.agg #[.slice A0_0 l0_0.length c0_0], .int .i64 a1] w fun e w' => ∃ v0_ : Value, e = .returned (.tuple #[v0_, .bool r2]) ∧ Kd.R Kd.string 9 w' w.heap.size (fun _ => True) v0_ r1 ∧ Below w.heap.size w w' := by
 have hu33 := Tryz.underlying33
 have HR0_0 := aM_ hr0_0
 have HC0_0 := aM_ hc0_0
 clear hr0_0 hc0_0
 have HB := aM_ (Below.refl w.heap.size w)
 have H : ((spec_l7Valid.f k l0_0).bind fun t662 => (if t662 = true then ((spec_l1In.f a1 0 (wrap64 ((l0_0.length : Int) - 1))).bind fun t663 => (if t663 = true then ((spec_l7Walk.f k l0_0 a1 (⟨#[]⟩ : ByteArray) 0).bind fun bt664 => (some (bt664.1, true))) else (some ((([] : List ByteArray)), false)))) else (some ((([] : List ByteArray)), false)))) = some (r1, r2) := h
 clear h
 replace H := oB_.mp H
 obtain ⟨t662, A30, H⟩ := H
 try dsimp only at H
 have A3 := aM_ A30
 clear A30
 by_cases c4 : t662 = true
 rotate_left
 ·
  replace c4 := Bool.eq_false_iff.mpr c4
  subst c4
  replace H : (some ((([] : List ByteArray)), false)) = some (r1, r2) := by rw [if_neg (show ¬ (false = true) by decide)] at H; exact H
  obtain ⟨y671, hy671⟩ : ∃ y_ : List ByteArray, y_ = (([] : List ByteArray)) := ⟨_, rfl⟩
  replace H : (some (y671, false)) = some (r1, r2) := by (try rw [hy671]); first | with_reducible exact H | with_reducible exact oS_ H | exact H
  have Ny671 := aM_ hy671
  clear hy671
  simp only [Option.some.injEq, Prod.mk.injEq] at H
  obtain ⟨rfl, rfl⟩ := H
  go_enter Tryz.func36, Tryz.ntmps36
  go_wp2_with (first | ((with_reducible refine gD_ (N := 2) rfl ?_); (try (refine gate_guard (by rfl) ?_; dsimp only)); refine bE_ ?hg (N := 2) ?hd (cs := #[.slice A0_0 l0_0.length c0_0]) (t := 33) ?hr ?_; (case hd => rfl); (case hg => rfl); (case hr => (go_simp; done)); intro gb661 hg w19 hbox hb; have BK661 := aM_ (hbox); have GW661 := gw_ hg HB; replace HB := b4_ HB hb; clear hb hbox hg; have hcz20_0 := c0_ BK661; have hfz20_0 := bF_ BK661.out 0) | (refine gs_ 9 Tryz.func47 #[.agg #[.slice A0_0 l0_0.length c0_0]] ?_; (with_reducible refine (spec_l7Valid.calls k _ _ l0_0 false _ ?side1 HC0_0.out A3.out).mono ?_); (case side1 => repeat (first | exact (k4_ HR0_0.out HB.out) | with_reducible first | apply cA_ | apply cN_ | apply cD_)); rintro e w21 ⟨rfl, hb⟩; refine ⟨_, rfl, ?_⟩; replace BK661 := b5_ BK661 hb; replace HB := b4_ HB hb; (try clear hb)) | ((with_reducible refine gD_ (N := 20) rfl ?_); (try (refine gate_guard (by rfl) ?_; dsimp only)); refine Kd.R_lit Kd.string _ 9 ?hg (N := 20) ?hd (xs := ([] : List ByteArray)) (inner := []) (ok := fun _ => True) (okp := fun _ => True) ?hr ?hp (fun _ hk => hk) trivial (Below.refl _ _) (Nat.le_refl _) (by simp) ?_; (case hd => rfl); (case hg => rfl); (case hr => (go_simp; done)); (case hp => exact (Reps.none _ _)); intro v672 w22 ho23 hb hg_ hnew_; clear hg_ hnew_; (rw [← Ny671.out] at ho23); have HO673 := aM_ (k5_ ho23 (bZ_ HB.out)); replace BK661 := b5_ BK661 hb; replace HB := b4_ HB hb; clear hb ho23))
  go_ret2
  exact ⟨_, by rfl, by exact HO673.out, by exact HB.out⟩
 subst c4
 rw [if_pos rfl] at H
 replace H := oB_.mp H
 obtain ⟨t663, A50, H⟩ := H
 try dsimp only at H
 have A5 := aM_ A50
 clear A50
 by_cases c6 : t663 = true
 ·
  subst c6
  rw [if_pos rfl] at H
  replace H := oB_.mp H
  obtain ⟨⟨t664, t667⟩, A70, H⟩ := H
  try dsimp only at H
  have A7 := aM_ A70
  clear A70
  simp only [Option.some.injEq, Prod.mk.injEq] at H
  obtain ⟨rfl, rfl⟩ := H
  go_enter Tryz.func36, Tryz.ntmps36
  go_wp2_with (first | ((with_reducible refine gD_ (N := 2) rfl ?_); (try (refine gate_guard (by rfl) ?_; dsimp only)); refine bE_ ?hg (N := 2) ?hd (cs := #[.slice A0_0 l0_0.length c0_0]) (t := 33) ?hr ?_; (case hd => rfl); (case hg => rfl); (case hr => (go_simp; done)); intro gb661 hg w8 hbox hb; have BK661 := aM_ (hbox); have GW661 := gw_ hg HB; replace HB := b4_ HB hb; clear hb hbox hg; have hcz9_0 := c0_ BK661; have hfz9_0 := bF_ BK661.out 0) | (refine gs_ 9 Tryz.func47 #[.agg #[.slice A0_0 l0_0.length c0_0]] ?_; (with_reducible refine (spec_l7Valid.calls k _ _ l0_0 true _ ?side1 HC0_0.out A3.out).mono ?_); (case side1 => repeat (first | exact (k4_ HR0_0.out HB.out) | with_reducible first | apply cA_ | apply cN_ | apply cD_)); rintro e w10 ⟨rfl, hb⟩; refine ⟨_, rfl, ?_⟩; replace BK661 := b5_ BK661 hb; replace HB := b4_ HB hb; (try clear hb); have hcz11_0 := c0_ BK661; have hfz11_0 := bF_ BK661.out 0) | (go_at_call 62; (with_reducible refine (spec_l1In.calls a1 0 (wrap64 ((l0_0.length : Int) - 1)) true _ A5.out).mono ?_); rintro e w' ⟨rfl, ⟨nd, rfl⟩⟩) | (refine gs_ 24 Tryz.func69 #[.agg #[.slice A0_0 l0_0.length c0_0], .int .i64 a1, .string (⟨#[]⟩ : ByteArray), .int .i64 0] ?_; (with_reducible refine (spec_l7Walk.calls k _ _ l0_0 a1 (⟨#[]⟩ : ByteArray) 0 t664 t667 _ ?side1 HC0_0.out A7.out).mono ?_); (case side1 => repeat (first | exact (k4_ HR0_0.out (by repeat with_reducible first | exact HB.out | apply bA_ | apply bN_ | apply bD_ | refine bS_ ?_ GW661.out)) | with_reducible first | apply cA_ | apply cN_ | apply cD_)); rintro e w12 ⟨v665, rfl, ho0, hb⟩; refine ⟨_, rfl, ?_⟩; have HO666 := aM_ (k5_ ho0 (bZ_ (by repeat with_reducible first | exact HB.out | apply bA_ | apply bN_ | apply bD_ | refine bS_ ?_ GW661.out))); replace BK661 := aM_ (bB_ (g := gb661) (o := .cells #[.slice A0_0 l0_0.length c0_0] 33 (0, 0)) (by (with_reducible repeat (first | refine b2_ ?_ _ | refine b1_ ?_ | refine b3_ ?_ _)); exact BK661.out) hb); replace HB := aM_ (bT_ (by repeat with_reducible first | exact HB.out | apply bA_ | apply bN_ | apply bD_ | refine bS_ ?_ GW661.out) hb); (try clear hb); (try clear ho0)))
  go_ret2
  exact ⟨_, by rfl, by exact HO666.out, by exact HB.out⟩
 replace c6 := Bool.eq_false_iff.mpr c6
 subst c6
 replace H : (some ((([] : List ByteArray)), false)) = some (r1, r2) := by rw [if_neg (show ¬ (false = true) by decide)] at H; exact H
 obtain ⟨y668, hy668⟩ : ∃ y_ : List ByteArray, y_ = (([] : List ByteArray)) := ⟨_, rfl⟩
 replace H : (some (y668, false)) = some (r1, r2) := by (try rw [hy668]); first | with_reducible exact H | with_reducible exact oS_ H | exact H
 have Ny668 := aM_ hy668
 clear hy668
 simp only [Option.some.injEq, Prod.mk.injEq] at H
 obtain ⟨rfl, rfl⟩ := H
 go_enter Tryz.func36, Tryz.ntmps36
 go_wp2_with (first | ((with_reducible refine gD_ (N := 2) rfl ?_); (try (refine gate_guard (by rfl) ?_; dsimp only)); refine bE_ ?hg (N := 2) ?hd (cs := #[.slice A0_0 l0_0.length c0_0]) (t := 33) ?hr ?_; (case hd => rfl); (case hg => rfl); (case hr => (go_simp; done)); intro gb661 hg w13 hbox hb; have BK661 := aM_ (hbox); have GW661 := gw_ hg HB; replace HB := b4_ HB hb; clear hb hbox hg; have hcz14_0 := c0_ BK661; have hfz14_0 := bF_ BK661.out 0) | (refine gs_ 9 Tryz.func47 #[.agg #[.slice A0_0 l0_0.length c0_0]] ?_; (with_reducible refine (spec_l7Valid.calls k _ _ l0_0 true _ ?side1 HC0_0.out A3.out).mono ?_); (case side1 => repeat (first | exact (k4_ HR0_0.out HB.out) | with_reducible first | apply cA_ | apply cN_ | apply cD_)); rintro e w15 ⟨rfl, hb⟩; refine ⟨_, rfl, ?_⟩; replace BK661 := b5_ BK661 hb; replace HB := b4_ HB hb; (try clear hb); have hcz16_0 := c0_ BK661; have hfz16_0 := bF_ BK661.out 0) | (go_at_call 62; (with_reducible refine (spec_l1In.calls a1 0 (wrap64 ((l0_0.length : Int) - 1)) false _ A5.out).mono ?_); rintro e w' ⟨rfl, ⟨nd, rfl⟩⟩) | ((with_reducible refine gD_ (N := 20) rfl ?_); (try (refine gate_guard (by rfl) ?_; dsimp only)); refine Kd.R_lit Kd.string _ 9 ?hg (N := 20) ?hd (xs := ([] : List ByteArray)) (inner := []) (ok := fun _ => True) (okp := fun _ => True) ?hr ?hp (fun _ hk => hk) trivial (Below.refl _ _) (Nat.le_refl _) (by simp) ?_; (case hd => rfl); (case hg => rfl); (case hr => (go_simp; done)); (case hp => exact (Reps.none _ _)); intro v669 w17 ho18 hb hg_ hnew_; clear hg_ hnew_; (rw [← Ny668.out] at ho18); have HO670 := aM_ (k5_ ho18 (bZ_ (by repeat with_reducible first | exact HB.out | apply bA_ | apply bN_ | apply bD_ | refine bS_ ?_ GW661.out))); replace BK661 := aM_ (bB_ (g := gb661) (o := .cells #[.slice A0_0 l0_0.length c0_0] 33 (0, 0)) (by (with_reducible repeat (first | refine b2_ ?_ _ | refine b1_ ?_ | refine b3_ ?_ _)); exact BK661.out) hb); replace HB := aM_ (bT_ (by repeat with_reducible first | exact HB.out | apply bA_ | apply bN_ | apply bD_ | refine bS_ ?_ GW661.out) hb); clear hb ho18))
 go_ret2
 exact ⟨_, by rfl, by exact HO670.out, by exact HB.out⟩
def spec_LevelOf.l0 : Nat → List ByteArray → Bool → Int → Int → Option (Int × Bool)
 | 0, _, _, _, _ => none
 | k + 1, x6, x7, x8, x9 => if x9 < (x6.length : Int) then (if 0 ≤ x9 then ((spec_l1Most.f x8 ((rdOf eB_ x6 x9).size : Int)).bind fun t680 => (spec_LevelOf.l0 k x6 x7 t680 (wrap64 (x9 + 1)))) else (none)) else (some (x8, x7))
def spec_LevelOf.f (k : Nat) (l0_0 : List (S72)) (a1 : Int) : Option (Int × Bool) := (spec_BehindState.f k l0_0 a1).bind fun bt675 => (spec_LevelOf.l0 k bt675.1 bt675.2 0 0)
theorem spec_LevelOf.mono_l : ∀ k, (∀ y0 y1 y2 y3, LeO (spec_LevelOf.l0 k y0 y1 y2 y3) (spec_LevelOf.l0 (k + 1) y0 y1 y2 y3))
 | 0 => fun _ _ _ _ r h => by simp [spec_LevelOf.l0] at h
 | k + 1 => by
  have ih0 := spec_LevelOf.mono_l k
  intro y0 y1 y2 y3
  unfold spec_LevelOf.l0
  repeat' with_reducible first | exact ih0 _ _ _ _ | exact spec_BehindState.mono _ _ _ | exact l3_ _ | exact l0_ _ | refine l2_ ?_ ?_ | refine l1_ ?_ (fun _ => ?_)
theorem spec_LevelOf.mono : ∀ a0 a1 k, LeO (spec_LevelOf.f k a0 a1) (spec_LevelOf.f (k + 1) a0 a1) := by
 intro a0 a1 k
 have ih0 := spec_LevelOf.mono_l k
 unfold spec_LevelOf.f
 repeat' with_reducible first | exact ih0 _ _ _ _ | exact spec_BehindState.mono _ _ _ | exact l3_ _ | exact l0_ _ | refine l2_ ?_ ?_ | refine l1_ ?_ (fun _ => ?_)
theorem spec_LevelOf.calls (k : Nat) (A0_0 : Option Addr) (c0_0 : Nat) (l0_0 : List (S72)) (a1 : Int) (r1 : Int) (r2 : Bool) (w : World) (hr0_0 : Kd.C k72 w A0_0 l0_0.length l0_0) (hc0_0 : l0_0.length ≤ c0_0) (h : spec_LevelOf.f k l0_0 a1 = some (r1, r2)) :
  Calls Tryz.prog 30 #[.agg #[.slice A0_0 l0_0.length c0_0], .int .i64 a1] w fun e w' => e = .returned (.tuple #[.int .i64 r1, .bool r2]) ∧ Below w.heap.size w w' := by
 have hu33 := Tryz.underlying33
 have HR0_0 := aM_ hr0_0
 have HC0_0 := aM_ hc0_0
 clear hr0_0 hc0_0
 have HB := aM_ (Below.refl w.heap.size w)
 have H : ((spec_BehindState.f k l0_0 a1).bind fun bt675 => (spec_LevelOf.l0 k bt675.1 bt675.2 0 0)) = some (r1, r2) := h
 clear h
 replace H := oB_.mp H
 obtain ⟨⟨t675, t678⟩, A30, H⟩ := H
 try dsimp only at H
 have A3 := aM_ A30
 clear A30
 have H' := aM_ H
 clear H
 go_enter Tryz.func30, Tryz.ntmps30
 go_wp2_with (first | (refine bx_ 2 #[.slice A0_0 l0_0.length c0_0] 33 ?_; intro gb674 hg w4 hbox hb; have BK674 := aM_ (hbox); have GW674 := gw_ hg HB; replace HB := b4_ HB hb; clear hb hbox hg; have hcz5_0 := c0_ BK674; have hfz5_0 := bF_ BK674.out 0) | (refine gs_ 13 Tryz.func36 #[.agg #[.slice A0_0 l0_0.length c0_0], .int .i64 a1] ?_; (with_reducible refine (spec_BehindState.calls k _ _ l0_0 a1 t675 t678 _ ?side1 HC0_0.out A3.out).mono ?_); (case side1 => repeat (first | exact (k4_ HR0_0.out HB.out) | with_reducible first | apply cA_ | apply cN_ | apply cD_)); rintro e w6 ⟨v676, rfl, ho0, hb⟩; refine ⟨_, rfl, ?_⟩; have HO677 := aM_ (k5_ ho0 (bZ_ HB.out)); replace BK674 := b5_ BK674 hb; replace HB := b4_ HB hb; (try clear hb); (try clear ho0)))
 go_loopg [8, 9] k (fun kq v8 v9 w' => ∃ (x8_1 : Int) (x9_1 : Int), v8 = .int .i64 x8_1 ∧ v9 = .int .i64 x9_1 ∧ Aside0 (spec_LevelOf.l0 kq t675 t678 x8_1 x9_1 = some (r1, r2)) ∧ Aside0 (kq ≤ k) ∧ Aside0 (Kd.R Kd.string 9 w' w.heap.size (fun _ => True) v676 t675) ∧ Aside0 (w'.heap[gb674]? = some (.cells #[(.slice A0_0 l0_0.length c0_0)] 33 (0, 0))) ∧ Aside0 (Below w.heap.size w w'))
 case atStart => exact ⟨(0), (0), (by rfl), (by rfl), H', ⟨Nat.le_refl _⟩, ⟨HO677.out⟩, ⟨BK674.out⟩, ⟨HB.out⟩⟩
 clear H'
 try clear p2
 try clear hcz5_0
 try clear hfz5_0
 obtain ⟨x8_1, x9_1, rfl, rfl, HA, HK1, HO_6, BK674, HB⟩ := hrel
 cases gk with
 | zero => exact absurd HA.out (by simp [spec_LevelOf.l0])
 | succ k1 =>
  have H := HA.out
  clear HA
  simp only [spec_LevelOf.l0] at H
  by_cases c7 : x9_1 < (t675.length : Int)
  rotate_left
  ·
   rw [if_neg c7] at H
   have c7b0 := dF_ c7
   clear c7
   simp only [Option.some.injEq, Prod.mk.injEq] at H
   obtain ⟨rfl, rfl⟩ := H
   obtain ⟨Ao11, co11, eo11⟩ := kS_ HO_6.out
   subst eo11
   go_wp2
   go_ret2
   exact ⟨by rfl, by exact HB.out⟩
  rw [if_pos c7] at H
  have c7b0 := dT_ c7
  clear c7
  by_cases c8 : 0 ≤ x9_1
  rotate_left
  ·
   rw [if_neg c8] at H
   exact absurd H (by simp)
  rw [if_pos c8] at H
  have c8b0 := dT_ c8
  clear c8
  replace H := oB_.mp H
  obtain ⟨t680, A90, H⟩ := H
  try dsimp only at H
  have A9 := aM_ A90
  clear A90
  have H' := aM_ H
  clear H
  obtain ⟨Ao10, co10, eo10⟩ := kS_ HO_6.out
  subst eo10
  have p679 : 0 ≤ (x9_1 : Int) := oD_ ‹_›
  have q679 : x9_1 < (t675.length : Int) := oD_ ‹_›
  obtain ⟨ad679, e679, hx679_0⟩ := Kd.at_string (kR_ HO_6.out).2.2 x9_1 p679 q679
  cases e679
  replace p679 := eq_true p679
  replace q679 := eq_true q679
  go_wp2_with (first | (refine gs_ 28 Tryz.func64 #[.int .i64 x8_1, .int .i64 ((rdOf eB_ t675 x9_1).size : Int)] ?_; (with_reducible refine (spec_l1Most.calls x8_1 ((rdOf eB_ t675 x9_1).size : Int) t680 _ A9.out).mono ?_); rintro e w' ⟨rfl, ⟨nd, rfl⟩⟩; refine ⟨_, rfl, ?_⟩))
  go_roundg k1
  case measure => have := HK1.out; omega
  case rel => exact ⟨(t680), (wrap64 (x9_1 + 1)), (by rfl), (by rfl), H', ⟨by have := HK1.out; omega⟩, ⟨by (with_reducible repeat (first | apply k1_ | apply k2_ | apply k3_)); exact HO_6.out⟩, ⟨by (with_reducible repeat (first | refine b2_ ?_ _ | refine b1_ ?_ | refine b3_ ?_ _)); exact BK674.out⟩, ⟨by repeat with_reducible first | exact HB.out | apply bA_ | apply bN_ | apply bD_ | refine bS_ ?_ GW674.out⟩⟩
def laws_FnExactLevelOf.j0 : Nat → Bool → List (S90) → List (S72) → Option (Bool)
 | 0, _, _, _ => none
 | k + 1, x38, x715000, x725000 => if x38 = true then (some false) else ((laws_toMachine.f k x715000).bind fun t727 => ((laws_eqMachine.f k x725000 t727).bind fun t730 => (if t730 = true then (some true) else (some false))))
def laws_FnExactLevelOf.f (k : Nat) (l0_0 : List (S90)) (a1 : Int) : Option (Bool) := (laws_szMachine.f k l0_0 1048576).bind fun t715 => (if t715 < 0 then (some true) else ((laws_toMachine.f k l0_0).bind fun t716 => ((spec_LevelOf.f k t716 a1).bind fun bt719 => ((laws_toMachine.f k l0_0).bind fun t721 => ((impl_LevelOf.f k t721 a1).bind fun bt725 => (if bt725.1 = bt719.1 then (laws_FnExactLevelOf.j0 k (bt725.2 != bt719.2) l0_0 t721) else (laws_FnExactLevelOf.j0 k true l0_0 t721)))))))
theorem laws_FnExactLevelOf.mono_l : ∀ k, (∀ y0 y1 y2, LeO (laws_FnExactLevelOf.j0 k y0 y1 y2) (laws_FnExactLevelOf.j0 (k + 1) y0 y1 y2))
 | 0 => fun _ _ _ r h => by simp [laws_FnExactLevelOf.j0] at h
 | k + 1 => by
  have ih0 := laws_FnExactLevelOf.mono_l k
  intro y0 y1 y2
  unfold laws_FnExactLevelOf.j0
  repeat' with_reducible first | exact ih0 _ _ _ | exact impl_LevelOf.mono _ _ _ | exact laws_eqMachine.mono _ _ _ | exact laws_szMachine.mono _ _ _ | exact laws_toMachine.mono _ _ | exact spec_LevelOf.mono _ _ _ | exact l3_ _ | exact l0_ _ | refine l2_ ?_ ?_ | refine l1_ ?_ (fun _ => ?_)
theorem laws_FnExactLevelOf.mono : ∀ a0 a1 k, LeO (laws_FnExactLevelOf.f k a0 a1) (laws_FnExactLevelOf.f (k + 1) a0 a1) := by
 intro a0 a1 k
 have ih0 := laws_FnExactLevelOf.mono_l k
 unfold laws_FnExactLevelOf.f
 repeat' with_reducible first | exact ih0 _ _ _ | exact impl_LevelOf.mono _ _ _ | exact laws_eqMachine.mono _ _ _ | exact laws_szMachine.mono _ _ _ | exact laws_toMachine.mono _ _ | exact spec_LevelOf.mono _ _ _ | exact l3_ _ | exact l0_ _ | refine l2_ ?_ ?_ | refine l1_ ?_ (fun _ => ?_)
theorem laws_FnExactLevelOf.calls (k : Nat) (A0_0 : Option Addr) (c0_0 : Nat) (l0_0 : List (S90)) (a1 : Int) (r : Bool) (w : World) (hr0_0 : Kd.C k90 w A0_0 l0_0.length l0_0) (hc0_0 : l0_0.length ≤ c0_0) (h : laws_FnExactLevelOf.f k l0_0 a1 = some r) :
  Calls Tryz.prog 8 #[.agg #[.slice A0_0 l0_0.length c0_0], .int .i64 a1] w fun e w' => e = .returned (.bool r) ∧ Below w.heap.size w w' := by
 have hu24 := Tryz.underlying24
 have hu33 := Tryz.underlying33
 have HR0_0 := aM_ hr0_0
 have HC0_0 := aM_ hc0_0
 clear hr0_0 hc0_0
 have HB := aM_ (Below.refl w.heap.size w)
 have H : ((laws_szMachine.f k l0_0 1048576).bind fun t715 => (if t715 < 0 then (some true) else ((laws_toMachine.f k l0_0).bind fun t716 => ((spec_LevelOf.f k t716 a1).bind fun bt719 => ((laws_toMachine.f k l0_0).bind fun t721 => ((impl_LevelOf.f k t721 a1).bind fun bt725 => (if bt725.1 = bt719.1 then (laws_FnExactLevelOf.j0 k (bt725.2 != bt719.2) l0_0 t721) else (laws_FnExactLevelOf.j0 k true l0_0 t721)))))))) = some r := h
 clear h
 replace H := oB_.mp H
 obtain ⟨t715, A30, H⟩ := H
 try dsimp only at H
 have A3 := aM_ A30
 clear A30
 by_cases c4 : t715 < 0
 ·
  rw [if_pos c4] at H
  have c4b0 := dT_ c4
  clear c4
  obtain rfl := Option.some.inj H
  go_enter Tryz.func8, Tryz.ntmps8
  go_wp2_with (first | (refine bx_ 2 #[.slice A0_0 l0_0.length c0_0] 24 ?_; intro gb714 hg w5 hbox hb; have BK714 := aM_ (hbox); have GW714 := gw_ hg HB; replace HB := b4_ HB hb; clear hb hbox hg; have hcz6_0 := c0_ BK714; have hfz6_0 := bF_ BK714.out 0) | (refine gs_ 13 Tryz.func13 #[.agg #[.slice A0_0 l0_0.length c0_0], .int .i64 1048576] ?_; (with_reducible refine (laws_szMachine.calls k _ _ l0_0 1048576 t715 _ ?side1 HC0_0.out A3.out).mono ?_); (case side1 => repeat (first | exact (k4_ HR0_0.out HB.out) | with_reducible first | apply cA_ | apply cN_ | apply cD_)); rintro e w7 ⟨rfl, hb⟩; refine ⟨_, rfl, ?_⟩; replace BK714 := b5_ BK714 hb; replace HB := b4_ HB hb; (try clear hb)))
  go_ret
  exact ⟨by rfl, by exact HB.out⟩
 rw [if_neg c4] at H
 have c4b0 := dF_ c4
 clear c4
 replace H := oB_.mp H
 obtain ⟨t716, A80, H⟩ := H
 try dsimp only at H
 have A8 := aM_ A80
 clear A80
 replace H := oB_.mp H
 obtain ⟨⟨t719, t720⟩, A90, H⟩ := H
 try dsimp only at H
 have A9 := aM_ A90
 clear A90
 replace H := oB_.mp H
 obtain ⟨t721, A100, H⟩ := H
 try dsimp only at H
 have A10 := aM_ A100
 clear A100
 replace H := oB_.mp H
 obtain ⟨⟨t725, t726⟩, A110, H⟩ := H
 try dsimp only at H
 have A11 := aM_ A110
 clear A110
 have HC12 := aM_ H
 clear H
 go_enter Tryz.func8, Tryz.ntmps8
 go_upto_region 8 with (first | (refine bx_ 2 #[.slice A0_0 l0_0.length c0_0] 24 ?_; intro gb714 hg w13 hbox hb; have BK714 := aM_ (hbox); have GW714 := gw_ hg HB; replace HB := b4_ HB hb; clear hb hbox hg; have hcz14_0 := c0_ BK714; have hfz14_0 := bF_ BK714.out 0) | (refine gs_ 13 Tryz.func13 #[.agg #[.slice A0_0 l0_0.length c0_0], .int .i64 1048576] ?_; (with_reducible refine (laws_szMachine.calls k _ _ l0_0 1048576 t715 _ ?side1 HC0_0.out A3.out).mono ?_); (case side1 => repeat (first | exact (k4_ HR0_0.out HB.out) | with_reducible first | apply cA_ | apply cN_ | apply cD_)); rintro e w15 ⟨rfl, hb⟩; refine ⟨_, rfl, ?_⟩; replace BK714 := b5_ BK714 hb; replace HB := b4_ HB hb; (try clear hb); have hcz16_0 := c0_ BK714; have hfz16_0 := bF_ BK714.out 0) | (refine gs_ 18 Tryz.func15 #[.agg #[.slice A0_0 l0_0.length c0_0]] ?_; (with_reducible refine (laws_toMachine.calls k _ _ l0_0 t716 _ ?side1 HC0_0.out A8.out).mono ?_); (case side1 => repeat (first | exact (k4_ HR0_0.out HB.out) | with_reducible first | apply cA_ | apply cN_ | apply cD_)); rintro e w17 ⟨v717, rfl, ho0, hb⟩; refine ⟨_, rfl, ?_⟩; have HO718 := aM_ (Kd.S_lower ho0 (bZ_ HB.out)); replace BK714 := b5_ BK714 hb; replace HB := b4_ HB hb; (try clear hb); (try clear ho0); obtain ⟨Ao18, co18, eo18⟩ := Kd.S_slice HO718.out; subst eo18) | (refine gs_ 20 Tryz.func30 #[.agg #[.slice Ao18 t716.length co18], .int .i64 a1] ?_; (with_reducible refine (spec_LevelOf.calls k _ _ t716 a1 t719 t720 _ ?side1 ?side2 A9.out).mono ?_); (case side1 => repeat (first | exact (Kd.S_reads' HO718.out).2.2 | with_reducible first | apply cA_ | apply cN_ | apply cD_)); (case side2 => exact (Kd.S_reads' HO718.out).2.1); rintro e w19 ⟨rfl, hb⟩; refine ⟨_, rfl, ?_⟩; replace HO718 := aM_ (Kd.S_below (by (with_reducible repeat (first | apply Kd.S_alloc | apply Kd.S_drewN | apply Kd.S_drew)); exact HO718.out) hb); replace BK714 := b5_ BK714 hb; replace HB := b4_ HB hb; (try clear hb); have hcz20_0 := c0_ BK714; have hfz20_0 := bF_ BK714.out 0) | (refine gs_ 24 Tryz.func15 #[.agg #[.slice A0_0 l0_0.length c0_0]] ?_; (with_reducible refine (laws_toMachine.calls k _ _ l0_0 t721 _ ?side1 HC0_0.out A10.out).mono ?_); (case side1 => repeat (first | exact (k4_ HR0_0.out HB.out) | with_reducible first | apply cA_ | apply cN_ | apply cD_)); rintro e w21 ⟨v722, rfl, ho0, hb⟩; refine ⟨_, rfl, ?_⟩; have HO723 := aM_ (Kd.S_lower (Kd.S_new' ho0 (Kd.S_lt (by (with_reducible repeat (first | apply Kd.S_alloc | apply Kd.S_drewN | apply Kd.S_drew)); exact HO718.out))) (bZ_ HB.out)); replace HO718 := aM_ (Kd.S_elder' (by (with_reducible repeat (first | apply Kd.S_alloc | apply Kd.S_drewN | apply Kd.S_drew)); exact HO718.out) (Kd.S_base ho0) hb); replace BK714 := b5_ BK714 hb; replace HB := b4_ HB hb; (try clear hb); (try clear ho0)) | (refine bx_ 8 #[.slice none 0 0] 33 ?_; intro gb724 hg w22 hbox hb; replace HO718 := aM_ (Kd.S_below (by (with_reducible repeat (first | apply Kd.S_alloc | apply Kd.S_drewN | apply Kd.S_drew)); exact HO718.out) hb); replace HO723 := aM_ (Kd.S_below (by (with_reducible repeat (first | apply Kd.S_alloc | apply Kd.S_drewN | apply Kd.S_drew)); exact HO723.out) hb); have BK724 := aM_ (hbox); have GW724 := gw_ hg HB; replace HB := b4_ HB hb; have NB714_724 := nb_ hg BK714; have NB724_714 := ns_ NB714_724; replace BK714 := b5_ BK714 hb; clear hb hbox hg; obtain ⟨Ao23, co23, eo23⟩ := Kd.S_slice HO723.out; subst eo23; have hnb24 := NB724_714.out; have hnc24 := NB714_724.out; have hcz25_0 := c0_ BK724; have hfz25_0 := bF_ BK724.out 0) | (refine gs_ 28 Tryz.func31 #[.agg #[.slice Ao23 t721.length co23], .int .i64 a1] ?_; (with_reducible refine (impl_LevelOf.calls k _ _ t721 a1 t725 t726 _ ?side1 ?side2 A11.out).mono ?_); (case side1 => refine (Kd.S_reads' (e := 72) (base := w.heap.size) (ok := fun k_ => (True ∧ some k_ ≠ (.slice Ao18 t716.length co18 : Value).ownBlock)) (n := t721.length) (c := co23) ?_).2.2; exact (by (with_reducible repeat (first | apply Kd.S_alloc | apply Kd.S_drewN | apply Kd.S_drew)); exact (Kd.S_mono (Kd.S_far (p := ⟨gb724, 0, none⟩) (Kd.S_types HO723.out BK724.out (by decide)) (fun _ hk => hk.2) (.slice Ao23 t721.length co23)) (fun _ h_ => h_.1)))); (case side2 => exact (Kd.S_reads' HO723.out).2.1); rintro e w26 ⟨rfl, hb⟩; refine ⟨_, rfl, ?_⟩; replace HO718 := aM_ (Kd.S_below (by (with_reducible repeat (first | apply Kd.S_alloc | apply Kd.S_drewN | apply Kd.S_drew)); exact (Kd.S_mono (Kd.S_far (p := ⟨gb724, 0, none⟩) (Kd.S_types HO718.out BK724.out (by decide)) (fun _ hk => hk.2) (.slice Ao23 t721.length co23)) (fun _ h_ => h_.1))) hb); replace HO723 := aM_ (Kd.S_below (by (with_reducible repeat (first | apply Kd.S_alloc | apply Kd.S_drewN | apply Kd.S_drew)); exact (Kd.S_mono (Kd.S_far (p := ⟨gb724, 0, none⟩) (Kd.S_types HO723.out BK724.out (by decide)) (fun _ hk => hk.2) (.slice Ao23 t721.length co23)) (fun _ h_ => h_.1))) hb); replace BK714 := aM_ (bB_ (g := gb714) (o := .cells #[.slice A0_0 l0_0.length c0_0] 24 (0, 0)) (by exact br_ NB714_724.out (BK714.out)) hb); replace BK724 := aM_ (bB_ (g := gb724) (o := .cells #[.slice Ao23 t721.length co23] 33 (0, 0)) (by refine bP_ (cs := #[.slice none 0 0]) ?_ 0 _ rfl; exact BK724.out) hb); replace HB := aM_ (bT_ (by repeat with_reducible first | exact HB.out | apply bA_ | apply bN_ | apply bD_ | refine bS_ ?_ (Aside0.out ‹_›)) hb); (try clear hb)))
 (try simp only [Act.put, sA_, sB_, sC_])
 go_cut [38] (fun v38 wc => ∃ (kq : Nat) (x38_11 : Bool), v38 = .bool x38_11 ∧ Aside0 (laws_FnExactLevelOf.j0 kq x38_11 l0_0 t721 = some r) ∧ Aside0 (kq ≤ k) ∧ Aside0 (Kd.S k72 72 wc w.heap.size (fun _ => True) (.slice Ao23 t721.length co23) t721) ∧ Aside0 (wc.heap[gb714]? = some (.cells #[(.slice A0_0 l0_0.length c0_0)] 24 (0, 0))) ∧ Aside0 (wc.heap[gb724]? = some (.cells #[(.slice Ao23 t721.length co23)] 33 (0, 0))) ∧ Aside0 (Below w.heap.size w wc))
 case first =>
  have H := HC12.out
  clear HC12
  by_cases c27 : t725 = t719
  ·
   rw [if_pos c27] at H
   have c27b0 : (t725 == t719) = true := beq_iff_eq.mpr c27
   have c27b1 : (t725 != t719) = false := bne_eq_false_iff_eq.mpr c27
   clear c27
   (skip)
   have H' := aM_ H
   clear H
   go_wp2
   go_meet
   case rel => exact ⟨_, ((t726 != t720)), (by rfl), H', ⟨by omega⟩, ⟨by (with_reducible repeat (first | apply Kd.S_alloc | apply Kd.S_drewN | apply Kd.S_drew)); exact Kd.S_mono HO723.out (fun _ hk => trivial)⟩, ⟨BK714.out⟩, ⟨BK724.out⟩, ⟨HB.out⟩⟩
  rw [if_neg c27] at H
  have c27b0 : (t725 == t719) = false := beq_eq_false_iff_ne.mpr c27
  have c27b1 : (t725 != t719) = true := bne_iff_ne.mpr c27
  (skip)
  have H' := aM_ H
  clear H
  go_wp2
  go_meet
  case rel => exact ⟨_, (true), (by rfl), H', ⟨by omega⟩, ⟨by (with_reducible repeat (first | apply Kd.S_alloc | apply Kd.S_drewN | apply Kd.S_drew)); exact Kd.S_mono HO723.out (fun _ hk => trivial)⟩, ⟨BK714.out⟩, ⟨BK724.out⟩, ⟨HB.out⟩⟩
 clear HC12
 try clear p2
 try clear c4b0
 try clear c27b0
 try clear c27b1
 try clear hcz14_0
 try clear hcz16_0
 try clear hcz20_0
 try clear hcz25_0
 try clear hcz6_0
 try clear hfz14_0
 try clear hfz16_0
 try clear hfz20_0
 try clear hfz25_0
 try clear hfz6_0
 obtain ⟨kq, x38_11, rfl, HA, HJ11, HO_725000, BK714, BK724, HB⟩ := hcut
 cases kq with
 | zero => exact absurd HA.out (by simp [laws_FnExactLevelOf.j0])
 | succ kj11 =>
  have H := HA.out
  clear HA
  simp only [laws_FnExactLevelOf.j0] at H
  by_cases c28 : x38_11 = true
  ·
   subst c28
   rw [if_pos rfl] at H
   obtain rfl := Option.some.inj H
   go_wp2
   go_ret
   exact ⟨by rfl, by exact HB.out⟩
  replace c28 := Bool.eq_false_iff.mpr c28
  subst c28
  replace H : ((laws_toMachine.f kj11 l0_0).bind fun t727 => ((laws_eqMachine.f kj11 t721 t727).bind fun t730 => (if t730 = true then (some true) else (some false)))) = some r := by rw [if_neg (show ¬ (false = true) by decide)] at H; exact H
  replace H := oB_.mp H
  obtain ⟨t727, A290, H⟩ := H
  try dsimp only at H
  have A29 := aM_ A290
  clear A290
  replace H := oB_.mp H
  obtain ⟨t730, A300, H⟩ := H
  try dsimp only at H
  have A30 := aM_ A300
  clear A300
  by_cases c31 : t730 = true
  ·
   subst c31
   rw [if_pos rfl] at H
   obtain rfl := Option.some.inj H
   try go_wp2
   have n0_ := aM_ (Kd.S_drew HO_725000.out)
   have n1_ := aM_ (b1_ BK714.out)
   have n2_ := aM_ (b1_ BK724.out)
   have n3_ := aM_ (bD_ HB.out)
   clear HO_725000
   clear BK714
   clear BK724
   clear HB
   have HO_725000 := n0_
   have BK714 := n1_
   have BK724 := n2_
   have HB := n3_
   clear n0_ n1_ n2_ n3_
   refine start_ (n := 5) (S := fun w' => w'.cell? ⟨gb724, 0, none⟩ = some (.slice Ao23 t721.length co23) ∧ w'.cell? ⟨gb714, 0, none⟩ = some (.slice A0_0 l0_0.length c0_0)) (ds := []) #[fy, fy, fy, fy, fy] (by kernel_rfl) rfl rfl ⟨(bC_ BK724.out 0).trans rfl, (bC_ BK714.out 0).trans rfl⟩ (fun hHeld => ?_)
   generalize wc.drew = w32 at HO_725000 BK714 BK724 HB hHeld ⊢
   refine take_ (i := 0) (N := some 39) (v := ?_) (a' := ?_) #[ty, fy, fy, fy, fy] rfl rfl (by kernel_rfl) (fun _ _ _ h => h) (Or.inl ⟨by rfl, ?_⟩) hHeld ?_ ?_; rotate_left; (rintro w' ⟨s0, s1⟩; go_simp; with_reducible rfl); rotate_left; (simp only [Act.put, sA_, sB_, sC_, i6_, i3_]; rfl)
   refine take_ (i := 1) (N := some 40) (v := ?_) (a' := ?_) #[ty, ty, fy, fy, fy] rfl rfl (by kernel_rfl) (fun _ _ _ h => h) (Or.inl ⟨by rfl, ?_⟩) hHeld ?_ ?_; rotate_left; (rintro w' ⟨s0, s1⟩; go_simp; with_reducible rfl); rotate_left; (simp only [Act.put, sA_, sB_, sC_, i6_, i3_]; rfl)
   refine one_ (i := 2) (N := some 41) #[ty, ty, ty, fy, fy] rfl rfl (by kernel_rfl) (by decide) (fun K hK => ?_)
   refine goes_ Tryz.func15 (by kernel_rfl) rfl #[.agg #[.slice A0_0 l0_0.length c0_0]] (by rfl) rfl rfl (by (try simp only [sD_, sE_, sF_]); rfl) ?_
   with_reducible refine (laws_toMachine.calls kj11 _ _ l0_0 t727 _ ?side1 ?side2 A29.out).mono ?_
   (case side1 => repeat (first | exact (k4_ HR0_0.out HB.out) | with_reducible first | apply cA_ | apply cN_ | apply cD_))
   (case side2 => exact HC0_0.out)
   rintro e w33 ⟨v728, rfl, ho0, hb⟩
   refine ⟨_, rfl, ?_⟩
   have n0_ := aM_ (Kd.S_elder' (by (with_reducible repeat (first | apply Kd.S_alloc | apply Kd.S_drewN | apply Kd.S_drew)); exact HO_725000.out) (Kd.S_base ho0) hb)
   have n1_ := aM_ (Kd.S_lower (Kd.S_new' ho0 (Kd.S_lt (by (with_reducible repeat (first | apply Kd.S_alloc | apply Kd.S_drewN | apply Kd.S_drew)); exact HO_725000.out))) (bZ_ HB.out))
   have n2_ := b5_ BK714 hb
   have n3_ := b5_ BK724 hb
   have n4_ := b4_ HB hb
   clear HO_725000
   clear BK714
   clear BK724
   clear HB
   have HO_725000 := n0_
   have HO729 := n1_
   have BK714 := n2_
   have BK724 := n3_
   have HB := n4_
   clear n0_ n1_ n2_ n3_ n4_
   (try clear hb)
   (try clear ho0)
   obtain ⟨Ao34, co34, eo34⟩ := Kd.S_slice HO729.out
   (subst eo34)
   refine hK.out _ _ ⟨(bC_ BK724.out 0).trans rfl, (bC_ BK714.out 0).trans rfl⟩ (fun hHeld => ?_)
   clear hK K
   refine norm_ (by show Act.put _ (some 41) _ = _; simp only [Act.put, sA_, sB_, sC_, i6_, i3_]; rfl) ?_
   refine one_ (i := 3) (N := some 42) #[ty, ty, ty, ty, fy] rfl rfl (by kernel_rfl) (by decide) (fun K hK => ?_)
   refine goes_ Tryz.func18 (by kernel_rfl) rfl #[.agg #[.slice Ao23 t721.length co23], .agg #[.slice Ao34 t727.length co34]] (by rfl) rfl rfl (by (try simp only [sD_, sE_, sF_]); rfl) ?_
   with_reducible refine (laws_eqMachine.calls kj11 _ _ t721 _ _ t727 true _ ?side1 ?side2 ?side3 ?side4 A30.out).mono ?_
   (case side1 => repeat (first | exact (Kd.S_reads' HO_725000.out).2.2 | with_reducible first | apply cA_ | apply cN_ | apply cD_))
   (case side2 => exact (Kd.S_reads' HO_725000.out).2.1)
   (case side3 => repeat (first | exact (Kd.S_reads' HO729.out).2.2 | with_reducible first | apply cA_ | apply cN_ | apply cD_))
   (case side4 => exact (Kd.S_reads' HO729.out).2.1)
   rintro e w35 ⟨rfl, hb⟩
   refine ⟨_, rfl, ?_⟩
   have n0_ := aM_ (Kd.S_below (by (with_reducible repeat (first | apply Kd.S_alloc | apply Kd.S_drewN | apply Kd.S_drew)); exact HO_725000.out) hb)
   have n1_ := aM_ (Kd.S_below (by (with_reducible repeat (first | apply Kd.S_alloc | apply Kd.S_drewN | apply Kd.S_drew)); exact HO729.out) hb)
   have n2_ := b5_ BK714 hb
   have n3_ := b5_ BK724 hb
   have n4_ := b4_ HB hb
   clear HO_725000
   clear HO729
   clear BK714
   clear BK724
   clear HB
   have HO_725000 := n0_
   have HO729 := n1_
   have BK714 := n2_
   have BK724 := n3_
   have HB := n4_
   clear n0_ n1_ n2_ n3_ n4_
   (try clear hb)
   refine hK.out _ _ ⟨(bC_ BK724.out 0).trans rfl, (bC_ BK714.out 0).trans rfl⟩ (fun hHeld => ?_)
   clear hK K
   refine norm_ (by show Act.put _ (some 42) _ = _; simp only [Act.put, sA_, sB_, sC_, i6_, i3_]; rfl) ?_
   refine pure_ (i := 4) (N := some 43) (v := ?_) (a' := ?_) #[ty, ty, ty, ty, ty] rfl rfl (by kernel_rfl) (fun _ _ _ h => h) (Or.inl ⟨by rfl, ?_⟩) ?_ ?_; rotate_left; (intro w'; go_simp; with_reducible rfl); rotate_left; (simp only [Act.put, sA_, sB_, sC_, i6_, i3_]; rfl)
   refine done_ (by kernel_rfl) ?_
   try go_wp2
   go_ret
   exact ⟨by rfl, by exact HB.out⟩
  replace c31 := Bool.eq_false_iff.mpr c31
  subst c31
  replace H : (some false) = some r := by rw [if_neg (show ¬ (false = true) by decide)] at H; exact H
  obtain rfl := Option.some.inj H
  try go_wp2
  have n0_ := aM_ (Kd.S_drew HO_725000.out)
  have n1_ := aM_ (b1_ BK714.out)
  have n2_ := aM_ (b1_ BK724.out)
  have n3_ := aM_ (bD_ HB.out)
  clear HO_725000
  clear BK714
  clear BK724
  clear HB
  have HO_725000 := n0_
  have BK714 := n1_
  have BK724 := n2_
  have HB := n3_
  clear n0_ n1_ n2_ n3_
  refine start_ (n := 5) (S := fun w' => w'.cell? ⟨gb724, 0, none⟩ = some (.slice Ao23 t721.length co23) ∧ w'.cell? ⟨gb714, 0, none⟩ = some (.slice A0_0 l0_0.length c0_0)) (ds := []) #[fy, fy, fy, fy, fy] (by kernel_rfl) rfl rfl ⟨(bC_ BK724.out 0).trans rfl, (bC_ BK714.out 0).trans rfl⟩ (fun hHeld => ?_)
  generalize wc.drew = w36 at HO_725000 BK714 BK724 HB hHeld ⊢
  refine take_ (i := 0) (N := some 39) (v := ?_) (a' := ?_) #[ty, fy, fy, fy, fy] rfl rfl (by kernel_rfl) (fun _ _ _ h => h) (Or.inl ⟨by rfl, ?_⟩) hHeld ?_ ?_; rotate_left; (rintro w' ⟨s0, s1⟩; go_simp; with_reducible rfl); rotate_left; (simp only [Act.put, sA_, sB_, sC_, i6_, i3_]; rfl)
  refine take_ (i := 1) (N := some 40) (v := ?_) (a' := ?_) #[ty, ty, fy, fy, fy] rfl rfl (by kernel_rfl) (fun _ _ _ h => h) (Or.inl ⟨by rfl, ?_⟩) hHeld ?_ ?_; rotate_left; (rintro w' ⟨s0, s1⟩; go_simp; with_reducible rfl); rotate_left; (simp only [Act.put, sA_, sB_, sC_, i6_, i3_]; rfl)
  refine one_ (i := 2) (N := some 41) #[ty, ty, ty, fy, fy] rfl rfl (by kernel_rfl) (by decide) (fun K hK => ?_)
  refine goes_ Tryz.func15 (by kernel_rfl) rfl #[.agg #[.slice A0_0 l0_0.length c0_0]] (by rfl) rfl rfl (by (try simp only [sD_, sE_, sF_]); rfl) ?_
  with_reducible refine (laws_toMachine.calls kj11 _ _ l0_0 t727 _ ?side1 ?side2 A29.out).mono ?_
  (case side1 => repeat (first | exact (k4_ HR0_0.out HB.out) | with_reducible first | apply cA_ | apply cN_ | apply cD_))
  (case side2 => exact HC0_0.out)
  rintro e w37 ⟨v728, rfl, ho0, hb⟩
  refine ⟨_, rfl, ?_⟩
  have n0_ := aM_ (Kd.S_elder' (by (with_reducible repeat (first | apply Kd.S_alloc | apply Kd.S_drewN | apply Kd.S_drew)); exact HO_725000.out) (Kd.S_base ho0) hb)
  have n1_ := aM_ (Kd.S_lower (Kd.S_new' ho0 (Kd.S_lt (by (with_reducible repeat (first | apply Kd.S_alloc | apply Kd.S_drewN | apply Kd.S_drew)); exact HO_725000.out))) (bZ_ HB.out))
  have n2_ := b5_ BK714 hb
  have n3_ := b5_ BK724 hb
  have n4_ := b4_ HB hb
  clear HO_725000
  clear BK714
  clear BK724
  clear HB
  have HO_725000 := n0_
  have HO729 := n1_
  have BK714 := n2_
  have BK724 := n3_
  have HB := n4_
  clear n0_ n1_ n2_ n3_ n4_
  (try clear hb)
  (try clear ho0)
  obtain ⟨Ao38, co38, eo38⟩ := Kd.S_slice HO729.out
  (subst eo38)
  refine hK.out _ _ ⟨(bC_ BK724.out 0).trans rfl, (bC_ BK714.out 0).trans rfl⟩ (fun hHeld => ?_)
  clear hK K
  refine norm_ (by show Act.put _ (some 41) _ = _; simp only [Act.put, sA_, sB_, sC_, i6_, i3_]; rfl) ?_
  refine one_ (i := 3) (N := some 42) #[ty, ty, ty, ty, fy] rfl rfl (by kernel_rfl) (by decide) (fun K hK => ?_)
  refine goes_ Tryz.func18 (by kernel_rfl) rfl #[.agg #[.slice Ao23 t721.length co23], .agg #[.slice Ao38 t727.length co38]] (by rfl) rfl rfl (by (try simp only [sD_, sE_, sF_]); rfl) ?_
  with_reducible refine (laws_eqMachine.calls kj11 _ _ t721 _ _ t727 false _ ?side1 ?side2 ?side3 ?side4 A30.out).mono ?_
  (case side1 => repeat (first | exact (Kd.S_reads' HO_725000.out).2.2 | with_reducible first | apply cA_ | apply cN_ | apply cD_))
  (case side2 => exact (Kd.S_reads' HO_725000.out).2.1)
  (case side3 => repeat (first | exact (Kd.S_reads' HO729.out).2.2 | with_reducible first | apply cA_ | apply cN_ | apply cD_))
  (case side4 => exact (Kd.S_reads' HO729.out).2.1)
  rintro e w39 ⟨rfl, hb⟩
  refine ⟨_, rfl, ?_⟩
  have n0_ := aM_ (Kd.S_below (by (with_reducible repeat (first | apply Kd.S_alloc | apply Kd.S_drewN | apply Kd.S_drew)); exact HO_725000.out) hb)
  have n1_ := aM_ (Kd.S_below (by (with_reducible repeat (first | apply Kd.S_alloc | apply Kd.S_drewN | apply Kd.S_drew)); exact HO729.out) hb)
  have n2_ := b5_ BK714 hb
  have n3_ := b5_ BK724 hb
  have n4_ := b4_ HB hb
  clear HO_725000
  clear HO729
  clear BK714
  clear BK724
  clear HB
  have HO_725000 := n0_
  have HO729 := n1_
  have BK714 := n2_
  have BK724 := n3_
  have HB := n4_
  clear n0_ n1_ n2_ n3_ n4_
  (try clear hb)
  refine hK.out _ _ ⟨(bC_ BK724.out 0).trans rfl, (bC_ BK714.out 0).trans rfl⟩ (fun hHeld => ?_)
  clear hK K
  refine norm_ (by show Act.put _ (some 42) _ = _; simp only [Act.put, sA_, sB_, sC_, i6_, i3_]; rfl) ?_
  refine pure_ (i := 4) (N := some 43) (v := ?_) (a' := ?_) #[ty, ty, ty, ty, ty] rfl rfl (by kernel_rfl) (fun _ _ _ h => h) (Or.inl ⟨by rfl, ?_⟩) ?_ ?_; rotate_left; (intro w'; go_simp; with_reducible rfl); rotate_left; (simp only [Act.put, sA_, sB_, sC_, i6_, i3_]; rfl)
  refine done_ (by kernel_rfl) ?_
  try go_wp2
  go_ret
  exact ⟨by rfl, by exact HB.out⟩
def laws_FnExactLevelOf.Pure : Prop := ∀ (l0_0 : List S90) (a1 : Int), l0_0.length ≤ 9223372036854775807 → (∀ x ∈ l0_0, x.f1.length ≤ 9223372036854775807) → (Lit.int .i64 a1).wf = true → ∃ k, laws_FnExactLevelOf.f k l0_0 a1 = some true
theorem laws_FnExactLevelOf.walk (P : laws_FnExactLevelOf.Pure) (w : World) (A0 : Option Addr) (c0 : Nat) (l0_0 : List S90) (hr0 : Kd.C k90 w A0 l0_0.length l0_0) (hc0 : l0_0.length ≤ c0) (a1 : Int) (w1 : (Lit.int .i64 a1).wf = true) :
  Calls Tryz.prog 8 #[.agg #[.slice A0 l0_0.length c0], .int .i64 a1] w fun e w' => e = .returned (.bool true) ∧ Below w.heap.size w w' := by
 obtain ⟨k, h⟩ := P l0_0 a1 hr0.2.1 (by intro x hx; obtain ⟨i, hi, rfl⟩ := List.getElem_of_mem hx; obtain ⟨_, _, _, _, _, _, _, h9⟩ := at_T90 hr0 (i : Int) (by omega) (by omega); have h8 := h9.2.1; unfold rd_T90 at h8; rw [Int.toNat_natCast, List.getD_eq_getElem?_getD, List.getElem?_eq_getElem hi] at h8; exact h8) w1
 refine (laws_FnExactLevelOf.calls k _ _ l0_0 a1 true w hr0 hc0 h).mono ?_
 rintro e w' ⟨rfl, hd⟩
 exact ⟨rfl, hd⟩
end Go.Proofs.YtnnkedeohfbkeaaGreatDoor.P
namespace Go.Proofs.YtnnkedeohfbkeaaGreatDoor.L
open Go.RowKit Go.Proofs.YtnnkedeohfbkeaaGreatDoor.P Go.Proofs.YtnnkedeohfbkeaaGreatDoor.M Go.Proofs.YtnnkedeohfbkeaaGreatDoorW.PrintWords Go.Proofs.YtnnkedeohfbkeaaGreatDoorW.PrintLast Go.Proofs.YtnnkedeohfbkeaaGreatDoorW.PrintMore
namespace Mach
theorem index_int (l : List Int) (x : Int) (hl : l.length ≤ 1000000) (h : x ∈ l) : ∃ j : Nat, j < l.length ∧ rd l (j : Int) = x ∧ Ev (fun k => slices_Index_int_int.f k l x) (j : Int) := by
 have loop : ∀ d i, i + d = l.length → x ∈ l.drop i → ∃ j : Nat, j < l.length ∧ rd l (j : Int) = x ∧ Ev (fun k => slices_Index_int_int.l0 k l x (l.length : Int) (i : Int)) (j : Int) := by
  intro d
  induction d with
  | zero =>
   intro i hi hm
   rw [List.drop_eq_nil_of_le (by omega)] at hm
   cases hm
  | succ d ih =>
   intro i hi hm
   have hil : i < l.length := by omega
   by_cases e : x = rd l (i : Int)
   ·
    exact ⟨i, hil, e.symm, Ev.step (fun k => slices_Index_int_int.l0.eq_2 ..) (Ev.ifT (by omega) (Ev.ifT (by omega) (Ev.ifT (by omega) (Ev.ifT e (Ev.now _)))))⟩
   rw [List.drop_eq_getElem_cons hil] at hm
   have hm2 : x ∈ l.drop (i + 1) := by
    rcases List.mem_cons.1 hm with k | k
    ·
     exact absurd (by rw [rd_nat, getD_lt 0 hil]; exact k) e
    exact k
   obtain ⟨j, j1, j2, j3⟩ := ih (i + 1) (by omega) hm2
   refine ⟨j, j1, j2, Ev.step (fun k => slices_Index_int_int.l0.eq_2 ..) (Ev.ifT (by omega) (Ev.ifT (by omega) (Ev.ifT (by omega) (Ev.ifF e ?_))))⟩
   rw [wrap64_succ i (by omega)]
   exact j3
 unfold slices_Index_int_int.f
 exact loop l.length 0 (by omega) (by rw [List.drop_zero]; exact h)
theorem st_at {ws : List Txt} {a : Int} (h0 : 0 ≤ a) (h1 : a ≤ ((machW ws).length : Int) - 1) : ∃ b, b ∈ dL ws ∧ ((dL ws).idxOf b : Int) = a := by
 rw [machW_length] at h1
 have h2 : a.toNat < (dL ws).length := by omega
 refine ⟨(dL ws)[a.toNat], List.getElem_mem h2, ?_⟩
 have hn : (dL ws).Nodup := by rw [← fL_all]; exact fL_nodup ws _
 rw [idxOf_nodup hn a.toNat h2]
 omega
theorem idx_inj {ws : List Txt} {a b : List Txt} (ha : a ∈ dL ws) (hb : b ∈ dL ws) (h : ((dL ws).idxOf a : Int) = ((dL ws).idxOf b : Int)) : a = b := by
 have h1 := idx_get ha
 have h2 := idx_get hb
 have h3 : (dL ws).idxOf a = (dL ws).idxOf b := by omega
 rw [h3, h2] at h1
 exact (Option.some.inj h1).symm
theorem cnt_dL {ws : List Txt} (h : OkW ws) {b : List Txt} (hb : b ∈ dL ws) : cntL 12 b ≤ 481 := by
 obtain ⟨p, _, rfl⟩ := mem_dL.1 hb
 exact cntL_ok h p
theorem prefixOf_ev {ws : List Txt} (h : OkW ws) {b : List Txt} (hb : b ∈ dL ws) : ∃ p, p ∈ preL ws ∧ behL ws p = b ∧ Ev (fun k => impl_Machine_prefixOf.f k (machW ws) (trN (preL ws) ws) ((dL ws).idxOf b : Int)) (B p) := by
 have hP := h.pre
 obtain ⟨q, hq, hqb⟩ := mem_dL.1 hb
 obtain ⟨z1, z2⟩ := placeL_mem hq
 have hm : ((dL ws).idxOf b : Int) ∈ idsW ws (preL ws).length := by
  have e := idsW_get (ws := ws) z1
  rw [resL_get z1, z2, hqb, rd_nat, getD_lt 0 (by rw [idsW_length]; exact z1)] at e
  rw [← e]
  exact List.getElem_mem _
 obtain ⟨j, j1, j2, j3⟩ := index_int _ _ (by rw [idsW_length]; omega) hm
 rw [idsW_length] at j1
 rw [idsW_get j1] at j2
 have hbj := idx_inj (res_mem j1) hb j2
 rw [resL_get j1] at hbj
 refine ⟨(preL ws).getD j [], getD_mem j1, hbj, ?_⟩
 unfold impl_Machine_prefixOf.f
 refine Ev.bind (prefixes_tr h) (Ev.bind (machine_ev h) (Ev.bind j3 (Ev.ifT (by omega) (Ev.ifT (by rw [List.length_map]; omega) ?_))))
 rw [rdB _ j j1]
 exact Ev.now _
theorem behind_both (m : List Stt) (a : Int) (hx : ∀ x ∈ m, x.f1.length ≤ 1048576) : ∃ (L : List Txt) (ok : Bool), Ev (fun k => spec_BehindState.f k m a) (L.map B, ok) ∧ Ev (fun k => impl_BehindState.f k m a) (L.map B, ok) ∧ L.length ≤ 481 ∧ (∀ w ∈ L, w.length ≤ 12) ∧ (ok = false → L = []) := by
 unfold spec_BehindState.f impl_BehindState.f
 have no : ∀ m t, Ev (fun k => impl_BehindState.j0 k a true m t) (([] : List Txt).map B, false) := fun m t => Ev.step (fun k => impl_BehindState.j0.eq_2 ..) (Ev.ifT rfl (Ev.now _))
 rcases mach_both m hx with ⟨ws, h, rfl, h1, h2⟩ | ⟨h1, h2⟩
 ·
  have hd := dL_length h
  have e1 : wrap64 (((machW ws).length : Int) - 1) = ((machW ws).length : Int) - 1 := wrap64_id (by omega) (by rw [machW_length]; omega)
  by_cases ha : 0 ≤ a ∧ a ≤ ((machW ws).length : Int) - 1
  ·
   obtain ⟨b, hb, rfl⟩ := st_at ha.1 ha.2
   obtain ⟨p, hp, hpb, he⟩ := prefixOf_ev h hb
   have hr := dL_res h hb
   have hc := cnt_dL h hb
   have hw := walkW h 12 b [] 0 hr hb (by simp) (by omega)
   rw [map_nilT] at hw
   have hpl := (wordL_iff.1 (preL_word h.word hp)).2
   refine ⟨b, true, Ev.bind h1 (Ev.ifT rfl ?_), Ev.bind h2 (Ev.ifT rfl ?_), Nat.le_trans (len_cnt 12 b hr) hc, hr.len, fun k => by cases k⟩
   ·
    rw [e1, l1In_eq, decide_eq_true ha]
    exact Ev.some_bind (Ev.ifT rfl (Ev.bind hw (Ev.now _)))
   rw [e1, in_eq, decide_eq_true ha]
   refine Ev.some_bind (Ev.step (fun k => impl_BehindState.j0.eq_2 ..) (Ev.ifF Bool.false_ne_true (Ev.bind he (Ev.bind (behind_ev h p (by omega)) ?_))))
   rw [hpb]
   exact Ev.now _
  refine ⟨[], false, Ev.bind h1 (Ev.ifT rfl ?_), Ev.bind h2 (Ev.ifT rfl ?_), by simp, by simp, fun _ => rfl⟩
  ·
   rw [e1, l1In_eq, decide_eq_false ha]
   exact Ev.some_bind (Ev.ifF Bool.false_ne_true (Ev.now _))
  rw [e1, in_eq, decide_eq_false ha]
  exact Ev.some_bind (no _ _)
 exact ⟨[], false, Ev.bind h1 (Ev.ifF Bool.false_ne_true (Ev.now _)), Ev.bind h2 (Ev.ifF Bool.false_ne_true (no _ _)), by simp, by simp, fun _ => rfl⟩
end Mach
end Go.Proofs.YtnnkedeohfbkeaaGreatDoor.L
namespace Go.Proofs.YtnnkedeohfbkeaaGreatDoor.Pure
open Go.RowKit Go.Proofs.YtnnkedeohfbkeaaGreatDoor.P Go.Proofs.YtnnkedeohfbkeaaGreatDoor.M Go.Proofs.YtnnkedeohfbkeaaGreatDoorW.PrintWords Go.Proofs.YtnnkedeohfbkeaaGreatDoorW.PrintLast Go.Proofs.YtnnkedeohfbkeaaGreatDoorW.PrintMore
open Go.Proofs.YtnnkedeohfbkeaaGreatDoor.L
open Mach
def lev (s : Int) : List Txt → Int
 | [] => s
 | w :: r => lev (mx s (w.length : Int)) r
theorem most_mx (a b : Int) : spec_l1Most.f a b = some (mx a b) := by
 unfold spec_l1Most.f mx
 by_cases h : a > b
 ·
  rw [if_pos h, if_neg (by omega)]
 rw [if_neg h]
 by_cases k : a < b
 ·
  rw [if_pos k]
 rw [if_neg k]; congr 1; omega
theorem spec_lev (L : List Txt) (ok : Bool) (hl : L.length ≤ 481) : ∀ (d i : Nat) (s : Int), i + d = L.length → Ev (fun k => spec_LevelOf.l0 k (L.map B) ok s (i : Int)) (lev s (L.drop i), ok) := by
 intro d
 induction d with
 | zero =>
  intro i s hi
  rw [List.drop_eq_nil_of_le (by omega)]
  exact Ev.step (fun k => spec_LevelOf.l0.eq_2 ..) (Ev.ifF (by rw [List.length_map]; omega) (Ev.now _))
 | succ d ih =>
  intro i s hi
  have hil : i < L.length := by omega
  refine Ev.step (fun k => spec_LevelOf.l0.eq_2 ..) (Ev.ifT (by rw [List.length_map]; omega) (Ev.ifT (by omega) ?_))
  rw [rdB L i hil, size_B, most_mx, wrap64_succ i (by omega), drop_cons_getD [] hil]
  exact Ev.some_bind (ih (i + 1) _ (by omega))
theorem impl_lev (L : List Txt) (hl : L.length ≤ 481) : ∀ (d i : Nat) (s : Int), i + d = L.length → Ev (fun k => impl_LevelOf.l0 k s (L.map B) ((L.map B).length : Int) (i : Int)) (lev s (L.drop i), true) := by
 intro d
 induction d with
 | zero =>
  intro i s hi
  rw [List.drop_eq_nil_of_le (by omega)]
  exact Ev.step (fun k => impl_LevelOf.l0.eq_2 ..) (Ev.ifF (by rw [List.length_map]; omega) (Ev.now _))
 | succ d ih =>
  intro i s hi
  have hil : i < L.length := by omega
  refine Ev.step (fun k => impl_LevelOf.l0.eq_2 ..) (Ev.ifT (by rw [List.length_map]; omega) (Ev.ifT (by omega) (Ev.ifT (by rw [List.length_map]; omega) ?_)))
  rw [rdB L i hil, size_B, wrap64_succ i (by omega), drop_cons_getD [] hil]
  exact ih (i + 1) _ (by omega)
theorem both (m : List Stt) (a : Int) (hx : ∀ x ∈ m, x.f1.length ≤ 1048576) : ∃ r : Int × Bool, Ev (fun k => spec_LevelOf.f k m a) r ∧ Ev (fun k => impl_LevelOf.f k m a) r := by
 unfold spec_LevelOf.f impl_LevelOf.f
 obtain ⟨L, ok, h1, h2, h3, h4, h5⟩ := behind_both m a hx
 have s1 := spec_lev L ok h3 L.length 0 0 (by omega)
 have s2 := impl_lev L h3 L.length 0 0 (by omega)
 rw [List.drop_zero] at s1 s2
 refine ⟨(lev 0 L, ok), Ev.bind h1 s1, Ev.bind h2 ?_⟩
 cases ok with
 | true => exact Ev.ifT rfl s2
 | false =>
  rw [h5 rfl]
  exact Ev.ifF Bool.false_ne_true (Ev.now _)
theorem FnExactLevelOf : laws_FnExactLevelOf.Pure := by
 intro l a hl hx _
 refine Ev.rounds ?_
 unfold laws_FnExactLevelOf.f
 obtain ⟨c, hc, hr⟩ := szMachine_ev l hl hx
 refine Ev.bind hc ?_
 rcases hr with hneg | ⟨h0, h1, h2⟩
 ·
  exact Ev.ifT hneg (Ev.now _)
 obtain ⟨r, e1, e2⟩ := both (toM l) a (toM_edges h2)
 have ht := toMachine_ev l h1 h2
 have he := MMk.eqMachine_ev (toM l) (by rw [toM_length]; omega) (fun x hx => by have := toM_edges h2 x hx; omega)
 exact Ev.ifF (by omega) (Ev.bind ht (Ev.bind e1 (Ev.bind ht (Ev.bind e2 (Ev.ifT rfl (Ev.step (fun k => laws_FnExactLevelOf.j0.eq_2 ..) (Ev.ifF (by simp) (Ev.bind ht (Ev.bind he (Ev.ifT rfl (Ev.now _)))))))))))
end Go.Proofs.YtnnkedeohfbkeaaGreatDoor.Pure
namespace Go.Proofs.YtnnkedeohfbkeaaGreatDoor.fnExactLevelOf
open Go.ChangeShapes Go.WideShapes Go.ChangeAt Go.RowKit Go.Proofs.YtnnkedeohfbkeaaGreatDoor.P
open Go.ChangeMaps (open_string shut_string)
def laidL : List (String × DataW Unit) := [("unicode/utf8.acceptRanges", Rows.laid_unicode_utf8_acceptRanges), ("unicode/utf8.first", Rows.laid_unicode_utf8_first)]
theorem own : ownKnob Tryz.prog.godebug = none := by kernel_rfl
theorem laidOut : laidOutB Tryz.prog = true := by kernel_rfl
theorem lifted (os : Os) (started : os.Started) (H : Type) (enc : TypeId × Value → H) :
    ReturnsInHanded {} Tryz.checked os 8 .any (fun w args => (Rows.fnExactLevelOfSpec.pre enc Tryz.prog Tryz.f8 [] false w args ∧ laidMetH Tryz.prog laidL w) ∧ sizedMet enc Tryz.prog Tryz.f8 (OpenSpec.ofChange Rows.fnExactLevelOfSpec) false w args) (Rows.fnExactLevelOfSpec.post enc Tryz.prog Tryz.f8 false true false false) := by
  refine returnsInHanded_of_change_and (C := Tryz.checked) (X := fun w _ => laidMetH Tryz.prog laidL w) (fun _ _ _ hh h => h.of_heap hh) own started (by kernel_rfl) Tryz.func8
    (ChangeSpec.witness_shaped (enc := enc) (C := Tryz.checked) (os := os) (X := fun w _ => laidMetH Tryz.prog laidL w) false (World.laidAll Tryz.prog os laidL) #[.agg #[.slice none 0 0], .int .i64 0] 8 (World.laidAll_os _ _ _) (World.shaped_of_ZipB (by kernel_rfl) (by kernel_rfl)) (by kernel_rfl) (by kernel_rfl) (by kernel_rfl)
      (by rw [MakeChecks.laidMetH_plain _ _ _ (by kernel_rfl)]; exact laidMet_laidAll _ (by kernel_rfl) (by kernel_rfl))) ?_
  intro W base args ds gs before hval0 hW hcnd hsz0 hL_ _
  have hsz : (DataW.weightsEach Tryz.prog (Tryz.f8.params.toList ++ Rows.fnExactLevelOfSpec.plain.varTypes Tryz.prog) (ds ++ gs)).all (· ≤ reachBytes) = true := hsz0
  have hval : ∀ (j : Nat) t v, Tryz.f8.params[j]? = some t → args[j]? = some v → Value.okWide Tryz.prog W .any base t v := hval0
  have hW' := hW
  obtain ⟨p, q, hA0, hV, rfl, hfz, hnd⟩ := hW
  have hA : DataW.TrodAll enc Tryz.prog W 0 (fun _ => true) true Tryz.f8.params.toList args.toList ds p := hA0
  rw [Tryz.params8] at hA hval hsz
  obtain ⟨v0, vs0, d0, ds0, p0, q0, hargs, rfl, rfl, h0, r0⟩ := trodAll_cons hA
  obtain ⟨v1, vs1, d1, ds1, p1, q1, rfl, rfl, rfl, h1, r1⟩ := trodAll_cons r0
  obtain ⟨rfl, rfl, rfl⟩ := trodAll_nil r1
  obtain rfl : args = #[v0, v1] := by cases args; simp_all
  obtain ⟨rfl, rfl⟩ := trodVars_none hV
  have k0 := h0
  have lt0 : ∀ x ∈ p0, x.block < W.heap.size := by obtain ⟨m, hm⟩ := k0; exact DataW.trod_lt m _ _ _ hm
  obtain ⟨A0, c0, l0, ev0, hc0, hr0⟩ := OM.machine (hval 0 24 v0 rfl rfl) h0
  subst ev0
  obtain ⟨a1, rfl, rfl, rfl, w1⟩ := open_int Tryz.underlying3 (hval 1 3 v1 rfl rfl) h1
  clear hA0 hval0 hsz0 hsz
  refine (laws_FnExactLevelOf.walk Pure.FnExactLevelOf W A0 c0 l0 hr0 hc0 a1 w1).mono fun e W' ⟨he, bel⟩ => ?_
  subst he
  exact ⟨_, rfl, _, _, _, [], _, [], hW', trodAll_mk1 (shut_bool Tryz.underlying4 _), (trodAll_cons_mk (Below.trod laidOut (by kernel_rfl) (of_decide_eq_true (by kernel_rfl)) k0 bel lt0) (trodAll_cons_mk (shut_int Tryz.underlying3 w1) trodAll_mk0)), rfl, bel.frame _, fun h => by cases h⟩
theorem over : Rows.fnExactLevelOfRow.holds Tryz.pinned (OpenSpec.ofChange Rows.fnExactLevelOfSpec) :=
  OpenClaim.holds_of_wide 8 Tryz.f8 rfl rfl rfl rfl rfl rfl rfl ⟨rfl, rfl, rfl, rfl, rfl⟩ rfl rfl rfl rfl rfl (by kernel_rfl) Tryz.func8 (by kernel_rfl)
    (of_decide_eq_true (by kernel_rfl)) (by unfold Func.isWrapper; first | (rw [if_pos (by decide +kernel)]; kernel_rfl) | (rw [if_neg (by decide +kernel)]; exact ⟨rfl, rfl⟩))
    (fun os started H enc _ => lifted os started H enc)
theorem proved : Rows.FnExactLevelOfSaid := over
end Go.Proofs.YtnnkedeohfbkeaaGreatDoor.fnExactLevelOf
namespace Go.Proofs.YtnnkedeohfbkeaaGreatDoor
theorem fnExactLevelOf_holds : Rows.FnExactLevelOfSaid := fnExactLevelOf.proved
theorem fnExactLevelOf_card : Rows.FnExactLevelOfCardSaid :=
  Claim7.holds_tied_plain_at .later [] [.data, .pinned] true (true, "d24746f385e5a6b2389916c9b9ccdfc43770af261716950c3f87901a77ac8579") false
    fnExactLevelOf_holds (fun _ h => by cases h) (by kernel_rfl) (fun _ h => by cases h) fnExactLevelOf_row_tie rfl ⟨rfl, rfl⟩ (by kernel_rfl) rfl
    (fun f fn hf hfn => by
      obtain rfl : f = 8 := Option.some.inj ((show Tryz.prog.funcNamed "loop.example/g01243/laws.FnExactLevelOf" = some 8 by kernel_rfl).symm.trans hf) |>.symm
      obtain rfl : fn = Tryz.f8 := (Option.some.inj (Tryz.func8.symm.trans hfn)).symm
      exact ⟨by kernel_rfl, fun j t ht => by
        rw [Tryz.params8] at ht
        have hm : t ∈ [24, 3] := by simpa using Array.mem_of_getElem? ht
        have hall : ([24, 3].all fun u => !Tryz.prog.wantsStandIn u) = true := by kernel_rfl
        exact (show Tryz.prog.wantsStandIn t = false by simpa using List.all_eq_true.1 hall t hm)⟩)
    (by kernel_rfl)
end Go.Proofs.YtnnkedeohfbkeaaGreatDoor
