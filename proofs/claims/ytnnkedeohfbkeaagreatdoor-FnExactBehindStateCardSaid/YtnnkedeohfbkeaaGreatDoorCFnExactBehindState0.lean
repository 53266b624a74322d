/-
  Part 1 of the proof that FnExactBehindState returns true for every input: the functions that it reaches, each with its contract, and the law.
  Conditions: those of the given statement, no others.
-/
import Derived.Test.YtnnkedeohfbkeaaGreatDoorKNW0
import Derived.Shelf.Abstract
import Derived.Deep.RegionHeld3
import Derived.Test.YtnnkedeohfbkeaaGreatDoorRows
import Derived.WalkKit
import Derived.ProofKit
import Derived.OpenShut
import Derived.ShutString
import Derived.ChangeOld
import Derived.Below
import Derived.SizedLaws
import Derived.Lay
import Derived.LaidOnce
import Derived.SevenTiedAt
import Derived.Test.YtnnkedeohfbkeaaGreatDoorCards
import Derived.Test.YtnnkedeohfbkeaaGreatDoorTie
import Derived.Test.YtnnkedeohfbkeaaGreatDoorKN0
import Derived.Test.YtnnkedeohfbkeaaGreatDoorKN2
import Derived.Test.YtnnkedeohfbkeaaGreatDoorKN1
import Derived.Test.YtnnkedeohfbkeaaGreatDoorKN3
import Derived.Test.YtnnkedeohfbkeaaGreatDoorKN4
set_option linter.unusedVariables false
set_option linter.unusedSimpArgs false
set_option maxHeartbeats 8000000
set_option maxRecDepth 100000
namespace Go.Proofs.YtnnkedeohfbkeaaGreatDoor.P
open Go.RowKit Go.Proofs.YtnnkedeohfbkeaaGreatDoorW.PrintWords Go.Proofs.YtnnkedeohfbkeaaGreatDoorW.PrintLast Go.Proofs.YtnnkedeohfbkeaaGreatDoorW.PrintMore
open Go.Proofs.YtnnkedeohfbkeaaGreatDoorW.PrintWords renaming blk_frozen → bF_, blk_cell → bC_, below_set → bS_, blk_below → bB_, below_step → bT_, pw_below_drewN → bN_, below_size → bZ_, below_drew1 → bD_, below_alloc → bA_, blk_far → bR_, gate_callee → gC_, gate_dst → gD_, box_event → bE_, blk_drew → b1_, blk_put → bP_, blk_drewN → b2_, blk_alloc → b3_, blk_lt → bL_, cell_far → cF_
open Go.Proofs.YtnnkedeohfbkeaaGreatDoorW.PrintLast renaming any_of → aO_, i64_w → i6_, i32_w → i3_, take_ofW → tW_
open Go.Proofs.YtnnkedeohfbkeaaGreatDoorW.PrintWords.Kd renaming R_below → kB_, R_mono → kM_, R_far → kF_, R_reads' → kR_, R_types → kT_, R_slice → kS_, R_celln → kC_, R_alloc → k1_, R_drewN → k2_, R_drew → k3_, C_below → k4_, R_lower → k5_, R_ne → k6_, own_blk → k7_
open Go.Proofs.YtnnkedeohfbkeaaGreatDoorW.PrintWords.LeO renaming none → l0_, bind → l1_, ite → l2_, refl → l3_
open World renaming block_lt_of_cell? → wB_
open _root_.Option renaming bind_eq_some_iff → oB_
open _root_.ByteArray renaming empty → eB_
open List renaming setIfInBounds_toArray → sA_, set_cons_zero → sB_, set_cons_succ → sC_, map_toArray → sD_, map_cons → sE_, map_nil → sF_, length_drop → sG_, length_take → sH_
open Bool renaming true → ty, false → fy
open Aside0 renaming mk → aM_
attribute [local go_sem] max2_int min2_int max_two min_two max_three min_three max_four min_four
def slices_Index_int_int.l0 : Nat → List Int → Int → Int → Int → Option (Int)
 | 0, _, _, _, _ => none
 | k + 1, x0, x1, x7, x8 => if x8 < x7 then (if 0 ≤ x8 then (if x8 < (x0.length : Int) then (if x1 = (rd x0 x8) then (some x8) else (slices_Index_int_int.l0 k x0 x1 x7 (wrap64 (x8 + 1)))) else (none)) else (none)) else (some (-1))
def slices_Index_int_int.f (k : Nat) (l0 : List Int) (a1 : Int) : Option (Int) := slices_Index_int_int.l0 k l0 a1 (l0.length : Int) 0
theorem slices_Index_int_int.mono_l : ∀ k, (∀ y0 y1 y2 y3, LeO (slices_Index_int_int.l0 k y0 y1 y2 y3) (slices_Index_int_int.l0 (k + 1) y0 y1 y2 y3))
 | 0 => fun _ _ _ _ r h => by simp [slices_Index_int_int.l0] at h
 | k + 1 => by
  have ih0 := slices_Index_int_int.mono_l k
  intro y0 y1 y2 y3
  unfold slices_Index_int_int.l0
  repeat' with_reducible first | exact ih0 _ _ _ _ | exact l3_ _ | exact l0_ _ | refine l2_ ?_ ?_ | refine l1_ ?_ (fun _ => ?_)
theorem slices_Index_int_int.mono : ∀ a0 a1 k, LeO (slices_Index_int_int.f k a0 a1) (slices_Index_int_int.f (k + 1) a0 a1) := by
 intro a0 a1 k
 have ih0 := slices_Index_int_int.mono_l k
 unfold slices_Index_int_int.f
 repeat' with_reducible first | exact ih0 _ _ _ _ | exact l3_ _ | exact l0_ _ | refine l2_ ?_ ?_ | refine l1_ ?_ (fun _ => ?_)
theorem slices_Index_int_int.calls (k : Nat) (A0 : Option Addr) (c0 : Nat) (l0 : List Int) (a1 : Int) (r : Int) (w : World) (hr0 : Kd.C (Kd.int .i64) w A0 l0.length l0) (hc0 : l0.length ≤ c0) (h : slices_Index_int_int.f k l0 a1 = some r) :
  Calls Tryz.prog 99 #[.slice A0 l0.length c0, .int .i64 a1] w fun e w' => e = .returned (.int .i64 r) ∧ Drawn0 w w' := by
 have HR0 := aM_ hr0
 have HC0 := aM_ hc0
 clear hr0 hc0
 have H : (slices_Index_int_int.l0 k l0 a1 (l0.length : Int) 0) = some r := h
 clear h
 have H' := aM_ H
 clear H
 go_enter Tryz.func99, Tryz.ntmps99
 go_wp2
 go_loopg [8] k (fun kq v8 w' => ∃ (x8_1 : Int), v8 = .int .i64 x8_1 ∧ Aside0 (slices_Index_int_int.l0 kq l0 a1 (l0.length : Int) x8_1 = some r) ∧ Aside0 (kq ≤ k) ∧ Drawn0 w w')
 case atStart => exact ⟨(0), (by rfl), H', ⟨Nat.le_refl _⟩, by repeat (first | exact Drawn0.refl _ | apply Drawn0.step)⟩
 clear H'
 try clear p2
 obtain ⟨x8_1, rfl, HA, HK1, ⟨m1, rfl⟩⟩ := hrel
 cases gk with
 | zero => exact absurd HA.out (by simp [slices_Index_int_int.l0])
 | succ k1 =>
  have H := HA.out
  clear HA
  simp only [slices_Index_int_int.l0] at H
  by_cases c3 : x8_1 < (l0.length : Int)
  rotate_left
  ·
   rw [if_neg c3] at H
   have c3b0 := dF_ c3
   clear c3
   obtain rfl := Option.some.inj H
   go_wp2
   go_ret
   exact ⟨by rfl, by repeat (first | exact Drawn0.refl _ | apply Drawn0.step)⟩
  rw [if_pos c3] at H
  have c3b0 := dT_ c3
  clear c3
  by_cases c4 : 0 ≤ x8_1
  rotate_left
  ·
   rw [if_neg c4] at H
   exact absurd H (by simp)
  rw [if_pos c4] at H
  have c4b0 := dT_ c4
  clear c4
  by_cases c5 : x8_1 < (l0.length : Int)
  rotate_left
  ·
   rw [if_neg c5] at H
   exact absurd H (by simp)
  rw [if_pos c5] at H
  have c5b0 := dT_ c5
  clear c5
  by_cases c6 : a1 = (rd l0 x8_1)
  ·
   rw [if_pos c6] at H
   have c6b0 : (a1 == (rd l0 x8_1)) = true := beq_iff_eq.mpr c6
   have c6b1 : (a1 != (rd l0 x8_1)) = false := bne_eq_false_iff_eq.mpr c6
   clear c6
   obtain rfl := Option.some.inj H
   have p681 : 0 ≤ (x8_1 : Int) := oD_ ‹_›
   have q681 : x8_1 < (l0.length : Int) := oD_ ‹_›
   obtain ⟨ad681, e681, hx681_0⟩ := Kd.at_int HR0.out x8_1 p681 q681
   cases e681
   replace p681 := eq_true p681
   replace q681 := eq_true q681
   go_wp2
   go_ret
   exact ⟨by rfl, by repeat (first | exact Drawn0.refl _ | apply Drawn0.step)⟩
  rw [if_neg c6] at H
  have c6b0 : (a1 == (rd l0 x8_1)) = false := beq_eq_false_iff_ne.mpr c6
  have c6b1 : (a1 != (rd l0 x8_1)) = true := bne_iff_ne.mpr c6
  have H' := aM_ H
  clear H
  have p681 : 0 ≤ (x8_1 : Int) := oD_ ‹_›
  have q681 : x8_1 < (l0.length : Int) := oD_ ‹_›
  obtain ⟨ad681, e681, hx681_0⟩ := Kd.at_int HR0.out x8_1 p681 q681
  cases e681
  replace p681 := eq_true p681
  replace q681 := eq_true q681
  go_wp2
  go_roundg k1
  case measure => have := HK1.out; omega
  case rel => exact ⟨(wrap64 (x8_1 + 1)), (by rfl), H', ⟨by have := HK1.out; omega⟩, by repeat (first | exact Drawn0.refl _ | apply Drawn0.step)⟩
def impl_Machine_prefixOf.f (k : Nat) (l0_0 : List (S72)) (l1_0 : List (S96)) (a2 : Int) : Option (ByteArray) := (impl_Trie_prefixes.f k l1_0).bind fun bt684 => ((impl_Trie_machine.f k l1_0).bind fun bt688 => ((slices_Index_int_int.f k bt688.2 a2).bind fun t695 => (if 0 ≤ t695 then (if t695 < (bt684.1.length : Int) then (some (rdOf eB_ bt684.1 t695)) else (none)) else (none))))
theorem impl_Machine_prefixOf.mono : ∀ a0 a1 a2 k, LeO (impl_Machine_prefixOf.f k a0 a1 a2) (impl_Machine_prefixOf.f (k + 1) a0 a1 a2) := by
 intro a0 a1 a2 k
 unfold impl_Machine_prefixOf.f
 repeat' with_reducible first | exact impl_Trie_machine.mono _ _ | exact impl_Trie_prefixes.mono _ _ | exact slices_Index_int_int.mono _ _ _ | exact l3_ _ | exact l0_ _ | refine l2_ ?_ ?_ | refine l1_ ?_ (fun _ => ?_)
theorem impl_Machine_prefixOf.calls (k : Nat) (A0_0 : Option Addr) (c0_0 : Nat) (l0_0 : List (S72)) (A1_0 : Option Addr) (c1_0 : Nat) (l1_0 : List (S96)) (a2 : Int) (r : ByteArray) (w : World) (hr0_0 : Kd.C k72 w A0_0 l0_0.length l0_0) (hc0_0 : l0_0.length ≤ c0_0) (hr1_0 : Kd.C k96 w A1_0 l1_0.length l1_0) (hc1_0 : l1_0.length ≤ c1_0) (h : impl_Machine_prefixOf.f k l0_0 l1_0 a2 = some r) :
  Calls Tryz.prog 72 #[.agg #[.slice A0_0 l0_0.length c0_0], .agg #[.slice A1_0 l1_0.length c1_0], .int .i64 a2] w fun e w' => e = .returned (.string r) ∧ Below w.heap.size w w' := by
 have hu33 := Tryz.underlying33
 have hu28 := Tryz.underlying28
 have HR0_0 := aM_ hr0_0
 have HC0_0 := aM_ hc0_0
 clear hr0_0 hc0_0
 have HR1_0 := aM_ hr1_0
 have HC1_0 := aM_ hc1_0
 clear hr1_0 hc1_0
 have HB := aM_ (Below.refl w.heap.size w)
 have H : ((impl_Trie_prefixes.f k l1_0).bind fun bt684 => ((impl_Trie_machine.f k l1_0).bind fun bt688 => ((slices_Index_int_int.f k bt688.2 a2).bind fun t695 => (if 0 ≤ t695 then (if t695 < (bt684.1.length : Int) then (some (rdOf eB_ bt684.1 t695)) else (none)) else (none))))) = some r := h
 clear h
 replace H := oB_.mp H
 obtain ⟨⟨t684, t687⟩, A40, H⟩ := H
 try dsimp only at H
 have A4 := aM_ A40
 clear A40
 replace H := oB_.mp H
 obtain ⟨⟨t688, t691⟩, A50, H⟩ := H
 try dsimp only at H
 have A5 := aM_ A50
 clear A50
 replace H := oB_.mp H
 obtain ⟨t695, A60, H⟩ := H
 try dsimp only at H
 have A6 := aM_ A60
 clear A60
 by_cases c7 : 0 ≤ t695
 rotate_left
 ·
  rw [if_neg c7] at H
  exact absurd H (by simp)
 rw [if_pos c7] at H
 have c7b0 := dT_ c7
 clear c7
 by_cases c8 : t695 < (t684.length : Int)
 rotate_left
 ·
  rw [if_neg c8] at H
  exact absurd H (by simp)
 rw [if_pos c8] at H
 have c8b0 := dT_ c8
 clear c8
 obtain rfl := Option.some.inj H
 go_enter Tryz.func72, Tryz.ntmps72
 go_wp2_with (first | (refine bx_ 3 #[.slice A0_0 l0_0.length c0_0] 33 ?_; intro gb682 hg w9 hbox hb; have BK682 := aM_ (hbox); have GW682 := gw_ hg HB; replace HB := b4_ HB hb; clear hb hbox hg) | (refine bx_ 4 #[.slice A1_0 l1_0.length c1_0] 28 ?_; intro gb683 hg w10 hbox hb; have BK683 := aM_ (hbox); have GW683 := gw_ hg HB; replace HB := b4_ HB hb; have NB682_683 := nb_ hg BK682; have NB683_682 := ns_ NB682_683; replace BK682 := b5_ BK682 hb; clear hb hbox hg; have hnb11 := NB683_682.out; have hnc11 := NB682_683.out; have hcz12_0 := c0_ BK683; have hfz12_0 := bF_ BK683.out 0) | (refine gs_ 13 Tryz.func94 #[.agg #[.slice A1_0 l1_0.length c1_0]] ?_; (with_reducible refine (impl_Trie_prefixes.calls k _ _ l1_0 t684 t687 _ ?side1 HC1_0.out A4.out).mono ?_); (case side1 => repeat (first | exact (k4_ HR1_0.out HB.out) | with_reducible first | apply cA_ | apply cN_ | apply cD_)); rintro e w13 ⟨v685, rfl, ho0, hb⟩; refine ⟨_, rfl, ?_⟩; have HO686 := aM_ (k5_ ho0 (bZ_ HB.out)); replace BK682 := b5_ BK682 hb; replace BK683 := b5_ BK683 hb; replace HB := b4_ HB hb; (try clear hb); (try clear ho0); have hcz14_0 := c0_ BK683; have hfz14_0 := bF_ BK683.out 0) | (refine gs_ 18 Tryz.func68 #[.agg #[.slice A1_0 l1_0.length c1_0]] ?_; (with_reducible refine (impl_Trie_machine.calls k _ _ l1_0 t688 t691 _ ?side1 HC1_0.out A5.out).mono ?_); (case side1 => repeat (first | exact (k4_ HR1_0.out HB.out) | with_reducible first | apply cA_ | apply cN_ | apply cD_)); rintro e w15 ⟨v689, v692, rfl, ho0, ho1, hb⟩; refine ⟨_, rfl, ?_⟩; replace HO686 := k9_ HO686 hb; have HO690 := aM_ (Kd.S_lower ho0 (bZ_ HB.out)); have HO693 := aM_ (k5_ ho1 (bZ_ HB.out)); replace BK682 := b5_ BK682 hb; replace BK683 := b5_ BK683 hb; replace HB := b4_ HB hb; (try clear hb); (try clear ho0); (try clear ho1)) | (refine bx_ 9 #[.slice none 0 0] 33 ?_; intro gb694 hg w16 hbox hb; replace HO686 := k9_ HO686 hb; replace HO690 := aM_ (Kd.S_below (by (with_reducible repeat (first | apply Kd.S_alloc | apply Kd.S_drewN | apply Kd.S_drew)); exact HO690.out) hb); replace HO693 := k9_ HO693 hb; have BK694 := aM_ (hbox); have GW694 := gw_ hg HB; replace HB := b4_ HB hb; have NB682_694 := nb_ hg BK682; have NB694_682 := ns_ NB682_694; replace BK682 := b5_ BK682 hb; have NB683_694 := nb_ hg BK683; have NB694_683 := ns_ NB683_694; replace BK683 := b5_ BK683 hb; clear hb hbox hg; obtain ⟨Ao17, co17, eo17⟩ := Kd.S_slice HO690.out; subst eo17; have hnb18 := NB694_682.out; have hnc18 := NB682_694.out; have hnb19 := NB694_683.out; have hnc19 := NB683_694.out; have hcz20_0 := c0_ BK694; have hfz20_0 := bF_ BK694.out 0; obtain ⟨Ao21, co21, eo21⟩ := kS_ HO693.out; subst eo21) | (refine gs_ 24 Tryz.func99 #[.slice Ao21 t691.length co21, .int .i64 a2] ?_; (with_reducible refine (slices_Index_int_int.calls k _ _ t691 a2 t695 _ ?side1 ?side2 A6.out).mono ?_); (case side1 => refine (kR_ (e := 3) (base := w.heap.size) (ok := fun k_ => True) (n := t691.length) (c := co21) ?_).2.2; exact (by exact (kM_ (kG_ (kT_ HO693.out BK694.out (by decide))) (fun _ h_ => h_.1)))); (case side2 => exact (kR_ HO693.out).2.1); rintro e w' ⟨rfl, ⟨nd, rfl⟩⟩; refine ⟨_, rfl, ?_⟩; obtain ⟨Ao22, co22, eo22⟩ := kS_ HO686.out; subst eo22; have p696 : 0 ≤ (t695 : Int) := oD_ ‹_›; have q696 : t695 < (t684.length : Int) := oD_ ‹_›; obtain ⟨ad696, e696, hx696_0⟩ := Kd.at_string (kR_ HO686.out).2.2 t695 p696 q696; cases e696; have hn696_0 : ad696.block ≠ gb694 := k7_ (k6_ HO686.out BK694.out (by decide)); replace hx696_0 := (cF_ (p := ⟨gb694, 0, none⟩) (by (rw [add_block]; exact hn696_0)) (.slice Ao17 t688.length co17)).trans hx696_0; clear hn696_0; replace p696 := eq_true p696; replace q696 := eq_true q696))
 go_ret
 exact ⟨by rfl, by repeat with_reducible first | exact HB.out | apply bA_ | apply bN_ | apply bD_ | refine bS_ ?_ (Aside0.out ‹_›)⟩
def impl_BehindState.j0 : Nat → Int → Bool → List (S72) → List (S96) → Option (List ByteArray × Bool)
 | 0, _, _, _, _ => none
 | k + 1, x1, x23, x698000, x703000 => if x23 = true then (some (([] : List ByteArray), false)) else ((impl_Machine_prefixOf.f k x698000 x703000 x1).bind fun t704 => ((impl_Trie_behind.f k x703000 t704).bind fun t705 => (some (t705, true))))
def impl_BehindState.f (k : Nat) (l0_0 : List (S72)) (a1 : Int) : Option (List ByteArray × Bool) := (impl_Machine_open.f k l0_0).bind fun bt698 => (if bt698.2 = true then ((impl_in.f a1 0 (wrap64 ((l0_0.length : Int) - 1))).bind fun t703 => (impl_BehindState.j0 k a1 (!t703) l0_0 bt698.1)) else (impl_BehindState.j0 k a1 true l0_0 bt698.1))
theorem impl_BehindState.mono_l : ∀ k, (∀ y0 y1 y2 y3, LeO (impl_BehindState.j0 k y0 y1 y2 y3) (impl_BehindState.j0 (k + 1) y0 y1 y2 y3))
 | 0 => fun _ _ _ _ r h => by simp [impl_BehindState.j0] at h
 | k + 1 => by
  have ih0 := impl_BehindState.mono_l k
  intro y0 y1 y2 y3
  unfold impl_BehindState.j0
  repeat' with_reducible first | exact ih0 _ _ _ _ | exact impl_Machine_open.mono _ _ | exact impl_Machine_prefixOf.mono _ _ _ _ | exact impl_Trie_behind.mono _ _ _ | exact l3_ _ | exact l0_ _ | refine l2_ ?_ ?_ | refine l1_ ?_ (fun _ => ?_)
theorem impl_BehindState.mono : ∀ a0 a1 k, LeO (impl_BehindState.f k a0 a1) (impl_BehindState.f (k + 1) a0 a1) := by
 intro a0 a1 k
 have ih0 := impl_BehindState.mono_l k
 unfold impl_BehindState.f
 repeat' with_reducible first | exact ih0 _ _ _ _ | exact impl_Machine_open.mono _ _ | exact impl_Machine_prefixOf.mono _ _ _ _ | exact impl_Trie_behind.mono _ _ _ | exact l3_ _ | exact l0_ _ | refine l2_ ?_ ?_ | refine l1_ ?_ (fun _ => ?_)
def impl_BehindState.T4 : Bool × List (List Nat × List Nat) := (true, [([], []), ([], []), ([], []), ([], []), ([1, 2, 3], [1, 2, 3]), ([0, 4, 4], [0, 4]), ([5, 5, 0, 1, 2, 3, 4, 5], [5]), ([6, 0, 1, 2, 3, 4, 5, 6], [])])
def impl_BehindState.B4 : List Nat := [0, 0, 0, 0, 14, 31, 63, 127]
theorem impl_BehindState.tab4 : rtab .any (opsOf Tryz.f37 4) = impl_BehindState.T4 := by kernel_rfl
theorem impl_BehindState.bits4 : waitsOk impl_BehindState.T4.2 impl_BehindState.B4 = true := by kernel_rfl
theorem impl_BehindState.calls (k : Nat) (A0_0 : Option Addr) (c0_0 : Nat) (l0_0 : List (S72)) (a1 : Int) (r1 : List ByteArray) (r2 : Bool) (w : World) (hr0_0 : Kd.C k72 w A0_0 l0_0.length l0_0) (hc0_0 : l0_0.length ≤ c0_0) (h : impl_BehindState.f k l0_0 a1 = some (r1, r2)) :
  Calls Tryz.prog 37 #[.agg #[.slice A0_0 l0_0.length c0_0], .int .i64 a1] w fun e w' => ∃ v0_ : Value, e = .returned (.tuple #[v0_, .bool r2]) ∧ Kd.R Kd.string 9 w' w.heap.size (fun _ => True) v0_ r1 ∧ Below w.heap.size w w' := by
 have hu33 := Tryz.underlying33
 have hu28 := Tryz.underlying28
 have HR0_0 := aM_ hr0_0
 have HC0_0 := aM_ hc0_0
 clear hr0_0 hc0_0
 have HB := aM_ (Below.refl w.heap.size w)
 have H : ((impl_Machine_open.f k l0_0).bind fun bt698 => (if bt698.2 = true then ((impl_in.f a1 0 (wrap64 ((l0_0.length : Int) - 1))).bind fun t703 => (impl_BehindState.j0 k a1 (!t703) l0_0 bt698.1)) else (impl_BehindState.j0 k a1 true l0_0 bt698.1))) = some (r1, r2) := h
 clear h
 replace H := oB_.mp H
 obtain ⟨⟨t698, t701⟩, A30, H⟩ := H
 try dsimp only at H
 have A3 := aM_ A30
 clear A30
 have HC4 := aM_ H
 clear H
 go_enter Tryz.func37, Tryz.ntmps37
 go_upto_region 2 with (first | ((with_reducible refine gD_ (N := 2) rfl ?_); (try (refine gate_guard (by rfl) ?_; dsimp only)); refine bE_ ?hg (N := 2) ?hd (cs := #[.slice A0_0 l0_0.length c0_0]) (t := 33) ?hr ?_; (case hd => rfl); (case hg => rfl); (case hr => (go_simp; done)); intro gb697 hg w5 hbox hb; have BK697 := aM_ (hbox); have GW697 := gw_ hg HB; replace HB := b4_ HB hb; clear hb hbox hg; have hcz6_0 := c0_ BK697; have hfz6_0 := bF_ BK697.out 0) | (refine gs_ 10 Tryz.func51 #[.agg #[.slice A0_0 l0_0.length c0_0]] ?_; (with_reducible refine (impl_Machine_open.calls k _ _ l0_0 t698 t701 _ ?side1 HC0_0.out A3.out).mono ?_); (case side1 => repeat (first | exact (k4_ HR0_0.out HB.out) | with_reducible first | apply cA_ | apply cN_ | apply cD_)); rintro e w7 ⟨v699, rfl, ho0, hb⟩; refine ⟨_, rfl, ?_⟩; have HO700 := aM_ (k5_ ho0 (bZ_ HB.out)); replace BK697 := b5_ BK697 hb; replace HB := b4_ HB hb; (try clear hb); (try clear ho0)) | ((with_reducible refine gD_ (N := 6) rfl ?_); (try (refine gate_guard (by rfl) ?_; dsimp only)); refine bE_ ?hg (N := 6) ?hd (cs := #[.slice none 0 0]) (t := 28) ?hr ?_; (case hd => rfl); (case hg => rfl); (case hr => (go_simp; done)); intro gb702 hg w8 hbox hb; replace HO700 := k9_ HO700 hb; have BK702 := aM_ (hbox); have GW702 := gw_ hg HB; replace HB := b4_ HB hb; have NB697_702 := nb_ hg BK697; have NB702_697 := ns_ NB697_702; replace BK697 := b5_ BK697 hb; clear hb hbox hg; obtain ⟨Ao9, co9, eo9⟩ := kS_ HO700.out; subst eo9; have hnb10 := NB702_697.out; have hnc10 := NB697_702.out; have hcz11_0 := c0_ BK702; have hfz11_0 := bF_ BK702.out 0))
 (try simp only [Act.put, sA_, sB_, sC_])
 go_cut [23] (fun v23 wc => ∃ (kq : Nat) (x23_3 : Bool), v23 = .bool x23_3 ∧ Aside0 (impl_BehindState.j0 kq a1 x23_3 l0_0 t698 = some (r1, r2)) ∧ Aside0 (kq ≤ k) ∧ Aside0 (Kd.R k96 96 wc w.heap.size (fun _ => True) (.slice Ao9 t698.length co9) t698) ∧ Aside0 (wc.heap[gb697]? = some (.cells #[(.slice A0_0 l0_0.length c0_0)] 33 (0, 0))) ∧ Aside0 (wc.heap[gb702]? = some (.cells #[(.slice Ao9 t698.length co9)] 28 (0, 0))) ∧ Aside0 (Below w.heap.size w wc))
 case first =>
  have H := HC4.out
  clear HC4
  by_cases c12 : t701 = true
  ·
   subst c12
   rw [if_pos rfl] at H
   replace H := oB_.mp H
   obtain ⟨t703, A130, H⟩ := H
   try dsimp only at H
   have A13 := aM_ A130
   clear A130
   have H' := aM_ H
   clear H
   have hnb14 := NB697_702.out
   have hnc14 := NB702_697.out
   have hcz15_0 := c0_ BK697
   have hfz15_0 := bF_ BK697.out 0
   go_wp2_with (first | (go_at_call 70; (with_reducible refine (impl_in.calls a1 0 (wrap64 ((l0_0.length : Int) - 1)) t703 _ A13.out).mono ?_); rintro e w' ⟨rfl, ⟨nd, rfl⟩⟩))
   go_meet
   case rel => exact ⟨_, (!t703), (by rfl), H', ⟨by omega⟩, ⟨by (with_reducible repeat (first | apply k1_ | apply k2_ | apply k3_)); exact kM_ (kG_ (kT_ HO700.out BK702.out (by decide))) (fun _ hk => trivial)⟩, ⟨by (with_reducible repeat (first | refine b2_ ?_ _ | refine b1_ ?_ | refine b3_ ?_ _)); exact br_ NB697_702.out (BK697.out)⟩, ⟨by (with_reducible repeat (first | refine b2_ ?_ _ | refine b1_ ?_ | refine b3_ ?_ _)); refine bP_ (cs := #[.slice none 0 0]) ?_ 0 _ rfl; exact BK702.out⟩, ⟨by repeat with_reducible first | exact HB.out | apply bA_ | apply bN_ | apply bD_ | refine bS_ ?_ (Aside0.out ‹_›)⟩⟩
  replace c12 := Bool.eq_false_iff.mpr c12
  subst c12
  replace H : (impl_BehindState.j0 k a1 true l0_0 t698) = some (r1, r2) := by rw [if_neg (show ¬ (false = true) by decide)] at H; exact H
  have H' := aM_ H
  clear H
  go_wp2
  go_meet
  case rel => exact ⟨_, (true), (by rfl), H', ⟨by omega⟩, ⟨by exact kM_ (kG_ (kT_ HO700.out BK702.out (by decide))) (fun _ hk => trivial)⟩, ⟨by exact br_ NB697_702.out (BK697.out)⟩, ⟨by refine bP_ (cs := #[.slice none 0 0]) ?_ 0 _ rfl; exact BK702.out⟩, ⟨by repeat with_reducible first | exact HB.out | apply bA_ | apply bN_ | apply bD_ | refine bS_ ?_ (Aside0.out ‹_›)⟩⟩
 clear HC4
 try clear p2
 try clear p6
 try clear hcz11_0
 try clear hcz15_0
 try clear hcz6_0
 try clear hfz11_0
 try clear hfz15_0
 try clear hfz6_0
 obtain ⟨kq, x23_3, rfl, HA, HJ3, HO_703000, BK697, BK702, HB⟩ := hcut
 cases kq with
 | zero => exact absurd HA.out (by simp [impl_BehindState.j0])
 | succ kj3 =>
  have H := HA.out
  clear HA
  simp only [impl_BehindState.j0] at H
  by_cases c16 : x23_3 = true
  ·
   subst c16
   rw [if_pos rfl] at H
   simp only [Option.some.injEq, Prod.mk.injEq] at H
   obtain ⟨rfl, rfl⟩ := H
   go_wp2
   go_ret2
   exact ⟨_, by rfl, by exact Kd.R_nil _ _ _ _ _, by exact HB.out⟩
  replace c16 := Bool.eq_false_iff.mpr c16
  subst c16
  replace H : ((impl_Machine_prefixOf.f kj3 l0_0 t698 a1).bind fun t704 => ((impl_Trie_behind.f kj3 t698 t704).bind fun t705 => (some (t705, true)))) = some (r1, r2) := by rw [if_neg (show ¬ (false = true) by decide)] at H; exact H
  replace H := oB_.mp H
  obtain ⟨t704, A170, H⟩ := H
  try dsimp only at H
  have A17 := aM_ A170
  clear A170
  replace H := oB_.mp H
  obtain ⟨t705, A180, H⟩ := H
  try dsimp only at H
  have A18 := aM_ A180
  clear A180
  simp only [Option.some.injEq, Prod.mk.injEq] at H
  obtain ⟨rfl, rfl⟩ := H
  try go_wp2
  have n0_ := aM_ (k3_ HO_703000.out)
  have n1_ := aM_ (b1_ BK697.out)
  have n2_ := aM_ (b1_ BK702.out)
  have n3_ := aM_ (bD_ HB.out)
  clear HO_703000
  clear BK697
  clear BK702
  clear HB
  have HO_703000 := n0_
  have BK697 := n1_
  have BK702 := n2_
  have HB := n3_
  clear n0_ n1_ n2_ n3_
  refine start_ (n := 8) (S := fun w' => w'.cell? ⟨gb702, 0, none⟩ = some (.slice Ao9 t698.length co9) ∧ w'.cell? ⟨gb697, 0, none⟩ = some (.slice A0_0 l0_0.length c0_0)) (ds := []) #[fy, fy, fy, fy, fy, fy, fy, fy] (by kernel_rfl) rfl rfl ⟨(bC_ BK702.out 0).trans rfl, (bC_ BK697.out 0).trans rfl⟩ (fun hHeld => ?_); refine with_tabW impl_BehindState.tab4 impl_BehindState.bits4 (fun HT_ HW_ => ?_)
  generalize wc.drew = w19 at HO_703000 BK697 BK702 HB hHeld ⊢
  refine pu_ HT_ 3 27 #[fy, fy, fy, ty, fy, fy, fy, fy] ?_
  refine tk_ HT_ HW_ 0 24 #[ty, fy, fy, ty, fy, fy, fy, fy] hHeld ?_ (hr := by rintro w' ⟨s0, s1⟩; go_simp; with_reducible rfl)
  refine tk_ HT_ HW_ 1 25 #[ty, ty, fy, ty, fy, fy, fy, fy] hHeld ?_ (hr := by rintro w' ⟨s0, s1⟩; go_simp; with_reducible rfl)
  refine tk_ HT_ HW_ 2 26 #[ty, ty, ty, ty, fy, fy, fy, fy] hHeld ?_ (hr := by rintro w' ⟨s0, s1⟩; go_simp; with_reducible rfl)
  refine one_ (i := 4) (N := some 28) #[ty, ty, ty, ty, ty, fy, fy, fy] rfl rfl (one_of HT_.out (by kernel_rfl)) (by decide) (fun K hK => ?_)
  refine goes_ Tryz.func72 (by kernel_rfl) rfl #[.agg #[.slice A0_0 l0_0.length c0_0], .agg #[.slice Ao9 t698.length co9], .int .i64 a1] (by rfl) rfl rfl (by (try simp only [sD_, sE_, sF_]); rfl) ?_
  with_reducible refine (impl_Machine_prefixOf.calls kj3 _ _ l0_0 _ _ t698 a1 t704 _ ?side1 ?side2 ?side3 ?side4 A17.out).mono ?_
  (case side1 => repeat (first | exact (k4_ HR0_0.out HB.out) | with_reducible first | apply cA_ | apply cN_ | apply cD_))
  (case side2 => exact HC0_0.out)
  (case side3 => repeat (first | exact (kR_ HO_703000.out).2.2 | with_reducible first | apply cA_ | apply cN_ | apply cD_))
  (case side4 => exact (kR_ HO_703000.out).2.1)
  rintro e w20 ⟨rfl, hb⟩
  refine ⟨_, rfl, ?_⟩
  have n0_ := k9_ HO_703000 hb
  have n1_ := b5_ BK697 hb
  have n2_ := b5_ BK702 hb
  have n3_ := b4_ HB hb
  clear HO_703000
  clear BK697
  clear BK702
  clear HB
  have HO_703000 := n0_
  have BK697 := n1_
  have BK702 := n2_
  have HB := n3_
  clear n0_ n1_ n2_ n3_
  (try clear hb)
  refine hK.out _ _ ⟨(bC_ BK702.out 0).trans rfl, (bC_ BK697.out 0).trans rfl⟩ (fun hHeld => ?_)
  clear hK K
  refine norm_ (by show Act.put _ (some 28) _ = _; simp only [Act.put, sA_, sB_, sC_, i6_, i3_]; rfl) ?_
  refine one_ (i := 5) (N := some 29) #[ty, ty, ty, ty, ty, ty, fy, fy] rfl rfl (one_of HT_.out (by kernel_rfl)) (by decide) (fun K hK => ?_)
  refine goes_ Tryz.func71 (by kernel_rfl) rfl #[.agg #[.slice Ao9 t698.length co9], .string t704] (by rfl) rfl rfl (by (try simp only [sD_, sE_, sF_]); rfl) ?_
  with_reducible refine (impl_Trie_behind.calls kj3 _ _ t698 t704 t705 _ ?side1 ?side2 A18.out).mono ?_
  (case side1 => repeat (first | exact (kR_ HO_703000.out).2.2 | with_reducible first | apply cA_ | apply cN_ | apply cD_))
  (case side2 => exact (kR_ HO_703000.out).2.1)
  rintro e w21 ⟨v706, rfl, ho0, hb⟩
  refine ⟨_, rfl, ?_⟩
  have n0_ := k9_ HO_703000 hb
  have n1_ := aM_ (k5_ ho0 (bZ_ HB.out))
  have n2_ := b5_ BK697 hb
  have n3_ := b5_ BK702 hb
  have n4_ := b4_ HB hb
  clear HO_703000
  clear BK697
  clear BK702
  clear HB
  have HO_703000 := n0_
  have HO707 := n1_
  have BK697 := n2_
  have BK702 := n3_
  have HB := n4_
  clear n0_ n1_ n2_ n3_ n4_
  (try clear hb)
  (try clear ho0)
  refine hK.out _ _ ⟨(bC_ BK702.out 0).trans rfl, (bC_ BK697.out 0).trans rfl⟩ (fun hHeld => ?_)
  clear hK K
  refine norm_ (by show Act.put _ (some 29) _ = _; simp only [Act.put, sA_, sB_, sC_, i6_, i3_]; rfl) ?_
  refine pu_ HT_ 6 4 #[ty, ty, ty, ty, ty, ty, ty, fy] ?_
  refine pu_ HT_ 7 5 #[ty, ty, ty, ty, ty, ty, ty, ty] ?_
  refine done_ (done_of HT_.out (by kernel_rfl)) ?_
  try go_wp2
  go_ret2
  exact ⟨_, by rfl, by exact HO707.out, by exact HB.out⟩
def laws_eqStringS.l0 : Nat → List ByteArray → List ByteArray → Int → Option (Bool)
 | 0, _, _, _ => none
 | k + 1, x0, x1, x5 => if x5 < (x0.length : Int) then (if 0 ≤ x5 then (if x5 < (x1.length : Int) then (if (rdOf eB_ x0 x5).toList = (rdOf eB_ x1 x5).toList then (laws_eqStringS.l0 k x0 x1 (wrap64 (x5 + 1))) else (some false)) else (none)) else (none)) else (some true)
def laws_eqStringS.f (k : Nat) (l0 : List ByteArray) (l1 : List ByteArray) : Option (Bool) := if (l0.length : Int) = (l1.length : Int) then (laws_eqStringS.l0 k l0 l1 0) else (some false)
theorem laws_eqStringS.mono_l : ∀ k, (∀ y0 y1 y2, LeO (laws_eqStringS.l0 k y0 y1 y2) (laws_eqStringS.l0 (k + 1) y0 y1 y2))
 | 0 => fun _ _ _ r h => by simp [laws_eqStringS.l0] at h
 | k + 1 => by
  have ih0 := laws_eqStringS.mono_l k
  intro y0 y1 y2
  unfold laws_eqStringS.l0
  repeat' with_reducible first | exact ih0 _ _ _ | exact l3_ _ | exact l0_ _ | refine l2_ ?_ ?_ | refine l1_ ?_ (fun _ => ?_)
theorem laws_eqStringS.mono : ∀ a0 a1 k, LeO (laws_eqStringS.f k a0 a1) (laws_eqStringS.f (k + 1) a0 a1) := by
 intro a0 a1 k
 have ih0 := laws_eqStringS.mono_l k
 unfold laws_eqStringS.f
 repeat' with_reducible first | exact ih0 _ _ _ | exact l3_ _ | exact l0_ _ | refine l2_ ?_ ?_ | refine l1_ ?_ (fun _ => ?_)
theorem laws_eqStringS.calls (k : Nat) (A0 : Option Addr) (c0 : Nat) (l0 : List ByteArray) (A1 : Option Addr) (c1 : Nat) (l1 : List ByteArray) (r : Bool) (w : World) (hr0 : Kd.C Kd.string w A0 l0.length l0) (hc0 : l0.length ≤ c0) (hr1 : Kd.C Kd.string w A1 l1.length l1) (hc1 : l1.length ≤ c1) (h : laws_eqStringS.f k l0 l1 = some r) :
  Calls Tryz.prog 38 #[.slice A0 l0.length c0, .slice A1 l1.length c1] w fun e w' => e = .returned (.bool r) ∧ Drawn0 w w' := by
 have HR0 := aM_ hr0
 have HC0 := aM_ hc0
 clear hr0 hc0
 have HR1 := aM_ hr1
 have HC1 := aM_ hc1
 clear hr1 hc1
 have H : (if (l0.length : Int) = (l1.length : Int) then (laws_eqStringS.l0 k l0 l1 0) else (some false)) = some r := h
 clear h
 by_cases c3 : (l0.length : Int) = (l1.length : Int)
 rotate_left
 ·
  rw [if_neg c3] at H
  have c3b0 : ((l0.length : Int) == (l1.length : Int)) = false := beq_eq_false_iff_ne.mpr c3
  have c3b1 : ((l0.length : Int) != (l1.length : Int)) = true := bne_iff_ne.mpr c3
  have c3b2 : (l0.length == l1.length) = false := by first | simpa using c3 | (simp at c3 ⊢; omega)
  obtain rfl := Option.some.inj H
  go_enter Tryz.func38, Tryz.ntmps38
  go_wp2
  repeat (go_quiet (fail); try go_wp2)
  go_ret
  exact ⟨by rfl, by repeat (first | exact Drawn0.refl _ | apply Drawn0.step)⟩
 rw [if_pos c3] at H
 have c3b0 : ((l0.length : Int) == (l1.length : Int)) = true := beq_iff_eq.mpr c3
 have c3b1 : ((l0.length : Int) != (l1.length : Int)) = false := bne_eq_false_iff_eq.mpr c3
 have c3b2 : (l0.length == l1.length) = true := by first | simpa using c3 | (simp at c3 ⊢; omega)
 clear c3
 have H' := aM_ H
 clear H
 go_enter Tryz.func38, Tryz.ntmps38
 go_wp2
 repeat (go_quiet (fail); try go_wp2)
 go_loopg [5] k (fun kq v5 w' => ∃ (x5_1 : Int), v5 = .int .i64 x5_1 ∧ Aside0 (laws_eqStringS.l0 kq l0 l1 x5_1 = some r) ∧ Aside0 (kq ≤ k) ∧ Drawn0 w w')
 case atStart => exact ⟨(0), (by rfl), H', ⟨Nat.le_refl _⟩, by repeat (first | exact Drawn0.refl _ | apply Drawn0.step)⟩
 clear H'
 try clear p2
 try clear c3b0
 try clear c3b1
 try clear c3b2
 obtain ⟨x5_1, rfl, HA, HK1, ⟨m1, rfl⟩⟩ := hrel
 cases gk with
 | zero => exact absurd HA.out (by simp [laws_eqStringS.l0])
 | succ k1 =>
  have H := HA.out
  clear HA
  simp only [laws_eqStringS.l0] at H
  by_cases c4 : x5_1 < (l0.length : Int)
  rotate_left
  ·
   rw [if_neg c4] at H
   have c4b0 := dF_ c4
   clear c4
   obtain rfl := Option.some.inj H
   go_wp2
   repeat (go_quiet (fail); try go_wp2)
   go_ret
   exact ⟨by rfl, by repeat (first | exact Drawn0.refl _ | apply Drawn0.step)⟩
  rw [if_pos c4] at H
  have c4b0 := dT_ c4
  clear c4
  by_cases c5 : 0 ≤ x5_1
  rotate_left
  ·
   rw [if_neg c5] at H
   exact absurd H (by simp)
  rw [if_pos c5] at H
  have c5b0 := dT_ c5
  clear c5
  by_cases c6 : x5_1 < (l1.length : Int)
  rotate_left
  ·
   rw [if_neg c6] at H
   exact absurd H (by simp)
  rw [if_pos c6] at H
  have c6b0 := dT_ c6
  clear c6
  by_cases c7 : (rdOf eB_ l0 x5_1).toList = (rdOf eB_ l1 x5_1).toList
  ·
   rw [if_pos c7] at H
   have c7b0 : ((rdOf eB_ l0 x5_1).toList == (rdOf eB_ l1 x5_1).toList) = true := beq_iff_eq.mpr c7
   have c7b1 : ((rdOf eB_ l0 x5_1).toList != (rdOf eB_ l1 x5_1).toList) = false := bne_eq_false_iff_eq.mpr c7
   clear c7
   have H' := aM_ H
   clear H
   have p819 : 0 ≤ (x5_1 : Int) := oD_ ‹_›
   have q819 : x5_1 < (l0.length : Int) := oD_ ‹_›
   obtain ⟨ad819, e819, hx819_0⟩ := Kd.at_string HR0.out x5_1 p819 q819
   cases e819
   replace p819 := eq_true p819
   replace q819 := eq_true q819
   have p820 : 0 ≤ (x5_1 : Int) := oD_ ‹_›
   have q820 : x5_1 < (l1.length : Int) := oD_ ‹_›
   obtain ⟨ad820, e820, hx820_0⟩ := Kd.at_string HR1.out x5_1 p820 q820
   cases e820
   replace p820 := eq_true p820
   replace q820 := eq_true q820
   go_wp2
   repeat (go_quiet (fail); try go_wp2)
   go_roundg k1
   case measure => have := HK1.out; omega
   case rel => exact ⟨(wrap64 (x5_1 + 1)), (by rfl), H', ⟨by have := HK1.out; omega⟩, by repeat (first | exact Drawn0.refl _ | apply Drawn0.step)⟩
  rw [if_neg c7] at H
  have c7b0 : ((rdOf eB_ l0 x5_1).toList == (rdOf eB_ l1 x5_1).toList) = false := beq_eq_false_iff_ne.mpr c7
  have c7b1 : ((rdOf eB_ l0 x5_1).toList != (rdOf eB_ l1 x5_1).toList) = true := bne_iff_ne.mpr c7
  obtain rfl := Option.some.inj H
  have p819 : 0 ≤ (x5_1 : Int) := oD_ ‹_›
  have q819 : x5_1 < (l0.length : Int) := oD_ ‹_›
  obtain ⟨ad819, e819, hx819_0⟩ := Kd.at_string HR0.out x5_1 p819 q819
  cases e819
  replace p819 := eq_true p819
  replace q819 := eq_true q819
  have p820 : 0 ≤ (x5_1 : Int) := oD_ ‹_›
  have q820 : x5_1 < (l1.length : Int) := oD_ ‹_›
  obtain ⟨ad820, e820, hx820_0⟩ := Kd.at_string HR1.out x5_1 p820 q820
  cases e820
  replace p820 := eq_true p820
  replace q820 := eq_true q820
  go_wp2
  repeat (go_quiet (fail); try go_wp2)
  go_ret
  exact ⟨by rfl, by repeat (first | exact Drawn0.refl _ | apply Drawn0.step)⟩
def laws_markText.l0 : Nat → Int → ByteArray → Option (ByteArray)
 | 0, _, _ => none
 | k + 1, x0, x3 => if x0 > 0 then ((some (([(wrap64 (48 + (Int.tmod x0 10))) % 256] : List Int) : List Int)).bind fun y821 => (if (strOfNums y821).size + x3.size ≤ 9223372036854775807 then (laws_markText.l0 k (wrap64 (Int.tdiv x0 10)) ((strOfNums y821) ++ x3)) else (none))) else (if 1 + x3.size ≤ 9223372036854775807 then (some ((⟨#[109]⟩ : ByteArray) ++ x3)) else (none))
def laws_markText.f (k : Nat) (a0 : Int) : Option (ByteArray) := if a0 ≤ 0 then (some (⟨#[109, 48]⟩ : ByteArray)) else (laws_markText.l0 k a0 (⟨#[]⟩ : ByteArray))
theorem laws_markText.mono_l : ∀ k, (∀ y0 y1, LeO (laws_markText.l0 k y0 y1) (laws_markText.l0 (k + 1) y0 y1))
 | 0 => fun _ _ r h => by simp [laws_markText.l0] at h
 | k + 1 => by
  have ih0 := laws_markText.mono_l k
  intro y0 y1
  unfold laws_markText.l0
  repeat' with_reducible first | exact ih0 _ _ | exact l3_ _ | exact l0_ _ | refine l2_ ?_ ?_ | refine l1_ ?_ (fun _ => ?_)
theorem laws_markText.mono : ∀ a0 k, LeO (laws_markText.f k a0) (laws_markText.f (k + 1) a0) := by
 intro a0 k
 have ih0 := laws_markText.mono_l k
 unfold laws_markText.f
 repeat' with_reducible first | exact ih0 _ _ | exact l3_ _ | exact l0_ _ | refine l2_ ?_ ?_ | refine l1_ ?_ (fun _ => ?_)
theorem laws_markText.calls (k : Nat) (a0 : Int) (r : ByteArray) (w : World) (h : laws_markText.f k a0 = some r) :
  Calls Tryz.prog 73 #[.int .i64 a0] w fun e w' => e = .returned (.string r) ∧ Below w.heap.size w w' := by
 have HB := aM_ (Below.refl w.heap.size w)
 have H : (if a0 ≤ 0 then (some (⟨#[109, 48]⟩ : ByteArray)) else (laws_markText.l0 k a0 (⟨#[]⟩ : ByteArray))) = some r := h
 clear h
 by_cases c2 : a0 ≤ 0
 ·
  rw [if_pos c2] at H
  have c2b0 := dT_ c2
  clear c2
  obtain rfl := Option.some.inj H
  go_enter Tryz.func73, Tryz.ntmps73
  go_wp2
  go_ret
  exact ⟨by rfl, by exact HB.out⟩
 rw [if_neg c2] at H
 have c2b0 := dF_ c2
 clear c2
 have H' := aM_ H
 clear H
 go_enter Tryz.func73, Tryz.ntmps73
 go_wp2
 go_loopg [0, 3] k (fun kq v0 v3 w' => ∃ (x0_1 : Int) (x3_1 : ByteArray), v0 = .int .i64 x0_1 ∧ v3 = .string x3_1 ∧ Aside0 (laws_markText.l0 kq x0_1 x3_1 = some r) ∧ Aside0 (kq ≤ k) ∧ Aside0 (Below w.heap.size w w'))
 case atStart => exact ⟨(a0), ((⟨#[]⟩ : ByteArray)), (by rfl), (by rfl), H', ⟨Nat.le_refl _⟩, ⟨HB.out⟩⟩
 clear H'
 try clear c2b0
 try clear p2
 obtain ⟨x0_1, x3_1, rfl, rfl, HA, HK1, HB⟩ := hrel
 cases gk with
 | zero => exact absurd HA.out (by simp [laws_markText.l0])
 | succ k1 =>
  have H := HA.out
  clear HA
  simp only [laws_markText.l0] at H
  by_cases c3 : x0_1 > 0
  ·
   rw [if_pos c3] at H
   have c3b0 := dT_ c3
   clear c3
   obtain ⟨y821, hy821⟩ : ∃ y_ : List Int, y_ = (([(wrap64 (48 + (Int.tmod x0_1 10))) % 256] : List Int)) := ⟨_, rfl⟩
   replace H : (if (strOfNums y821).size + x3_1.size ≤ 9223372036854775807 then (laws_markText.l0 k1 (wrap64 (Int.tdiv x0_1 10)) ((strOfNums y821) ++ x3_1)) else (none)) = some r := by (try rw [hy821]); first | with_reducible exact H | with_reducible exact oS_ H | exact H
   have Ny821 := aM_ hy821
   clear hy821
   by_cases c4 : (strOfNums y821).size + x3_1.size ≤ 9223372036854775807
   ·
    rw [if_pos c4] at H
    have c4b0 := eq_true c4
    have c4b1 := dT_ c4
    try have c4b2 : (9223372036854775807 < (strOfNums y821).size + x3_1.size) = False := eq_false (Nat.not_lt.2 c4)
    have H' := aM_ H
    clear H
    go_wp2_with (first | ((with_reducible refine gD_ (N := 12) rfl ?_); refine Kd.R_lit (Kd.int .u8) _ 5 ?hg (N := 12) ?hd (xs := ([(wrap64 (48 + (Int.tmod x0_1 10))) % 256] : List Int)) (inner := [.int .u8 ((wrap64 (48 + (Int.tmod x0_1 10))) % 256)]) (ok := fun _ => True) (okp := fun _ => True) ?hr ?hp (fun _ hk => hk) trivial (Below.refl _ _) (Nat.le_refl _) (by simp) ?_; (case hd => rfl); (case hg => rfl); (case hr => (go_simp; done)); (case hp => exact (Reps.one (show Kd.M (Kd.int .u8) _ _ _ ((wrap64 (48 + (Int.tmod x0_1 10))) % 256) [.int .u8 ((wrap64 (48 + (Int.tmod x0_1 10))) % 256)] from rfl) (Reps.none _ _))); intro v822 w5 ho6 hb hg_ hnew_; clear hg_ hnew_; (rw [← Ny821.out] at ho6); have HO823 := aM_ (k5_ ho6 (bZ_ HB.out)); replace HB := b4_ HB hb; clear hb ho6; have hcv7 := own_string (P := Tryz.prog) Tryz.underlying115 Tryz.underlying5 Tryz.underlying9 (Kd.own_of_R HO823.out)))
    go_roundg k1
    case measure => have := HK1.out; omega
    case rel => exact ⟨(wrap64 (Int.tdiv x0_1 10)), ((strOfNums y821) ++ x3_1), (by rfl), (by rfl), H', ⟨by have := HK1.out; omega⟩, ⟨HB.out⟩⟩
   rw [if_neg c4] at H
   exact absurd H (by simp)
  rw [if_neg c3] at H
  have c3b0 := dF_ c3
  clear c3
  by_cases c8 : 1 + x3_1.size ≤ 9223372036854775807
  ·
   rw [if_pos c8] at H
   have c8b0 := eq_true c8
   have c8b1 := dT_ c8
   try have c8b2 : (9223372036854775807 < 1 + x3_1.size) = False := eq_false (Nat.not_lt.2 c8)
   obtain rfl := Option.some.inj H
   go_wp2
   go_ret
   exact ⟨by rfl, by exact HB.out⟩
  rw [if_neg c8] at H
  exact absurd H (by simp)
def laws_markStringS.l0 : Nat → List ByteArray → Int → Int → Option (Int × List ByteArray)
 | 0, _, _, _ => none
 | k + 1, x0, x1, x5 => if x5 < (x0.length : Int) then ((laws_markText.f k x1).bind fun t824 => (if 0 ≤ x5 then (laws_markStringS.l0 k (x0.set (x5 : Int).toNat t824) (wrap64 (x1 + 1)) (wrap64 (x5 + 1))) else (none))) else (some (x1, x0))
def laws_markStringS.f (k : Nat) (l0 : List ByteArray) (a1 : Int) : Option (Int × List ByteArray) := laws_markStringS.l0 k l0 a1 0
theorem laws_markStringS.mono_l : ∀ k, (∀ y0 y1 y2, LeO (laws_markStringS.l0 k y0 y1 y2) (laws_markStringS.l0 (k + 1) y0 y1 y2))
 | 0 => fun _ _ _ r h => by simp [laws_markStringS.l0] at h
 | k + 1 => by
  have ih0 := laws_markStringS.mono_l k
  intro y0 y1 y2
  unfold laws_markStringS.l0
  repeat' with_reducible first | exact ih0 _ _ _ | exact laws_markText.mono _ _ | exact l3_ _ | exact l0_ _ | refine l2_ ?_ ?_ | refine l1_ ?_ (fun _ => ?_)
theorem laws_markStringS.mono : ∀ a0 a1 k, LeO (laws_markStringS.f k a0 a1) (laws_markStringS.f (k + 1) a0 a1) := by
 intro a0 a1 k
 have ih0 := laws_markStringS.mono_l k
 unfold laws_markStringS.f
 repeat' with_reducible first | exact ih0 _ _ _ | exact laws_markText.mono _ _ | exact l3_ _ | exact l0_ _ | refine l2_ ?_ ?_ | refine l1_ ?_ (fun _ => ?_)
theorem laws_markStringS.calls (k : Nat) (P0_ : Nat → Prop) (u9000_ : Value) (l0 : List ByteArray) (a1 : Int) (r1 : Int) (r2 : List ByteArray) (w0 w : World) (hB : Below w0.heap.size w0 w) (ho0 : Kd.R Kd.string 9 w w0.heap.size P0_ u9000_ l0) (h : laws_markStringS.f k l0 a1 = some (r1, r2)) :
  Calls Tryz.prog 39 #[u9000_, .int .i64 a1] w fun e w' => e = .returned (.int .i64 r1) ∧ Kd.R Kd.string 9 w' w0.heap.size (fun k_ => (P0_ k_ ∨ w.heap.size ≤ k_)) u9000_ r2 ∧ Below w0.heap.size w0 w' ∧ Kept w w' (fun k_ => P0_ k_) := by
 have HO0 := aM_ (show Kd.R Kd.string 9 w w0.heap.size (fun k_ => (P0_ k_ ∨ w.heap.size ≤ k_)) u9000_ l0 from kM_ ho0 (fun k_ hk => (.inl hk)))
 have HK := aM_ (Kept.refl w (fun k_ => P0_ k_))
 have HW0 := aM_ hB.size
 have HB := aM_ hB
 clear hB
 have H : (laws_markStringS.l0 k l0 a1 0) = some (r1, r2) := h
 clear h
 have H' := aM_ H
 clear H
 go_enter Tryz.func39, Tryz.ntmps39
 go_wp2
 go_loopg [1, 5] k (fun kq v1 v5 w' => ∃ (x0_1 : List ByteArray) (x1_1 : Int) (x5_1 : Int), v1 = .int .i64 x1_1 ∧ v5 = .int .i64 x5_1 ∧ Aside0 (laws_markStringS.l0 kq x0_1 x1_1 x5_1 = some (r1, r2)) ∧ Aside0 (kq ≤ k) ∧ Aside0 (Kd.R Kd.string 9 w' w0.heap.size (fun k_ => (P0_ k_ ∨ w.heap.size ≤ k_)) u9000_ x0_1) ∧ Aside0 (Kept w w' (fun k_ => P0_ k_)) ∧ Aside0 (Below w0.heap.size w0 w'))
 case atStart => exact ⟨(l0), (a1), (0), (by rfl), (by rfl), H', ⟨Nat.le_refl _⟩, ⟨HO0.out⟩, ⟨by repeat (first | (with_reducible first | exact HK.out | apply Kept.alloc | apply Kept.drewN | apply Kept.drew) | exact HK.out)⟩, ⟨HB.out⟩⟩
 clear H'
 try clear p2
 obtain ⟨x0_1, x1_1, x5_1, rfl, rfl, HA, HK1, HO_0, HK, HB⟩ := hrel
 cases gk with
 | zero => exact absurd HA.out (by simp [laws_markStringS.l0])
 | succ k1 =>
  have H := HA.out
  clear HA
  simp only [laws_markStringS.l0] at H
  by_cases c3 : x5_1 < (x0_1.length : Int)
  rotate_left
  ·
   rw [if_neg c3] at H
   have c3b0 := dF_ c3
   clear c3
   simp only [Option.some.injEq, Prod.mk.injEq] at H
   obtain ⟨rfl, rfl⟩ := H
   obtain ⟨Ao11, co11, eo11⟩ := kS_ HO_0.out
   subst eo11
   go_wp2
   go_ret
   exact ⟨by rfl, by exact HO_0.out, by exact HB.out, by repeat (first | (with_reducible first | exact HK.out | apply Kept.alloc | apply Kept.drewN | apply Kept.drew) | exact HK.out)⟩
  rw [if_pos c3] at H
  have c3b0 := dT_ c3
  clear c3
  replace H := oB_.mp H
  obtain ⟨t824, A40, H⟩ := H
  try dsimp only at H
  have A4 := aM_ A40
  clear A40
  by_cases c5 : 0 ≤ x5_1
  ·
   rw [if_pos c5] at H
   have c5b0 := dT_ c5
   clear c5
   obtain ⟨y825, hy825⟩ : ∃ y_ : List ByteArray, y_ = (x0_1.set (x5_1 : Int).toNat t824) := ⟨_, rfl⟩
   replace H : (laws_markStringS.l0 k1 y825 (wrap64 (x1_1 + 1)) (wrap64 (x5_1 + 1))) = some (r1, r2) := by (try rw [hy825]); first | with_reducible exact H | with_reducible exact oS_ H | exact H
   have Ny825 := aM_ hy825
   clear hy825
   have H' := aM_ H
   clear H
   obtain ⟨Ao7, co7, eo7⟩ := kS_ HO_0.out
   subst eo7
   go_wp2_with (first | (refine gs_ 15 Tryz.func73 #[.int .i64 x1_1] ?_; (with_reducible refine (laws_markText.calls k1 x1_1 t824 _ A4.out).mono ?_); rintro e w8 ⟨rfl, hb⟩; refine ⟨_, rfl, ?_⟩; replace HO_0 := k9_ HO_0 hb; replace HK := aM_ (Kept.below (S := (fun k_ => P0_ k_)) (by repeat (first | (with_reducible first | exact HK.out | apply Kept.alloc | apply Kept.drewN | apply Kept.drew) | exact HK.out)) hb); replace HB := b4_ HB hb; (try clear hb); have p6 : 0 ≤ (x5_1 : Int) := oD_ ‹_›; have q6 : (x5_1 : Int) < ((x0_1.length : Int) : Int) := oD_ ‹_›; obtain ⟨go6, co6, eo6, gb6, gl6, cl6, HG6⟩ := Kd.R_form HO_0.out (by omega); (cases eo6); have GB6 := aM_ gb6; have GG6 := aM_ HG6; clear gb6 gl6 HG6; have HMgo6 := aM_ (show (P0_ go6 ∨ w.heap.size ≤ go6) from (HO_0.out.1 _ rfl)); obtain ⟨hx6_0, hf6_0⟩ := kC_ (⟨#[]⟩ : ByteArray) HO_0.out (x5_1 : Int) p6 q6; replace p6 := eq_true p6; replace q6 := eq_true q6; obtain ⟨hy9_, hz9_⟩ := kC_ (⟨#[]⟩ : ByteArray) HO_0.out (x5_1 : Int) (oD_ ‹_›) (oD_ ‹_›); have HP9 := Kd.R_putg HO_0.out (x5_1 : Int) t824) | ((with_reducible refine gate_store (t := 9) (p := 16) rfl ?_); refine store_event (t := 9) (p := 16) (v := ?vo_w10) (w1 := (w8.setCell ⟨go6, (x5_1 : Int).toNat, none⟩ (.string t824))) ?hg ?ho ?hn ?hr ?_; (case ho => rfl); (case hg => rfl); (case hn => rfl); (case hr => (go_simp; done)); intro w10 hw; have hg : w8.grownBy w10 (some go6) := (by rw [hw]; exact HP9.2); have hp_ : Kd.R Kd.string 9 w10 w0.heap.size (fun k_ => (P0_ k_ ∨ w.heap.size ≤ k_)) (.slice (some ⟨go6, 0, none⟩) x0_1.length co7) y825 := (by rw [hw, Ny825.out]; exact HP9.1); clear HP9; replace HB := aM_ ((by rw [hw]; exact bS_ (HB.out) GB6.out : Below w0.heap.size w0 w10)); replace HK := aM_ (Kept.of_grown (S := (fun k_ => P0_ k_)) hg (by repeat (first | (with_reducible first | exact HK.out | apply Kept.alloc | apply Kept.drewN | apply Kept.drew) | exact HK.out)) (fun k_ e_ => (HO_0.out.1 k_ e_))); replace HO_0 := aM_ (hp_); clear hg hw hp_))
   go_roundg k1
   case measure => have := HK1.out; omega
   case rel => exact ⟨(y825), (wrap64 (x1_1 + 1)), (wrap64 (x5_1 + 1)), (by rfl), (by rfl), H', ⟨by have := HK1.out; omega⟩, ⟨HO_0.out⟩, ⟨by repeat (first | (with_reducible first | exact HK.out | apply Kept.alloc | apply Kept.drewN | apply Kept.drew) | exact HK.out)⟩, ⟨HB.out⟩⟩
  rw [if_neg c5] at H
  exact absurd H (by simp)
def laws_heldStringS.l0 : Nat → List ByteArray → Int → Int → Option (Int)
 | 0, _, _, _ => none
 | k + 1, x0, x1, x5 => if x5 < (x0.length : Int) then (if 0 ≤ x5 then ((laws_markText.f k x1).bind fun t827 => (if (rdOf eB_ x0 x5).toList = t827.toList then (laws_heldStringS.l0 k x0 (wrap64 (x1 + 1)) (wrap64 (x5 + 1))) else (some (-1)))) else (none)) else (some x1)
def laws_heldStringS.f (k : Nat) (l0 : List ByteArray) (a1 : Int) : Option (Int) := laws_heldStringS.l0 k l0 a1 0
theorem laws_heldStringS.mono_l : ∀ k, (∀ y0 y1 y2, LeO (laws_heldStringS.l0 k y0 y1 y2) (laws_heldStringS.l0 (k + 1) y0 y1 y2))
 | 0 => fun _ _ _ r h => by simp [laws_heldStringS.l0] at h
 | k + 1 => by
  have ih0 := laws_heldStringS.mono_l k
  intro y0 y1 y2
  unfold laws_heldStringS.l0
  repeat' with_reducible first | exact ih0 _ _ _ | exact laws_markText.mono _ _ | exact l3_ _ | exact l0_ _ | refine l2_ ?_ ?_ | refine l1_ ?_ (fun _ => ?_)
theorem laws_heldStringS.mono : ∀ a0 a1 k, LeO (laws_heldStringS.f k a0 a1) (laws_heldStringS.f (k + 1) a0 a1) := by
 intro a0 a1 k
 have ih0 := laws_heldStringS.mono_l k
 unfold laws_heldStringS.f
 repeat' with_reducible first | exact ih0 _ _ _ | exact laws_markText.mono _ _ | exact l3_ _ | exact l0_ _ | refine l2_ ?_ ?_ | refine l1_ ?_ (fun _ => ?_)
theorem laws_heldStringS.calls (k : Nat) (A0 : Option Addr) (c0 : Nat) (l0 : List ByteArray) (a1 : Int) (r : Int) (w : World) (hr0 : Kd.C Kd.string w A0 l0.length l0) (hc0 : l0.length ≤ c0) (h : laws_heldStringS.f k l0 a1 = some r) :
  Calls Tryz.prog 40 #[.slice A0 l0.length c0, .int .i64 a1] w fun e w' => e = .returned (.int .i64 r) ∧ Below w.heap.size w w' := by
 have HR0 := aM_ hr0
 have HC0 := aM_ hc0
 clear hr0 hc0
 have HB := aM_ (Below.refl w.heap.size w)
 have H : (laws_heldStringS.l0 k l0 a1 0) = some r := h
 clear h
 have H' := aM_ H
 clear H
 go_enter Tryz.func40, Tryz.ntmps40
 go_wp2
 go_loopg [1, 5] k (fun kq v1 v5 w' => ∃ (x1_1 : Int) (x5_1 : Int), v1 = .int .i64 x1_1 ∧ v5 = .int .i64 x5_1 ∧ Aside0 (laws_heldStringS.l0 kq l0 x1_1 x5_1 = some r) ∧ Aside0 (kq ≤ k) ∧ Aside0 (Below w.heap.size w w'))
 case atStart => exact ⟨(a1), (0), (by rfl), (by rfl), H', ⟨Nat.le_refl _⟩, ⟨HB.out⟩⟩
 clear H'
 try clear p2
 obtain ⟨x1_1, x5_1, rfl, rfl, HA, HK1, HB⟩ := hrel
 cases gk with
 | zero => exact absurd HA.out (by simp [laws_heldStringS.l0])
 | succ k1 =>
  have H := HA.out
  clear HA
  simp only [laws_heldStringS.l0] at H
  by_cases c3 : x5_1 < (l0.length : Int)
  rotate_left
  ·
   rw [if_neg c3] at H
   have c3b0 := dF_ c3
   clear c3
   obtain rfl := Option.some.inj H
   go_wp2
   go_ret
   exact ⟨by rfl, by exact HB.out⟩
  rw [if_pos c3] at H
  have c3b0 := dT_ c3
  clear c3
  by_cases c4 : 0 ≤ x5_1
  rotate_left
  ·
   rw [if_neg c4] at H
   exact absurd H (by simp)
  rw [if_pos c4] at H
  have c4b0 := dT_ c4
  clear c4
  replace H := oB_.mp H
  obtain ⟨t827, A50, H⟩ := H
  try dsimp only at H
  have A5 := aM_ A50
  clear A50
  by_cases c6 : (rdOf eB_ l0 x5_1).toList = t827.toList
  ·
   rw [if_pos c6] at H
   have c6b0 : ((rdOf eB_ l0 x5_1).toList == t827.toList) = true := beq_iff_eq.mpr c6
   have c6b1 : ((rdOf eB_ l0 x5_1).toList != t827.toList) = false := bne_eq_false_iff_eq.mpr c6
   clear c6
   have H' := aM_ H
   clear H
   try go_wp2
   replace HB := aM_ (bD_ HB.out)
   have p826 : 0 ≤ (x5_1 : Int) := oD_ ‹_›
   have q826 : x5_1 < (l0.length : Int) := oD_ ‹_›
   obtain ⟨ad826, e826, hx826_0⟩ := Kd.at_string HR0.out x5_1 p826 q826
   have hw826_0 := hx826_0
   cases e826
   replace hx826_0 := cb_ HB hx826_0
   replace p826 := eq_true p826
   replace q826 := eq_true q826
   refine start_ (n := 7) (S := fun w' => w'.cell? (ad826.add (x5_1).toNat) = some (.string (rdOf eB_ l0 x5_1))) (ds := []) #[fy, fy, fy, fy, fy, fy, fy] (by kernel_rfl) rfl rfl ((cb_ HB hw826_0)) (fun hHeld => ?_)
   generalize wr.drew = w7 at HB hx826_0 hHeld ⊢
   refine pure_ (i := 0) (N := some 12) (v := ?_) (a' := ?_) #[ty, fy, fy, fy, fy, fy, fy] rfl rfl (by kernel_rfl) (fun _ _ _ h => h) (Or.inl ⟨by rfl, ?_⟩) ?_ ?_; rotate_left; (intro w'; go_simp; with_reducible rfl); rotate_left; (simp only [Act.put, sA_, sB_, sC_, i6_, i3_]; rfl)
   refine pure_ (i := 1) (N := some 13) (v := ?_) (a' := ?_) #[ty, ty, fy, fy, fy, fy, fy] rfl rfl (by kernel_rfl) (fun _ _ _ h => h) (Or.inl ⟨by rfl, ?_⟩) ?_ ?_; rotate_left; (intro w'; go_simp; with_reducible rfl); rotate_left; (simp only [Act.put, sA_, sB_, sC_, i6_, i3_]; rfl)
   refine pure_ (i := 2) (N := some 14) (v := ?_) (a' := ?_) #[ty, ty, ty, fy, fy, fy, fy] rfl rfl (by kernel_rfl) (fun _ _ _ h => h) (Or.inl ⟨by rfl, ?_⟩) ?_ ?_; rotate_left; (intro w'; go_simp; with_reducible rfl); rotate_left; (simp only [Act.put, sA_, sB_, sC_, i6_, i3_]; rfl)
   refine pure_ (i := 4) (N := some 16) (v := ?_) (a' := ?_) #[ty, ty, ty, fy, ty, fy, fy] rfl rfl (by kernel_rfl) (fun _ _ _ h => h) (Or.inl ⟨by rfl, ?_⟩) ?_ ?_; rotate_left; (intro w'; go_simp; with_reducible rfl); rotate_left; (simp only [Act.put, sA_, sB_, sC_, i6_, i3_]; rfl)
   refine take_ (i := 3) (N := some 15) (v := ?_) (a' := ?_) #[ty, ty, ty, ty, ty, fy, fy] rfl rfl (by kernel_rfl) (fun _ _ _ h => h) (Or.inl ⟨by rfl, ?_⟩) hHeld ?_ ?_; rotate_left; (intro w' s0; go_simp; with_reducible rfl); rotate_left; (simp only [Act.put, sA_, sB_, sC_, i6_, i3_]; rfl)
   refine one_ (i := 5) (N := some 17) #[ty, ty, ty, ty, ty, ty, fy] rfl rfl (by kernel_rfl) (by decide) (fun K hK => ?_)
   refine goes_ Tryz.func73 (by kernel_rfl) rfl #[.int .i64 x1_1] (by rfl) rfl rfl (by (try simp only [sD_, sE_, sF_]); rfl) ?_
   with_reducible refine (laws_markText.calls k1 x1_1 t827 _ A5.out).mono ?_
   rintro e w8 ⟨rfl, hb⟩
   refine ⟨_, rfl, ?_⟩
   replace HB := b4_ HB hb
   (try clear hb)
   refine hK.out _ _ ((cb_ HB hw826_0)) (fun hHeld => ?_)
   clear hK K
   refine norm_ (by show Act.put _ (some 17) _ = _; simp only [Act.put, sA_, sB_, sC_, i6_, i3_]; rfl) ?_
   refine pure_ (i := 6) (N := some 18) (v := ?_) (a' := ?_) #[ty, ty, ty, ty, ty, ty, ty] rfl rfl (by kernel_rfl) (fun _ _ _ h => h) (Or.inl ⟨by rfl, ?_⟩) ?_ ?_; rotate_left; (intro w'; go_simp; with_reducible rfl); rotate_left; (simp only [Act.put, sA_, sB_, sC_, i6_, i3_]; rfl)
   refine done_ (by kernel_rfl) ?_
   try go_wp2
   go_roundg k1
   case measure => have := HK1.out; omega
   case rel => exact ⟨(wrap64 (x1_1 + 1)), (wrap64 (x5_1 + 1)), (by rfl), (by rfl), H', ⟨by have := HK1.out; omega⟩, ⟨HB.out⟩⟩
  rw [if_neg c6] at H
  have c6b0 : ((rdOf eB_ l0 x5_1).toList == t827.toList) = false := beq_eq_false_iff_ne.mpr c6
  have c6b1 : ((rdOf eB_ l0 x5_1).toList != t827.toList) = true := bne_iff_ne.mpr c6
  obtain rfl := Option.some.inj H
  try go_wp2
  replace HB := aM_ (bD_ HB.out)
  have p826 : 0 ≤ (x5_1 : Int) := oD_ ‹_›
  have q826 : x5_1 < (l0.length : Int) := oD_ ‹_›
  obtain ⟨ad826, e826, hx826_0⟩ := Kd.at_string HR0.out x5_1 p826 q826
  have hw826_0 := hx826_0
  cases e826
  replace hx826_0 := cb_ HB hx826_0
  replace p826 := eq_true p826
  replace q826 := eq_true q826
  refine start_ (n := 7) (S := fun w' => w'.cell? (ad826.add (x5_1).toNat) = some (.string (rdOf eB_ l0 x5_1))) (ds := []) #[fy, fy, fy, fy, fy, fy, fy] (by kernel_rfl) rfl rfl ((cb_ HB hw826_0)) (fun hHeld => ?_)
  generalize wr.drew = w9 at HB hx826_0 hHeld ⊢
  refine pure_ (i := 0) (N := some 12) (v := ?_) (a' := ?_) #[ty, fy, fy, fy, fy, fy, fy] rfl rfl (by kernel_rfl) (fun _ _ _ h => h) (Or.inl ⟨by rfl, ?_⟩) ?_ ?_; rotate_left; (intro w'; go_simp; with_reducible rfl); rotate_left; (simp only [Act.put, sA_, sB_, sC_, i6_, i3_]; rfl)
  refine pure_ (i := 1) (N := some 13) (v := ?_) (a' := ?_) #[ty, ty, fy, fy, fy, fy, fy] rfl rfl (by kernel_rfl) (fun _ _ _ h => h) (Or.inl ⟨by rfl, ?_⟩) ?_ ?_; rotate_left; (intro w'; go_simp; with_reducible rfl); rotate_left; (simp only [Act.put, sA_, sB_, sC_, i6_, i3_]; rfl)
  refine pure_ (i := 2) (N := some 14) (v := ?_) (a' := ?_) #[ty, ty, ty, fy, fy, fy, fy] rfl rfl (by kernel_rfl) (fun _ _ _ h => h) (Or.inl ⟨by rfl, ?_⟩) ?_ ?_; rotate_left; (intro w'; go_simp; with_reducible rfl); rotate_left; (simp only [Act.put, sA_, sB_, sC_, i6_, i3_]; rfl)
  refine pure_ (i := 4) (N := some 16) (v := ?_) (a' := ?_) #[ty, ty, ty, fy, ty, fy, fy] rfl rfl (by kernel_rfl) (fun _ _ _ h => h) (Or.inl ⟨by rfl, ?_⟩) ?_ ?_; rotate_left; (intro w'; go_simp; with_reducible rfl); rotate_left; (simp only [Act.put, sA_, sB_, sC_, i6_, i3_]; rfl)
  refine take_ (i := 3) (N := some 15) (v := ?_) (a' := ?_) #[ty, ty, ty, ty, ty, fy, fy] rfl rfl (by kernel_rfl) (fun _ _ _ h => h) (Or.inl ⟨by rfl, ?_⟩) hHeld ?_ ?_; rotate_left; (intro w' s0; go_simp; with_reducible rfl); rotate_left; (simp only [Act.put, sA_, sB_, sC_, i6_, i3_]; rfl)
  refine one_ (i := 5) (N := some 17) #[ty, ty, ty, ty, ty, ty, fy] rfl rfl (by kernel_rfl) (by decide) (fun K hK => ?_)
  refine goes_ Tryz.func73 (by kernel_rfl) rfl #[.int .i64 x1_1] (by rfl) rfl rfl (by (try simp only [sD_, sE_, sF_]); rfl) ?_
  with_reducible refine (laws_markText.calls k1 x1_1 t827 _ A5.out).mono ?_
  rintro e w10 ⟨rfl, hb⟩
  refine ⟨_, rfl, ?_⟩
  replace HB := b4_ HB hb
  (try clear hb)
  refine hK.out _ _ ((cb_ HB hw826_0)) (fun hHeld => ?_)
  clear hK K
  refine norm_ (by show Act.put _ (some 17) _ = _; simp only [Act.put, sA_, sB_, sC_, i6_, i3_]; rfl) ?_
  refine pure_ (i := 6) (N := some 18) (v := ?_) (a' := ?_) #[ty, ty, ty, ty, ty, ty, ty] rfl rfl (by kernel_rfl) (fun _ _ _ h => h) (Or.inl ⟨by rfl, ?_⟩) ?_ ?_; rotate_left; (intro w'; go_simp; with_reducible rfl); rotate_left; (simp only [Act.put, sA_, sB_, sC_, i6_, i3_]; rfl)
  refine done_ (by kernel_rfl) ?_
  try go_wp2
  go_ret
  exact ⟨by rfl, by exact HB.out⟩
def spec_BehindState.f (k : Nat) (l0_0 : List (S72)) (a1 : Int) : Option (List ByteArray × Bool) := (spec_l7Valid.f k l0_0).bind fun t662 => (if t662 = true then ((spec_l1In.f a1 0 (wrap64 ((l0_0.length : Int) - 1))).bind fun t663 => (if t663 = true then ((spec_l7Walk.f k l0_0 a1 (⟨#[]⟩ : ByteArray) 0).bind fun bt664 => (some (bt664.1, true))) else (some ((([] : List ByteArray)), false)))) else (some ((([] : List ByteArray)), false)))
theorem spec_BehindState.mono : ∀ a0 a1 k, LeO (spec_BehindState.f k a0 a1) (spec_BehindState.f (k + 1) a0 a1) := by
 intro a0 a1 k
 unfold spec_BehindState.f
 repeat' with_reducible first | exact spec_l7Valid.mono _ _ | exact spec_l7Walk.mono _ _ _ _ _ | exact l3_ _ | exact l0_ _ | refine l2_ ?_ ?_ | refine l1_ ?_ (fun _ => ?_)
theorem spec_BehindState.calls (k : Nat) (A0_0 : Option Addr) (c0_0 : Nat) (l0_0 : List (S72)) (a1 : Int) (r1 : List ByteArray) (r2 : Bool) (w : World) (hr0_0 : Kd.C k72 w A0_0 l0_0.length l0_0) (hc0_0 : l0_0.length ≤ c0_0) (h : spec_BehindState.f k l0_0 a1 = some (r1, r2)) :
  Calls Tryz.prog 36 #[.agg #[.slice A0_0 l0_0.length c0_0], .int .i64 a1] w fun e w' => ∃ v0_ : Value, e = .returned (.tuple #[v0_, .bool r2]) ∧ Kd.R Kd.string 9 w' w.heap.size (fun _ => True) v0_ r1 ∧ Below w.heap.size w w' := by
 have hu33 := Tryz.underlying33
 have HR0_0 := aM_ hr0_0
 have HC0_0 := aM_ hc0_0
 clear hr0_0 hc0_0
 have HB := aM_ (Below.refl w.heap.size w)
 have H : ((spec_l7Valid.f k l0_0).bind fun t662 => (if t662 = true then ((spec_l1In.f a1 0 (wrap64 ((l0_0.length : Int) - 1))).bind fun t663 => (if t663 = true then ((spec_l7Walk.f k l0_0 a1 (⟨#[]⟩ : ByteArray) 0).bind fun bt664 => (some (bt664.1, true))) else (some ((([] : List ByteArray)), false)))) else (some ((([] : List ByteArray)), false)))) = some (r1, r2) := h
 clear h
 replace H := oB_.mp H
 obtain ⟨t662, A30, H⟩ := H
 try dsimp only at H
 have A3 := aM_ A30
 clear A30
 by_cases c4 : t662 = true
 rotate_left
 ·
  replace c4 := Bool.eq_false_iff.mpr c4
  subst c4
  replace H : (some ((([] : List ByteArray)), false)) = some (r1, r2) := by rw [if_neg (show ¬ (false = true) by decide)] at H; exact H
  obtain ⟨y671, hy671⟩ : ∃ y_ : List ByteArray, y_ = (([] : List ByteArray)) := ⟨_, rfl⟩
  replace H : (some (y671, false)) = some (r1, r2) := by (try rw [hy671]); first | with_reducible exact H | with_reducible exact oS_ H | exact H
  have Ny671 := aM_ hy671
  clear hy671
  simp only [Option.some.injEq, Prod.mk.injEq] at H
  obtain ⟨rfl, rfl⟩ := H
  go_enter Tryz.func36, Tryz.ntmps36
  go_wp2_with (first | ((with_reducible refine gD_ (N := 2) rfl ?_); (try (refine gate_guard (by rfl) ?_; dsimp only)); refine bE_ ?hg (N := 2) ?hd (cs := #[.slice A0_0 l0_0.length c0_0]) (t := 33) ?hr ?_; (case hd => rfl); (case hg => rfl); (case hr => (go_simp; done)); intro gb661 hg w19 hbox hb; have BK661 := aM_ (hbox); have GW661 := gw_ hg HB; replace HB := b4_ HB hb; clear hb hbox hg; have hcz20_0 := c0_ BK661; have hfz20_0 := bF_ BK661.out 0) | (refine gs_ 9 Tryz.func47 #[.agg #[.slice A0_0 l0_0.length c0_0]] ?_; (with_reducible refine (spec_l7Valid.calls k _ _ l0_0 false _ ?side1 HC0_0.out A3.out).mono ?_); (case side1 => repeat (first | exact (k4_ HR0_0.out HB.out) | with_reducible first | apply cA_ | apply cN_ | apply cD_)); rintro e w21 ⟨rfl, hb⟩; refine ⟨_, rfl, ?_⟩; replace BK661 := b5_ BK661 hb; replace HB := b4_ HB hb; (try clear hb)) | ((with_reducible refine gD_ (N := 20) rfl ?_); (try (refine gate_guard (by rfl) ?_; dsimp only)); refine Kd.R_lit Kd.string _ 9 ?hg (N := 20) ?hd (xs := ([] : List ByteArray)) (inner := []) (ok := fun _ => True) (okp := fun _ => True) ?hr ?hp (fun _ hk => hk) trivial (Below.refl _ _) (Nat.le_refl _) (by simp) ?_; (case hd => rfl); (case hg => rfl); (case hr => (go_simp; done)); (case hp => exact (Reps.none _ _)); intro v672 w22 ho23 hb hg_ hnew_; clear hg_ hnew_; (rw [← Ny671.out] at ho23); have HO673 := aM_ (k5_ ho23 (bZ_ HB.out)); replace BK661 := b5_ BK661 hb; replace HB := b4_ HB hb; clear hb ho23))
  go_ret2
  exact ⟨_, by rfl, by exact HO673.out, by exact HB.out⟩
 subst c4
 rw [if_pos rfl] at H
 replace H := oB_.mp H
 obtain ⟨t663, A50, H⟩ := H
 try dsimp only at H
 have A5 := aM_ A50
 clear A50
 by_cases c6 : t663 = true
 ·
  subst c6
  rw [if_pos rfl] at H
  replace H := oB_.mp H
  obtain ⟨⟨t664, t667⟩, A70, H⟩ := H
  try dsimp only at H
  have A7 := aM_ A70
  clear A70
  simp only [Option.some.injEq, Prod.mk.injEq] at H
  obtain ⟨rfl, rfl⟩ := H
  go_enter Tryz.func36, Tryz.ntmps36
  go_wp2_with (first | ((with_reducible refine gD_ (N := 2) rfl ?_); (try (refine gate_guard (by rfl) ?_; dsimp only)); refine bE_ ?hg (N := 2) ?hd (cs := #[.slice A0_0 l0_0.length c0_0]) (t := 33) ?hr ?_; (case hd => rfl); (case hg => rfl); (case hr => (go_simp; done)); intro gb661 hg w8 hbox hb; have BK661 := aM_ (hbox); have GW661 := gw_ hg HB; replace HB := b4_ HB hb; clear hb hbox hg; have hcz9_0 := c0_ BK661; have hfz9_0 := bF_ BK661.out 0) | (refine gs_ 9 Tryz.func47 #[.agg #[.slice A0_0 l0_0.length c0_0]] ?_; (with_reducible refine (spec_l7Valid.calls k _ _ l0_0 true _ ?side1 HC0_0.out A3.out).mono ?_); (case side1 => repeat (first | exact (k4_ HR0_0.out HB.out) | with_reducible first | apply cA_ | apply cN_ | apply cD_)); rintro e w10 ⟨rfl, hb⟩; refine ⟨_, rfl, ?_⟩; replace BK661 := b5_ BK661 hb; replace HB := b4_ HB hb; (try clear hb); have hcz11_0 := c0_ BK661; have hfz11_0 := bF_ BK661.out 0) | (go_at_call 62; (with_reducible refine (spec_l1In.calls a1 0 (wrap64 ((l0_0.length : Int) - 1)) true _ A5.out).mono ?_); rintro e w' ⟨rfl, ⟨nd, rfl⟩⟩) | (refine gs_ 24 Tryz.func69 #[.agg #[.slice A0_0 l0_0.length c0_0], .int .i64 a1, .string (⟨#[]⟩ : ByteArray), .int .i64 0] ?_; (with_reducible refine (spec_l7Walk.calls k _ _ l0_0 a1 (⟨#[]⟩ : ByteArray) 0 t664 t667 _ ?side1 HC0_0.out A7.out).mono ?_); (case side1 => repeat (first | exact (k4_ HR0_0.out (by repeat with_reducible first | exact HB.out | apply bA_ | apply bN_ | apply bD_ | refine bS_ ?_ GW661.out)) | with_reducible first | apply cA_ | apply cN_ | apply cD_)); rintro e w12 ⟨v665, rfl, ho0, hb⟩; refine ⟨_, rfl, ?_⟩; have HO666 := aM_ (k5_ ho0 (bZ_ (by repeat with_reducible first | exact HB.out | apply bA_ | apply bN_ | apply bD_ | refine bS_ ?_ GW661.out))); replace BK661 := aM_ (bB_ (g := gb661) (o := .cells #[.slice A0_0 l0_0.length c0_0] 33 (0, 0)) (by (with_reducible repeat (first | refine b2_ ?_ _ | refine b1_ ?_ | refine b3_ ?_ _)); exact BK661.out) hb); replace HB := aM_ (bT_ (by repeat with_reducible first | exact HB.out | apply bA_ | apply bN_ | apply bD_ | refine bS_ ?_ GW661.out) hb); (try clear hb); (try clear ho0)))
  go_ret2
  exact ⟨_, by rfl, by exact HO666.out, by exact HB.out⟩
 replace c6 := Bool.eq_false_iff.mpr c6
 subst c6
 replace H : (some ((([] : List ByteArray)), false)) = some (r1, r2) := by rw [if_neg (show ¬ (false = true) by decide)] at H; exact H
 obtain ⟨y668, hy668⟩ : ∃ y_ : List ByteArray, y_ = (([] : List ByteArray)) := ⟨_, rfl⟩
 replace H : (some (y668, false)) = some (r1, r2) := by (try rw [hy668]); first | with_reducible exact H | with_reducible exact oS_ H | exact H
 have Ny668 := aM_ hy668
 clear hy668
 simp only [Option.some.injEq, Prod.mk.injEq] at H
 obtain ⟨rfl, rfl⟩ := H
 go_enter Tryz.func36, Tryz.ntmps36
 go_wp2_with (first | ((with_reducible refine gD_ (N := 2) rfl ?_); (try (refine gate_guard (by rfl) ?_; dsimp only)); refine bE_ ?hg (N := 2) ?hd (cs := #[.slice A0_0 l0_0.length c0_0]) (t := 33) ?hr ?_; (case hd => rfl); (case hg => rfl); (case hr => (go_simp; done)); intro gb661 hg w13 hbox hb; have BK661 := aM_ (hbox); have GW661 := gw_ hg HB; replace HB := b4_ HB hb; clear hb hbox hg; have hcz14_0 := c0_ BK661; have hfz14_0 := bF_ BK661.out 0) | (refine gs_ 9 Tryz.func47 #[.agg #[.slice A0_0 l0_0.length c0_0]] ?_; (with_reducible refine (spec_l7Valid.calls k _ _ l0_0 true _ ?side1 HC0_0.out A3.out).mono ?_); (case side1 => repeat (first | exact (k4_ HR0_0.out HB.out) | with_reducible first | apply cA_ | apply cN_ | apply cD_)); rintro e w15 ⟨rfl, hb⟩; refine ⟨_, rfl, ?_⟩; replace BK661 := b5_ BK661 hb; replace HB := b4_ HB hb; (try clear hb); have hcz16_0 := c0_ BK661; have hfz16_0 := bF_ BK661.out 0) | (go_at_call 62; (with_reducible refine (spec_l1In.calls a1 0 (wrap64 ((l0_0.length : Int) - 1)) false _ A5.out).mono ?_); rintro e w' ⟨rfl, ⟨nd, rfl⟩⟩) | ((with_reducible refine gD_ (N := 20) rfl ?_); (try (refine gate_guard (by rfl) ?_; dsimp only)); refine Kd.R_lit Kd.string _ 9 ?hg (N := 20) ?hd (xs := ([] : List ByteArray)) (inner := []) (ok := fun _ => True) (okp := fun _ => True) ?hr ?hp (fun _ hk => hk) trivial (Below.refl _ _) (Nat.le_refl _) (by simp) ?_; (case hd => rfl); (case hg => rfl); (case hr => (go_simp; done)); (case hp => exact (Reps.none _ _)); intro v669 w17 ho18 hb hg_ hnew_; clear hg_ hnew_; (rw [← Ny668.out] at ho18); have HO670 := aM_ (k5_ ho18 (bZ_ (by repeat with_reducible first | exact HB.out | apply bA_ | apply bN_ | apply bD_ | refine bS_ ?_ GW661.out))); replace BK661 := aM_ (bB_ (g := gb661) (o := .cells #[.slice A0_0 l0_0.length c0_0] 33 (0, 0)) (by (with_reducible repeat (first | refine b2_ ?_ _ | refine b1_ ?_ | refine b3_ ?_ _)); exact BK661.out) hb); replace HB := aM_ (bT_ (by repeat with_reducible first | exact HB.out | apply bA_ | apply bN_ | apply bD_ | refine bS_ ?_ GW661.out) hb); clear hb ho18))
 go_ret2
 exact ⟨_, by rfl, by exact HO670.out, by exact HB.out⟩
def laws_FnExactBehindState.f (k : Nat) (l0_0 : List S90) : Option Bool := (some true : Option Bool)
structure laws_FnExactBehindState.All (k : Nat) (l : List S90) (a1 : Int) (tx tx2 : List S72) (r1 r1m : List ByteArray) (r2 : Bool) (kx m : Int) : Prop where
 hto : laws_toMachine.f k l = some tx
 sp : spec_BehindState.f k tx a1 = some (r1, r2)
 im : impl_BehindState.f k tx a1 = some (r1, r2)
 eqm : laws_eqStringS.f k r1 r1 = some true
 eqt : laws_eqMachine.f k tx tx = some true
 mkt : laws_markMachine.f tx 1 = some (kx, tx2)
 kpos : ¬ kx < 0
 mkm : laws_markStringS.f k r1 1 = some (m, r1m)
 hem : laws_heldStringS.f k r1m 1 = some m
 mpos : ¬ m < 0
def laws_FnExactBehindState.Pure : Prop := ∀ (l : List S90) (a1 : Int), l.length ≤ 9223372036854775807 → (∀ x ∈ l, x.f1.length ≤ 9223372036854775807) → ∃ k0 c, laws_szMachine.f k0 l 1048576 = some c ∧ (c < 0 ∨ (¬ c < 0 ∧ ∃ k tx tx2 r1 r1m r2 kx m, laws_FnExactBehindState.All k l a1 tx tx2 r1 r1m r2 kx m))
structure laws_FnExactBehindState.I4 (w W : World) (A0 : Option Addr) (n0 c0 p : Nat) (vW : Value) (lw : List ByteArray) : Prop where
 h1 : W.heap[w.heap.size]? = some (.cells #[.slice A0 n0 c0] 24 (0, 0))
 hW : Kd.R (Kd.string) 9 W w.heap.size (fun k => k < p) vW lw
 hB : Below w.heap.size w W
 lo : w.heap.size < p
structure laws_FnExactBehindState.I7 (w W : World) (A0 : Option Addr) (n0 c0 p b6 q : Nat) (okG : Nat → Prop) (vW vG : Value) (lw lg : List ByteArray) : Prop where
 i4 : laws_FnExactBehindState.I4 w W A0 n0 c0 p vW lw
 hG : Kd.R (Kd.string) 9 W w.heap.size okG vG lg
 lo : p ≤ b6 ∧ b6 < q
section
variable {w W W1 : World} {A0 : Option Addr} {n0 c0 p b6 q : Nat} {okG S : Nat → Prop} {vW vG : Value} {lw lg : List ByteArray}
theorem laws_FnExactBehindState.I4.below (h : laws_FnExactBehindState.I4 w W A0 n0 c0 p vW lw) (hb : Below W.heap.size W W1) : laws_FnExactBehindState.I4 w W1 A0 n0 c0 p vW lw :=
 ⟨bB_ h.h1 hb, kB_ h.hW hb, bT_ h.hB hb, h.lo⟩
theorem laws_FnExactBehindState.I4.kept (h : laws_FnExactBehindState.I4 w W A0 n0 c0 p vW lw) (hk : Kept W W1 S) (hb : Below w.heap.size w W1) (hS : ∀ k, S k → p ≤ k) : laws_FnExactBehindState.I4 w W1 A0 n0 c0 p vW lw :=
 ⟨blk_kept h.h1 hk (fun z => by have := hS _ z; have := h.lo; omega), Kd.R_kept h.hW hk (fun k hk z => by have := hS _ z; omega), hb, h.lo⟩
theorem laws_FnExactBehindState.I7.below (h : laws_FnExactBehindState.I7 w W A0 n0 c0 p b6 q okG vW vG lw lg) (hb : Below W.heap.size W W1) : laws_FnExactBehindState.I7 w W1 A0 n0 c0 p b6 q okG vW vG lw lg :=
 ⟨h.i4.below hb, kB_ h.hG hb, h.lo⟩
theorem laws_FnExactBehindState.I7.kept (h : laws_FnExactBehindState.I7 w W A0 n0 c0 p b6 q (fun k => b6 < k ∧ k < q) vW vG lw lg) (hk : Kept W W1 S) (hb : Below w.heap.size w W1) (hS : ∀ k, S k → p ≤ k ∧ k < b6) : laws_FnExactBehindState.I7 w W1 A0 n0 c0 p b6 q (fun k => b6 < k ∧ k < q) vW vG lw lg :=
 ⟨h.i4.kept hk hb (fun k z => (hS k z).1), Kd.R_kept h.hG hk (fun k hk z => by have := hS _ z; omega), h.lo⟩
end
theorem laws_FnExactBehindState.C_below {w W : World} {A : Option Addr} {n : Nat} {l : List S90} (h : Kd.C k90 w A n l) (hb : Below w.heap.size w W) : Kd.C k90 W A n l := k4_ h hb
theorem laws_FnExactBehindState.walk (P : laws_FnExactBehindState.Pure) (w : World) (A0 : Option Addr) (c0 : Nat) (l0_0 : List S90) (hr0 : Kd.C k90 w A0 l0_0.length l0_0) (hc0 : l0_0.length ≤ c0) (a1 : Int) (wf1 : (Lit.int .i64 a1).wf = true) :
  Calls Tryz.prog 11 #[.agg #[.slice A0 l0_0.length c0], .int .i64 a1] w fun e w' => e = .returned (.bool true) ∧ Below w.heap.size w w' := by
 obtain ⟨k0, c, hz, hP⟩ := P l0_0 a1 hr0.2.1 (by
  intro x hx
  obtain ⟨i, hi, rfl⟩ := List.getElem_of_mem hx
  obtain ⟨_, _, _, _, _, _, _, h9⟩ := at_T90 hr0 (i : Int) (by omega) (by omega)
  have h8 := h9.2.1
  unfold rd_T90 at h8
  rw [Int.toNat_natCast, List.getD_eq_getElem?_getD, List.getElem?_eq_getElem hi] at h8
  exact h8)
 have hu24 := Tryz.underlying24
 have hu33 := Tryz.underlying33
 have HZ := aM_ (fun (W : World) (hb : Below w.heap.size w W) => laws_szMachine.calls k0 A0 c0 l0_0 1048576 c W (laws_FnExactBehindState.C_below hr0 hb) hc0 hz)
 have HR := aM_ hr0
 have HC := aM_ hc0
 clear hr0 hc0 hz P wf1
 have h1n : (w.alloc (.cells #[.slice A0 l0_0.length c0] 24 (0, 0))).heap[w.heap.size]? = some (.cells #[.slice A0 l0_0.length c0] 24 (0, 0)) := blk_new _ _
 have hbn : Below w.heap.size w (w.alloc (.cells #[.slice A0 l0_0.length c0] 24 (0, 0))) := (Below.refl w.heap.size w).alloc (Nat.le_refl _) _
 have H1 := aM_ (And.intro h1n hbn)
 clear h1n hbn
 rcases hP with hneg | ⟨hneg, k, tx, tx2, r1, r1m, r2, kx, m, hA⟩
 ·
  have c3 : decide (c < 0) = true := dT_ hneg
  clear hneg
  go_enter Tryz.func11, Tryz.ntmps11
  go_wp2_with fail
  refine (HZ.out _ H1.out.2).mono ?_
  rintro e w1 ⟨rfl, hb⟩
  have HB := aM_ (bT_ H1.out.2 hb)
  clear hb
  go_wp2_with fail
  go_ret
  exact ⟨rfl, HB.out⟩
 have c3 : decide (c < 0) = false := dF_ hneg
 have HA := aM_ hA
 clear hneg hA
 go_enter Tryz.func11, Tryz.ntmps11
 go_wp2_with fail
 refine (HZ.out _ H1.out.2).mono ?_
 rintro e w1 ⟨rfl, hb⟩
 have HB := aM_ (And.intro (bB_ H1.out.1 hb) (bT_ H1.out.2 hb))
 clear hb H1 HZ
 have h1c : w1.cell? ⟨w.heap.size, 0, none⟩ = some (.slice A0 l0_0.length c0) := (bC_ HB.out.1 0).trans rfl
 go_wp2_with fail
 refine (laws_toMachine.calls k _ _ l0_0 tx _ (laws_FnExactBehindState.C_below HR.out HB.out.2) HC.out HA.out.hto).mono ?_
 rintro e w2 ⟨v0, rfl, ho, hb⟩
 have HB2 := aM_ (And.intro (bB_ HB.out.1 hb) (bT_ HB.out.2 hb))
 obtain ⟨A1, c1, e1⟩ := Kd.S_slice ho
 subst e1
 have HO := aM_ ho
 clear ho hb HB h1c
 go_wp2_with fail
 refine (spec_BehindState.calls k _ _ tx a1 r1 r2 _ (Kd.S_reads' HO.out).2.2 (Kd.S_reads' HO.out).2.1 HA.out.sp).mono ?_
 rintro e w3 ⟨vW, rfl, hs, hb⟩
 obtain ⟨A2, c2, e2⟩ := kS_ hs
 subst e2
 have hlt := bL_ (bB_ HB2.out.1 hb)
 have h4 : laws_FnExactBehindState.I4 w w3 A0 l0_0.length c0 w3.heap.size (.slice A2 r1.length c2) r1 := ⟨bB_ HB2.out.1 hb, kM_ (Kd.R_bound (k5_ hs (bZ_ HB2.out.2))) (fun k hk => hk.2.2.1), bT_ HB2.out.2 hb, hlt⟩
 have H4 := aM_ h4
 clear hs hb HB2 HO h4 hlt
 have h1c : w3.cell? ⟨w.heap.size, 0, none⟩ = some (.slice A0 l0_0.length c0) := (bC_ H4.out.h1 0).trans rfl
 go_wp2_with fail
 refine (laws_toMachine.calls k _ _ l0_0 tx _ (laws_FnExactBehindState.C_below HR.out H4.out.hB) HC.out HA.out.hto).mono ?_
 rintro e w4 ⟨vX, rfl, ho, hb⟩
 have H5 := aM_ (H4.out.below hb)
 obtain ⟨A3, c3, e3⟩ := Kd.S_slice ho
 subst e3
 have HX := aM_ (show Kd.S k72 72 w4 w.heap.size (fun k => w3.heap.size ≤ k ∧ k < w4.heap.size) (.slice A3 tx.length c3) tx from Kd.S_lower (Kd.S_mono (Kd.S_bound ho) (fun k hk => ⟨hk.2.1, hk.2.2.1⟩)) (bZ_ H4.out.hB))
 have HLT := aM_ (bZ_ hb)
 clear ho hb H4 h1c
 have h6 : (w4.alloc (.cells #[.slice A3 tx.length c3] 33 (0, 0))).heap[w4.heap.size]? = some (.cells #[.slice A3 tx.length c3] 33 (0, 0)) := blk_new _ _
 have H6 := aM_ h6
 have h6c : (w4.alloc (.cells #[.slice A3 tx.length c3] 33 (0, 0))).cell? ⟨w4.heap.size, 0, none⟩ = some (.slice A3 tx.length c3) := (bC_ H6.out 0).trans rfl
 clear h6
 have HX6 := aM_ (Kd.S_alloc HX.out (.cells #[.slice A3 tx.length c3] 33 (0, 0)))
 have H56 := aM_ (H5.out.below ((Below.refl w4.heap.size w4).alloc (Nat.le_refl _) (.cells #[.slice A3 tx.length c3] 33 (0, 0))))
 clear HX H5
 go_wp2_with fail
 refine (impl_BehindState.calls k _ _ tx a1 r1 r2 _ (Kd.S_reads' HX6.out).2.2 (Kd.S_reads' HX6.out).2.1 HA.out.im).mono ?_
 rintro e w5 ⟨vG, rfl, hs, hb⟩
 obtain ⟨A4, c4, e4⟩ := kS_ hs
 subst e4
 have hbs := bZ_ hb
 have HL5 := aM_ (show w4.heap.size < w5.heap.size by simp at hbs; omega)
 have HX7 := aM_ (Kd.S_below HX6.out hb)
 have H6b := b5_ H6 hb
 have h7 : laws_FnExactBehindState.I7 w w5 A0 l0_0.length c0 w3.heap.size w4.heap.size w5.heap.size (fun k => w4.heap.size < k ∧ k < w5.heap.size) (.slice A2 r1.length c2) (.slice A4 r1.length c4) r1 r1 := ⟨H56.out.below hb, k5_ (kM_ (Kd.R_bound hs) (fun k hk => ⟨by have := hk.2.1; simp at this; omega, hk.2.2.1⟩)) (bZ_ H56.out.hB), HLT.out, HL5.out⟩
 have H7 := aM_ h7
 clear h7 hs hb hbs HX6 H56 H6 h6c
 have er2 : (r2 != r2) = false := by simp
 go_wp2_with fail
 refine (laws_eqStringS.calls k _ _ r1 _ _ r1 true _ (kR_ H7.out.hG).2.2 (kR_ H7.out.hG).2.1 (kR_ H7.out.i4.hW).2.2 (kR_ H7.out.i4.hW).2.1 HA.out.eqm).mono ?_
 rintro e w6 ⟨rfl, hb0⟩
 have hb : Below w5.heap.size w5 w6 := by first | exact hb0 | exact hb0.below
 have H8 := aM_ (H7.out.below hb)
 have HX8 := aM_ (Kd.S_below HX7.out hb)
 have H6c := b5_ H6b hb
 clear hb hb0 H7 HX7 H6b
 go_wp2_with fail
 have H9 := aM_ (H8.out.below (bD_ (Below.refl w6.heap.size w6)))
 have HX9 := aM_ (Kd.S_drew HX8.out)
 have H6d := aM_ (b1_ H6c.out)
 clear H8 HX8 H6c
 refine start_ (n := 5) (S := fun w' => w'.cell? ⟨w4.heap.size, 0, none⟩ = some (.slice A3 tx.length c3) ∧ w'.cell? ⟨w.heap.size, 0, none⟩ = some (.slice A0 l0_0.length c0)) (ds := []) #[fy, fy, fy, fy, fy] (by kernel_rfl) rfl rfl ⟨(bC_ H6d.out 0).trans rfl, (bC_ H9.out.i4.h1 0).trans rfl⟩ (fun hHeld => ?_)
 generalize w6.drew = w7 at H9 HX9 H6d hHeld ⊢
 refine take_ (i := 0) (N := some 45) (v := ?_) (a' := ?_) #[ty, fy, fy, fy, fy] rfl rfl (by kernel_rfl) (fun _ _ _ h => h) (Or.inl ⟨by rfl, ?_⟩) hHeld ?_ ?_; rotate_left; (rintro w' ⟨s0, s1⟩; go_simp; with_reducible rfl); rotate_left; (simp only [Act.put, sA_, sB_, sC_, i6_, i3_]; rfl)
 refine take_ (i := 1) (N := some 46) (v := ?_) (a' := ?_) #[ty, ty, fy, fy, fy] rfl rfl (by kernel_rfl) (fun _ _ _ h => h) (Or.inl ⟨by rfl, ?_⟩) hHeld ?_ ?_; rotate_left; (rintro w' ⟨s0, s1⟩; go_simp; with_reducible rfl); rotate_left; (simp only [Act.put, sA_, sB_, sC_, i6_, i3_]; rfl)
 refine one_ (i := 2) (N := some 47) #[ty, ty, ty, fy, fy] rfl rfl (by kernel_rfl) (by decide) (fun K hK => ?_)
 refine goes_ Tryz.func15 (by kernel_rfl) rfl #[.agg #[.slice A0 l0_0.length c0]] (by rfl) rfl rfl (by (try simp only [sD_, sE_, sF_]); first | done | rfl) ?_
 refine (laws_toMachine.calls k _ _ l0_0 tx _ (laws_FnExactBehindState.C_below HR.out H9.out.i4.hB) HC.out HA.out.hto).mono ?_
 rintro e w8 ⟨vY, rfl, ho, hb⟩
 refine ⟨_, rfl, ?_⟩
 obtain ⟨A5, c5, e5⟩ := Kd.S_slice ho
 subst e5
 have HY := aM_ ho
 have H10 := aM_ (H9.out.below hb)
 have HX10 := aM_ (Kd.S_below HX9.out hb)
 have H6e := b5_ H6d hb
 clear ho hb H9 HX9 H6d hHeld
 refine hK.out _ _ ⟨(bC_ H6e.out 0).trans rfl, (bC_ H10.out.i4.h1 0).trans rfl⟩ (fun hHeld => ?_)
 clear hK K
 refine norm_ (by show Act.put _ (some 47) _ = _; simp only [Act.put, sA_, sB_, sC_, i6_, i3_]; rfl) ?_
 refine one_ (i := 3) (N := some 48) #[ty, ty, ty, ty, fy] rfl rfl (by kernel_rfl) (by decide) (fun K hK => ?_)
 refine goes_ Tryz.func18 (by kernel_rfl) rfl #[.agg #[.slice A3 tx.length c3], .agg #[.slice A5 tx.length c5]] (by rfl) rfl rfl (by (try simp only [sD_, sE_, sF_]); first | done | rfl) ?_
 refine (laws_eqMachine.calls k _ _ tx _ _ tx true _ (Kd.S_reads' HX10.out).2.2 (Kd.S_reads' HX10.out).2.1 (Kd.S_reads' HY.out).2.2 (Kd.S_reads' HY.out).2.1 HA.out.eqt).mono ?_
 rintro e w9 ⟨rfl, hb⟩
 refine ⟨_, rfl, ?_⟩
 have H11 := aM_ (H10.out.below hb)
 have HX11 := aM_ (Kd.S_below HX10.out hb)
 have H6f := b5_ H6e hb
 clear hb H10 HX10 H6e hHeld HY
 refine hK.out _ _ ⟨(bC_ H6f.out 0).trans rfl, (bC_ H11.out.i4.h1 0).trans rfl⟩ (fun hHeld => ?_)
 clear hK K
 refine norm_ (by show Act.put _ (some 48) _ = _; simp only [Act.put, sA_, sB_, sC_, i6_, i3_]; rfl) ?_
 refine pure_ (i := 4) (N := some 49) (v := ?_) (a' := ?_) #[ty, ty, ty, ty, ty] rfl rfl (by kernel_rfl) (fun _ _ _ h => h) (Or.inl ⟨by rfl, ?_⟩) ?_ ?_; rotate_left; (intro w'; go_simp; with_reducible rfl); rotate_left; (simp only [Act.put, sA_, sB_, sC_, i6_, i3_]; rfl)
 refine done_ (by kernel_rfl) ?_
 clear hHeld
 have h6c : w9.cell? ⟨w4.heap.size, 0, none⟩ = some (.slice A3 tx.length c3) := (bC_ H6f.out 0).trans rfl
 go_wp2_with fail
 refine (laws_markMachine.calls (fun k => w3.heap.size ≤ k ∧ k < w4.heap.size) (.slice A3 tx.length c3) tx 1 kx tx2 w w9 H11.out.i4.hB HX11.out HA.out.mkt).mono ?_
 rintro e w10 ⟨rfl, _, hb, hk⟩
 have H12 := aM_ (H11.out.kept hk hb (fun k z => z))
 clear hb hk H11 HX11 H6f h6c
 have ck : decide (kx < 0) = false := dF_ HA.out.kpos
 go_wp2_with fail
 refine (laws_eqStringS.calls k _ _ r1 _ _ r1 true _ (kR_ H12.out.hG).2.2 (kR_ H12.out.hG).2.1 (kR_ H12.out.i4.hW).2.2 (kR_ H12.out.i4.hW).2.1 HA.out.eqm).mono ?_
 rintro e w11 ⟨rfl, hb0⟩
 have hb : Below w10.heap.size w10 w11 := by first | exact hb0 | exact hb0.below
 have H13 := aM_ (H12.out.below hb)
 clear hb hb0 H12
 go_wp2_with fail
 refine (laws_markStringS.calls k (fun k => w4.heap.size < k ∧ k < w5.heap.size) (.slice A4 r1.length c4) r1 1 m r1m w w11 H13.out.i4.hB H13.out.hG HA.out.mkm).mono ?_
 rintro e w12 ⟨rfl, hg, hb, hk⟩
 have hlen : r1m.length = r1.length := ((kR_ hg).1).symm
 have h14 : laws_FnExactBehindState.I7 w w12 A0 l0_0.length c0 w3.heap.size w4.heap.size w5.heap.size (fun k_ => ((w4.heap.size < k_ ∧ k_ < w5.heap.size) ∨ w11.heap.size ≤ k_)) (.slice A2 r1.length c2) (.slice A4 r1.length c4) r1 r1m := ⟨H13.out.i4.kept hk hb (fun k z => by have := H13.out.lo; omega), hg, H13.out.lo⟩
 have H14 := aM_ h14
 have HLN := aM_ hlen
 clear h14 hg hb hk hlen H13
 go_wp2_with fail
 have hh := fun (W : World) (hC : Kd.C (Kd.string) W A4 r1m.length r1m) (hc : r1m.length ≤ c4) => laws_heldStringS.calls k A4 c4 r1m 1 m W hC hc HA.out.hem
 rw [HLN.out] at hh
 have HH := aM_ hh
 clear hh
 refine (HH.out w12 (by rw [← HLN.out]; exact (kR_ H14.out.hG).2.2) (kR_ H14.out.hG).2.1).mono ?_
 rintro e w13 ⟨rfl, hb0⟩
 have hb : Below w12.heap.size w12 w13 := by first | exact hb0 | exact hb0.below
 have H15 := aM_ (H14.out.below hb)
 clear hb hb0 H14
 have cm : decide (m < 0) = false := dF_ HA.out.mpos
 have cmm : (m != m) = false := by simp
 have h1c : w13.cell? ⟨w.heap.size, 0, none⟩ = some (.slice A0 l0_0.length c0) := (bC_ H15.out.i4.h1 0).trans rfl
 go_wp2_with fail
 refine (laws_toMachine.calls k _ _ l0_0 tx _ (laws_FnExactBehindState.C_below HR.out H15.out.i4.hB) HC.out HA.out.hto).mono ?_
 rintro e w14 ⟨v6, rfl, ho, hb⟩
 obtain ⟨A6, c6, e6⟩ := Kd.S_slice ho
 subst e6
 have HO6 := aM_ ho
 have H16 := aM_ (H15.out.below hb)
 clear ho hb H15 h1c
 go_wp2_with fail
 refine (impl_BehindState.calls k _ _ tx a1 r1 r2 _ (Kd.S_reads' HO6.out).2.2 (Kd.S_reads' HO6.out).2.1 HA.out.im).mono ?_
 rintro e w15 ⟨v7, rfl, hs, hb⟩
 obtain ⟨A7, c7, e7⟩ := kS_ hs
 subst e7
 have HS7 := aM_ hs
 have H17 := aM_ (H16.out.below hb)
 clear hs hb H16 HO6
 go_wp2_with fail
 refine (laws_eqStringS.calls k _ _ r1 _ _ r1 true _ (kR_ HS7.out).2.2 (kR_ HS7.out).2.1 (kR_ H17.out.i4.hW).2.2 (kR_ H17.out.i4.hW).2.1 HA.out.eqm).mono ?_
 rintro e w16 ⟨rfl, hb0⟩
 have hb : Below w15.heap.size w15 w16 := by first | exact hb0 | exact hb0.below
 have H18 := aM_ (H17.out.below hb)
 clear hb hb0 H17 HS7
 go_wp2_with fail
 refine (HH.out w16 (by rw [← HLN.out]; exact (kR_ H18.out.hG).2.2) (kR_ H18.out.hG).2.1).mono ?_
 rintro e w17 ⟨rfl, hb0⟩
 have hb : Below w16.heap.size w16 w17 := by first | exact hb0 | exact hb0.below
 have H19 := aM_ (H18.out.below hb)
 clear hb hb0 H18
 go_wp2_with fail
 go_ret
 exact ⟨rfl, H19.out.i4.hB⟩
end Go.Proofs.YtnnkedeohfbkeaaGreatDoor.P
namespace Go.Proofs.YtnnkedeohfbkeaaGreatDoor.L
open Go.RowKit Go.Proofs.YtnnkedeohfbkeaaGreatDoor.P Go.Proofs.YtnnkedeohfbkeaaGreatDoor.M Go.Proofs.YtnnkedeohfbkeaaGreatDoorW.PrintWords Go.Proofs.YtnnkedeohfbkeaaGreatDoorW.PrintLast Go.Proofs.YtnnkedeohfbkeaaGreatDoorW.PrintMore
namespace Mach
theorem index_int (l : List Int) (x : Int) (hl : l.length ≤ 1000000) (h : x ∈ l) : ∃ j : Nat, j < l.length ∧ rd l (j : Int) = x ∧ Ev (fun k => slices_Index_int_int.f k l x) (j : Int) := by
 have loop : ∀ d i, i + d = l.length → x ∈ l.drop i → ∃ j : Nat, j < l.length ∧ rd l (j : Int) = x ∧ Ev (fun k => slices_Index_int_int.l0 k l x (l.length : Int) (i : Int)) (j : Int) := by
  intro d
  induction d with
  | zero =>
   intro i hi hm
   rw [List.drop_eq_nil_of_le (by omega)] at hm
   cases hm
  | succ d ih =>
   intro i hi hm
   have hil : i < l.length := by omega
   by_cases e : x = rd l (i : Int)
   ·
    exact ⟨i, hil, e.symm, Ev.step (fun k => slices_Index_int_int.l0.eq_2 ..) (Ev.ifT (by omega) (Ev.ifT (by omega) (Ev.ifT (by omega) (Ev.ifT e (Ev.now _)))))⟩
   rw [List.drop_eq_getElem_cons hil] at hm
   have hm2 : x ∈ l.drop (i + 1) := by
    rcases List.mem_cons.1 hm with k | k
    ·
     exact absurd (by rw [rd_nat, getD_lt 0 hil]; exact k) e
    exact k
   obtain ⟨j, j1, j2, j3⟩ := ih (i + 1) (by omega) hm2
   refine ⟨j, j1, j2, Ev.step (fun k => slices_Index_int_int.l0.eq_2 ..) (Ev.ifT (by omega) (Ev.ifT (by omega) (Ev.ifT (by omega) (Ev.ifF e ?_))))⟩
   rw [wrap64_succ i (by omega)]
   exact j3
 unfold slices_Index_int_int.f
 exact loop l.length 0 (by omega) (by rw [List.drop_zero]; exact h)
theorem st_at {ws : List Txt} {a : Int} (h0 : 0 ≤ a) (h1 : a ≤ ((machW ws).length : Int) - 1) : ∃ b, b ∈ dL ws ∧ ((dL ws).idxOf b : Int) = a := by
 rw [machW_length] at h1
 have h2 : a.toNat < (dL ws).length := by omega
 refine ⟨(dL ws)[a.toNat], List.getElem_mem h2, ?_⟩
 have hn : (dL ws).Nodup := by rw [← fL_all]; exact fL_nodup ws _
 rw [idxOf_nodup hn a.toNat h2]
 omega
theorem idx_inj {ws : List Txt} {a b : List Txt} (ha : a ∈ dL ws) (hb : b ∈ dL ws) (h : ((dL ws).idxOf a : Int) = ((dL ws).idxOf b : Int)) : a = b := by
 have h1 := idx_get ha
 have h2 := idx_get hb
 have h3 : (dL ws).idxOf a = (dL ws).idxOf b := by omega
 rw [h3, h2] at h1
 exact (Option.some.inj h1).symm
theorem cnt_dL {ws : List Txt} (h : OkW ws) {b : List Txt} (hb : b ∈ dL ws) : cntL 12 b ≤ 481 := by
 obtain ⟨p, _, rfl⟩ := mem_dL.1 hb
 exact cntL_ok h p
theorem prefixOf_ev {ws : List Txt} (h : OkW ws) {b : List Txt} (hb : b ∈ dL ws) : ∃ p, p ∈ preL ws ∧ behL ws p = b ∧ Ev (fun k => impl_Machine_prefixOf.f k (machW ws) (trN (preL ws) ws) ((dL ws).idxOf b : Int)) (B p) := by
 have hP := h.pre
 obtain ⟨q, hq, hqb⟩ := mem_dL.1 hb
 obtain ⟨z1, z2⟩ := placeL_mem hq
 have hm : ((dL ws).idxOf b : Int) ∈ idsW ws (preL ws).length := by
  have e := idsW_get (ws := ws) z1
  rw [resL_get z1, z2, hqb, rd_nat, getD_lt 0 (by rw [idsW_length]; exact z1)] at e
  rw [← e]
  exact List.getElem_mem _
 obtain ⟨j, j1, j2, j3⟩ := index_int _ _ (by rw [idsW_length]; omega) hm
 rw [idsW_length] at j1
 rw [idsW_get j1] at j2
 have hbj := idx_inj (res_mem j1) hb j2
 rw [resL_get j1] at hbj
 refine ⟨(preL ws).getD j [], getD_mem j1, hbj, ?_⟩
 unfold impl_Machine_prefixOf.f
 refine Ev.bind (prefixes_tr h) (Ev.bind (machine_ev h) (Ev.bind j3 (Ev.ifT (by omega) (Ev.ifT (by rw [List.length_map]; omega) ?_))))
 rw [rdB _ j j1]
 exact Ev.now _
theorem behind_both (m : List Stt) (a : Int) (hx : ∀ x ∈ m, x.f1.length ≤ 1048576) : ∃ (L : List Txt) (ok : Bool), Ev (fun k => spec_BehindState.f k m a) (L.map B, ok) ∧ Ev (fun k => impl_BehindState.f k m a) (L.map B, ok) ∧ L.length ≤ 481 ∧ (∀ w ∈ L, w.length ≤ 12) ∧ (ok = false → L = []) := by
 unfold spec_BehindState.f impl_BehindState.f
 have no : ∀ m t, Ev (fun k => impl_BehindState.j0 k a true m t) (([] : List Txt).map B, false) := fun m t => Ev.step (fun k => impl_BehindState.j0.eq_2 ..) (Ev.ifT rfl (Ev.now _))
 rcases mach_both m hx with ⟨ws, h, rfl, h1, h2⟩ | ⟨h1, h2⟩
 ·
  have hd := dL_length h
  have e1 : wrap64 (((machW ws).length : Int) - 1) = ((machW ws).length : Int) - 1 := wrap64_id (by omega) (by rw [machW_length]; omega)
  by_cases ha : 0 ≤ a ∧ a ≤ ((machW ws).length : Int) - 1
  ·
   obtain ⟨b, hb, rfl⟩ := st_at ha.1 ha.2
   obtain ⟨p, hp, hpb, he⟩ := prefixOf_ev h hb
   have hr := dL_res h hb
   have hc := cnt_dL h hb
   have hw := walkW h 12 b [] 0 hr hb (by simp) (by omega)
   rw [map_nilT] at hw
   have hpl := (wordL_iff.1 (preL_word h.word hp)).2
   refine ⟨b, true, Ev.bind h1 (Ev.ifT rfl ?_), Ev.bind h2 (Ev.ifT rfl ?_), Nat.le_trans (len_cnt 12 b hr) hc, hr.len, fun k => by cases k⟩
   ·
    rw [e1, l1In_eq, decide_eq_true ha]
    exact Ev.some_bind (Ev.ifT rfl (Ev.bind hw (Ev.now _)))
   rw [e1, in_eq, decide_eq_true ha]
   refine Ev.some_bind (Ev.step (fun k => impl_BehindState.j0.eq_2 ..) (Ev.ifF Bool.false_ne_true (Ev.bind he (Ev.bind (behind_ev h p (by omega)) ?_))))
   rw [hpb]
   exact Ev.now _
  refine ⟨[], false, Ev.bind h1 (Ev.ifT rfl ?_), Ev.bind h2 (Ev.ifT rfl ?_), by simp, by simp, fun _ => rfl⟩
  ·
   rw [e1, l1In_eq, decide_eq_false ha]
   exact Ev.some_bind (Ev.ifF Bool.false_ne_true (Ev.now _))
  rw [e1, in_eq, decide_eq_false ha]
  exact Ev.some_bind (no _ _)
 exact ⟨[], false, Ev.bind h1 (Ev.ifF Bool.false_ne_true (Ev.now _)), Ev.bind h2 (Ev.ifF Bool.false_ne_true (no _ _)), by simp, by simp, fun _ => rfl⟩
end Mach
end Go.Proofs.YtnnkedeohfbkeaaGreatDoor.L
namespace Go.Proofs.YtnnkedeohfbkeaaGreatDoor.L
open Go.RowKit Go.Proofs.YtnnkedeohfbkeaaGreatDoor.P Go.Proofs.YtnnkedeohfbkeaaGreatDoor.M Go.Proofs.YtnnkedeohfbkeaaGreatDoorW.PrintWords Go.Proofs.YtnnkedeohfbkeaaGreatDoorW.PrintLast Go.Proofs.YtnnkedeohfbkeaaGreatDoorW.PrintMore
theorem markText_loop : ∀ (d n : Nat) (acc : ByteArray), n < 10 ^ d → acc.size + d ≤ 4611686018427387903 → n ≤ 4611686018427387903 → ∃ m, Ev (fun k => laws_markText.l0 k (n : Int) acc) m := by
 intro d
 induction d with
 | zero =>
  intro n acc h1 h2 h3
  have h0 : n = 0 := by simpa using h1
  subst h0
  exact ⟨_, Ev.step (fun k => laws_markText.l0.eq_2 ..) (Ev.ifF (by omega) (Ev.ifT (by omega) (Ev.now _)))⟩
 | succ d ih =>
  intro n acc h1 h2 h3
  by_cases h0 : n = 0
  ·
   subst h0
   exact ⟨_, Ev.step (fun k => laws_markText.l0.eq_2 ..) (Ev.ifF (by omega) (Ev.ifT (by omega) (Ev.now _)))⟩
  have hd : wrap64 (Int.tdiv (n : Int) 10) = ((n / 10 : Nat) : Int) := by
   rw [Int.tdiv_eq_ediv_of_nonneg (by omega), wrap64_id (by omega) (by omega)]; rfl
  have hsz : ∀ x : Int, (strOfNums [x]).size = 1 := fun x => by simp [strOfNums, ← ByteArray.size_data]
  obtain ⟨m, hm⟩ := ih (n / 10) (strOfNums [(wrap64 (48 + (Int.tmod (n : Int) 10))) % 256] ++ acc) (by rw [Nat.pow_succ] at h1; omega) (by rw [ByteArray.size_append, hsz]; omega) (by omega)
  refine ⟨m, Ev.step (fun k => laws_markText.l0.eq_2 ..) (Ev.ifT (by omega) (Ev.some_bind (Ev.ifT (by rw [hsz]; omega) ?_)))⟩
  simpa only [hd] using hm
theorem markText_ex (n : Nat) (h0 : 0 < n) (h : n < 10 ^ 18) : ∃ m, Ev (fun k => laws_markText.f k (n : Int)) m := by
 obtain ⟨m, hm⟩ := markText_loop 18 n ⟨#[]⟩ h (by decide) (by omega)
 exact ⟨m, Ev.congr (fun k => by unfold laws_markText.f; rw [if_neg (by omega)]) hm⟩
open Classical in
noncomputable def mt (n : Nat) : ByteArray := if h : ∃ m, Ev (fun k => laws_markText.f k (n : Int)) m then Classical.choose h else ⟨#[]⟩
theorem mt_ev (n : Nat) (h0 : 0 < n) (h : n < 10 ^ 18) : Ev (fun k => laws_markText.f k (n : Int)) (mt n) := by
 have hx := markText_ex n h0 h
 unfold mt
 rw [dif_pos hx]
 exact Classical.choose_spec hx
theorem eqStringS_loop (l m : List Txt) (hl : l.length ≤ 4611686018427387903) (h : l.length = m.length) : ∀ (d n : Nat), n + d = l.length → Ev (fun k => laws_eqStringS.l0 k (l.map B) (m.map B) (n : Int)) (decide (l.drop n = m.drop n)) := by
 intro d
 induction d with
 | zero =>
  intro n hn
  refine Ev.step (fun k => laws_eqStringS.l0.eq_2 ..) (Ev.ifF (by simp; omega) ?_)
  rw [List.drop_of_length_le (by omega), List.drop_of_length_le (by omega)]; simpa using Ev.now true
 | succ d ih =>
  intro n hn
  have h1 : n < l.length := by omega
  refine Ev.step (fun k => laws_eqStringS.l0.eq_2 ..) (Ev.ifT (by simp; omega) (Ev.ifT (by omega) (Ev.ifT (by simp; omega) ?_)))
  rw [drop_cons_getD [] h1, drop_cons_getD [] (show n < m.length from by omega)]
  simp only [rdB l n h1, rdB m n (by omega), toList_B]
  by_cases e : l.getD n [] = m.getD n []
  ·
   refine Ev.ifT e ?_
   simpa only [wrap64_succ n (by omega), e, List.cons.injEq, true_and] using ih (n + 1) (by omega)
  refine Ev.ifF e ?_
  simpa only [e, List.cons.injEq, false_and, decide_false] using Ev.now false
theorem eqStringS_ev (l : List ByteArray) (hl : l.length ≤ 4611686018427387903) : Ev (fun k => laws_eqStringS.f k l l) true := by
 obtain ⟨l, rfl⟩ := exBs l
 refine Ev.congr (fun k => by unfold laws_eqStringS.f; rw [if_pos (by rfl)]) ?_
 simpa using eqStringS_loop l l (by simpa using hl) rfl l.length 0 (by omega)
noncomputable def marksT (n : Nat) (l : List ByteArray) : List ByteArray := (List.range n).map (fun j : Nat => mt (j + 1)) ++ l.drop n
theorem marksT_length (n : Nat) (l : List ByteArray) (h : n ≤ l.length) : (marksT n l).length = l.length := by simp [marksT]; omega
theorem marksT_set (n : Nat) (l : List ByteArray) (h : n < l.length) : (marksT n l).set n (mt (n + 1)) = marksT (n + 1) l := by
 unfold marksT
 rw [List.set_append_right _ _ (by simp), show ((List.range n).map fun j : Nat => mt (j + 1)).length = n from by simp, Nat.sub_self, drop_cons_getD ByteArray.empty h, List.set_cons_zero, List.range_succ, List.map_append, List.append_assoc]
 rfl
theorem markStringS_loop (l : List ByteArray) (hl : l.length ≤ 1000000000) : ∀ (d n : Nat), n + d = l.length → Ev (fun k => laws_markStringS.l0 k (marksT n l) ((n : Int) + 1) (n : Int)) ((l.length : Int) + 1, marksT l.length l) := by
 intro d
 induction d with
 | zero =>
  intro n hn
  refine Ev.step (fun k => laws_markStringS.l0.eq_2 ..) (Ev.ifF (by rw [marksT_length n l (by omega)]; omega) ?_)
  rw [show n = l.length from by omega]; exact Ev.now _
 | succ d ih =>
  intro n hn
  refine Ev.step (fun k => laws_markStringS.l0.eq_2 ..) (Ev.ifT (by rw [marksT_length n l (by omega)]; omega) (Ev.bind (mt_ev (n + 1) (by omega) (by omega)) (Ev.ifT (by omega) ?_)))
  have := ih (n + 1) (by omega)
  rw [← marksT_set n l (by omega)] at this
  rw [show wrap64 ((n : Int) + 1 + 1) = ((n + 1 : Nat) : Int) + 1 from by rw [wrap64_id (by omega) (by omega)]; omega]
  simpa only [Int.toNat_natCast, wrap64_succ n (by omega)] using this
theorem markStringS_ev (l : List ByteArray) (hl : l.length ≤ 1000000000) : Ev (fun k => laws_markStringS.f k l 1) ((l.length : Int) + 1, marksT l.length l) := by
 have := markStringS_loop l hl l.length 0 (by omega)
 simpa [laws_markStringS.f, marksT] using this
theorem marksT_rd (n : Nat) (l : List ByteArray) (j : Nat) (h : j < n) : rdOf ByteArray.empty (marksT n l) (j : Int) = mt (j + 1) := by
 simp [marksT, rdOf, List.getElem?_append, h]
theorem heldStringS_loop (l : List ByteArray) (hl : l.length ≤ 1000000000) : ∀ (d n : Nat), n + d = l.length → Ev (fun k => laws_heldStringS.l0 k (marksT l.length l) ((n : Int) + 1) (n : Int)) ((l.length : Int) + 1) := by
 intro d
 induction d with
 | zero =>
  intro n hn
  refine Ev.step (fun k => laws_heldStringS.l0.eq_2 ..) (Ev.ifF (by rw [marksT_length _ l (by omega)]; omega) ?_)
  rw [show n = l.length from by omega]; exact Ev.now _
 | succ d ih =>
  intro n hn
  refine Ev.step (fun k => laws_heldStringS.l0.eq_2 ..) (Ev.ifT (by rw [marksT_length _ l (by omega)]; omega) (Ev.ifT (by omega) (Ev.bind (mt_ev (n + 1) (by omega) (by omega)) (Ev.ifT (by rw [marksT_rd _ _ _ (by omega)]) ?_))))
  rw [show wrap64 ((n : Int) + 1 + 1) = ((n + 1 : Nat) : Int) + 1 from by rw [wrap64_id (by omega) (by omega)]; omega]
  simpa only [wrap64_succ n (by omega)] using ih (n + 1) (by omega)
theorem heldStringS_ev (l : List ByteArray) (hl : l.length ≤ 1000000000) : Ev (fun k => laws_heldStringS.f k (marksT l.length l) 1) ((l.length : Int) + 1) := by
 simpa [laws_heldStringS.f] using heldStringS_loop l hl l.length 0 (by omega)
end Go.Proofs.YtnnkedeohfbkeaaGreatDoor.L
namespace Go.Proofs.YtnnkedeohfbkeaaGreatDoor.Pure
open Go.RowKit Go.Proofs.YtnnkedeohfbkeaaGreatDoor.P Go.Proofs.YtnnkedeohfbkeaaGreatDoor.M Go.Proofs.YtnnkedeohfbkeaaGreatDoorW.PrintWords Go.Proofs.YtnnkedeohfbkeaaGreatDoorW.PrintLast Go.Proofs.YtnnkedeohfbkeaaGreatDoorW.PrintMore
open Go.Proofs.YtnnkedeohfbkeaaGreatDoor.L
open Mach
theorem FnExactBehindState : laws_FnExactBehindState.Pure := by
 intro l a hl hx
 obtain ⟨c, ⟨k0, hc⟩, hr⟩ := szMachine_ev l hl hx
 refine ⟨k0, c, hc k0 (Nat.le_refl _), ?_⟩
 rcases hr with hneg | ⟨h0, h1, h2⟩
 ·
  exact .inl hneg
 refine .inr ⟨by omega, ?_⟩
 obtain ⟨L, ok, b1, b2, b3, _, _⟩ := behind_both (toM l) a (toM_edges h2)
 have hL : (L.map B).length ≤ 481 := by rw [List.length_map]; exact b3
 obtain ⟨k1, e1⟩ := toMachine_ev l h1 h2
 obtain ⟨k2, e2⟩ := b1
 obtain ⟨k3, e3⟩ := b2
 obtain ⟨k4, e4⟩ := eqStringS_ev (L.map B) (by omega)
 obtain ⟨k5, e5⟩ := MMk.eqMachine_ev (toM l) (by rw [toM_length]; omega) (fun x hx => by have := toM_edges h2 x hx; omega)
 obtain ⟨k6, e6⟩ := markStringS_ev (L.map B) (by omega)
 obtain ⟨k7, e7⟩ := heldStringS_ev (L.map B) (by omega)
 let k := k1 + k2 + k3 + k4 + k5 + k6 + k7
 obtain ⟨m1, m2⟩ := MMk.mark_big (l := toM l) (by rw [toM_length]; omega) (toM_edges h2)
 exact ⟨k, toM l, _, L.map B, _, ok, _, _, ⟨e1 k (by omega), e2 k (by omega), e3 k (by omega), e4 k (by omega), e5 k (by omega), m1, by omega, e6 k (by omega), e7 k (by omega), by omega⟩⟩
end Go.Proofs.YtnnkedeohfbkeaaGreatDoor.Pure
namespace Go.Proofs.YtnnkedeohfbkeaaGreatDoor.fnExactBehindState
open Go.ChangeShapes Go.WideShapes Go.ChangeAt Go.RowKit Go.Proofs.YtnnkedeohfbkeaaGreatDoor.P
open Go.ChangeMaps (open_string shut_string)
def laidL : List (String × DataW Unit) := [("unicode/utf8.acceptRanges", Rows.laid_unicode_utf8_acceptRanges), ("unicode/utf8.first", Rows.laid_unicode_utf8_first)]
theorem own : ownKnob Tryz.prog.godebug = none := by kernel_rfl
theorem laidOut : laidOutB Tryz.prog = true := by kernel_rfl
theorem lifted (os : Os) (started : os.Started) (H : Type) (enc : TypeId × Value → H) :
    ReturnsInHanded {} Tryz.checked os 11 .any (fun w args => (Rows.fnExactBehindStateSpec.pre enc Tryz.prog Tryz.f11 [] false w args ∧ laidMetH Tryz.prog laidL w) ∧ sizedMet enc Tryz.prog Tryz.f11 (OpenSpec.ofChange Rows.fnExactBehindStateSpec) false w args) (Rows.fnExactBehindStateSpec.post enc Tryz.prog Tryz.f11 false true false false) := by
  refine returnsInHanded_of_change_and (C := Tryz.checked) (X := fun w _ => laidMetH Tryz.prog laidL w) (fun _ _ _ hh h => h.of_heap hh) own started (by kernel_rfl) Tryz.func11
    (ChangeSpec.witness_shaped (enc := enc) (C := Tryz.checked) (os := os) (X := fun w _ => laidMetH Tryz.prog laidL w) false (World.laidAll Tryz.prog os laidL) #[.agg #[.slice none 0 0], .int .i64 0] 8 (World.laidAll_os _ _ _) (World.shaped_of_ZipB (by kernel_rfl) (by kernel_rfl)) (by kernel_rfl) (by kernel_rfl) (by kernel_rfl)
      (by rw [MakeChecks.laidMetH_plain _ _ _ (by kernel_rfl)]; exact laidMet_laidAll _ (by kernel_rfl) (by kernel_rfl))) ?_
  intro W base args ds gs before hval0 hW hcnd hsz0 hL_ _
  have hsz : (DataW.weightsEach Tryz.prog (Tryz.f11.params.toList ++ Rows.fnExactBehindStateSpec.plain.varTypes Tryz.prog) (ds ++ gs)).all (· ≤ reachBytes) = true := hsz0
  have hval : ∀ (j : Nat) t v, Tryz.f11.params[j]? = some t → args[j]? = some v → Value.okWide Tryz.prog W .any base t v := hval0
  have hW' := hW
  obtain ⟨p, q, hA0, hV, rfl, hfz, hnd⟩ := hW
  have hA : DataW.TrodAll enc Tryz.prog W 0 (fun _ => true) true Tryz.f11.params.toList args.toList ds p := hA0
  rw [Tryz.params11] at hA hval hsz
  obtain ⟨v0, vs0, d0, ds0, p0, q0, hargs, rfl, rfl, h0, r0⟩ := trodAll_cons hA
  obtain ⟨v1, vs1, d1, ds1, p1, q1, rfl, rfl, rfl, h1, r1⟩ := trodAll_cons r0
  obtain ⟨rfl, rfl, rfl⟩ := trodAll_nil r1
  obtain rfl : args = #[v0, v1] := by cases args; simp_all
  obtain ⟨rfl, rfl⟩ := trodVars_none hV
  have k0 := h0
  have lt0 : ∀ x ∈ p0, x.block < W.heap.size := by obtain ⟨m, hm⟩ := k0; exact DataW.trod_lt m _ _ _ hm
  obtain ⟨A0, c0, l0, ev0, hc0, hr0⟩ := OM.machine (hval 0 24 v0 rfl rfl) h0
  subst ev0
  obtain ⟨a1, rfl, rfl, rfl, w1⟩ := open_int Tryz.underlying3 (hval 1 3 v1 rfl rfl) h1
  clear hA0 hval0 hsz0 hsz
  refine (laws_FnExactBehindState.walk Pure.FnExactBehindState W A0 c0 l0 hr0 hc0 a1 w1).mono fun e W' ⟨he, bel⟩ => ?_
  subst he
  exact ⟨_, rfl, _, _, _, [], _, [], hW', trodAll_mk1 (shut_bool Tryz.underlying4 _), (trodAll_cons_mk (Below.trod laidOut (by kernel_rfl) (of_decide_eq_true (by kernel_rfl)) k0 bel lt0) (trodAll_cons_mk (shut_int Tryz.underlying3 w1) trodAll_mk0)), rfl, bel.frame _, fun h => by cases h⟩
theorem over : Rows.fnExactBehindStateRow.holds Tryz.pinned (OpenSpec.ofChange Rows.fnExactBehindStateSpec) :=
  OpenClaim.holds_of_wide 11 Tryz.f11 rfl rfl rfl rfl rfl rfl rfl ⟨rfl, rfl, rfl, rfl, rfl⟩ rfl rfl rfl rfl rfl (by kernel_rfl) Tryz.func11 (by kernel_rfl)
    (of_decide_eq_true (by kernel_rfl)) (by unfold Func.isWrapper; first | (rw [if_pos (by decide +kernel)]; kernel_rfl) | (rw [if_neg (by decide +kernel)]; exact ⟨rfl, rfl⟩))
    (fun os started H enc _ => lifted os started H enc)
theorem proved : Rows.FnExactBehindStateSaid := over
end Go.Proofs.YtnnkedeohfbkeaaGreatDoor.fnExactBehindState
namespace Go.Proofs.YtnnkedeohfbkeaaGreatDoor
theorem fnExactBehindState_holds : Rows.FnExactBehindStateSaid := fnExactBehindState.proved
theorem fnExactBehindState_card : Rows.FnExactBehindStateCardSaid :=
  Claim7.holds_tied_plain_at .later [] [.data, .pinned] true (true, "d24746f385e5a6b2389916c9b9ccdfc43770af261716950c3f87901a77ac8579") false
    fnExactBehindState_holds (fun _ h => by cases h) (by kernel_rfl) (fun _ h => by cases h) fnExactBehindState_row_tie rfl ⟨rfl, rfl⟩ (by kernel_rfl) rfl
    (fun f fn hf hfn => by
      obtain rfl : f = 11 := Option.some.inj ((show Tryz.prog.funcNamed "loop.example/g01243/laws.FnExactBehindState" = some 11 by kernel_rfl).symm.trans hf) |>.symm
      obtain rfl : fn = Tryz.f11 := (Option.some.inj (Tryz.func11.symm.trans hfn)).symm
      exact ⟨by kernel_rfl, fun j t ht => by
        rw [Tryz.params11] at ht
        have hm : t ∈ [24, 3] := by simpa using Array.mem_of_getElem? ht
        have hall : ([24, 3].all fun u => !Tryz.prog.wantsStandIn u) = true := by kernel_rfl
        exact (show Tryz.prog.wantsStandIn t = false by simpa using List.all_eq_true.1 hall t hm)⟩)
    (by kernel_rfl)
end Go.Proofs.YtnnkedeohfbkeaaGreatDoor
