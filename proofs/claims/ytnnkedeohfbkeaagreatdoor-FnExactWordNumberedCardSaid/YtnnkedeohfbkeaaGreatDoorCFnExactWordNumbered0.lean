/-
  Part 1 of the proof that FnExactWordNumbered returns true for every input: the functions that it reaches, each with its contract, and the law.
  Conditions: those of the given statement, no others.
-/
import Derived.Test.YtnnkedeohfbkeaaGreatDoorKMW0
import Derived.Shelf.Abstract
import Derived.Test.YtnnkedeohfbkeaaGreatDoorRows
import Derived.WalkKit
import Derived.ProofKit
import Derived.OpenShut
import Derived.ShutString
import Derived.ChangeOld
import Derived.Below
import Derived.SizedLaws
import Derived.Lay
import Derived.LaidOnce
import Derived.SevenTiedAt
import Derived.Test.YtnnkedeohfbkeaaGreatDoorCards
import Derived.Test.YtnnkedeohfbkeaaGreatDoorTie
import Derived.Test.YtnnkedeohfbkeaaGreatDoorKM0
import Derived.Test.YtnnkedeohfbkeaaGreatDoorKM1
import Derived.Test.YtnnkedeohfbkeaaGreatDoorKM2
import Derived.Test.YtnnkedeohfbkeaaGreatDoorKM3
import Derived.Test.YtnnkedeohfbkeaaGreatDoorKM4
set_option linter.unusedVariables false
set_option linter.unusedSimpArgs false
set_option maxHeartbeats 8000000
set_option maxRecDepth 100000
namespace Go.Proofs.YtnnkedeohfbkeaaGreatDoor.P
open Go.RowKit Go.Proofs.YtnnkedeohfbkeaaGreatDoorW.PrintWords Go.Proofs.YtnnkedeohfbkeaaGreatDoorW.PrintLast Go.Proofs.YtnnkedeohfbkeaaGreatDoorW.PrintMore
attribute [local go_sem] max2_int min2_int max_two min_two max_three min_three max_four min_four
set_option maxHeartbeats 2000000 in
theorem ContainsFuncStr.calls (p : ByteArray → Bool) (g : Nat) (lb : Array Value) (eg : ∀ args w, (callFunc g args).run Tryz.prog w = .ok (.enter g args) w) (A0 : Option Addr) (c0 : Nat) (l0 : List ByteArray) (w : World)
  (hr0 : Kd.C Kd.string w A0 l0.length l0) (hbig : l0.length ≤ 9223372036854775807) (hp : PredBS Tryz.prog g lb Value.string p l0 w) :
  Calls Tryz.prog 112 #[.slice A0 l0.length c0, .func (.func g) #[] lb] w fun e w' => e = .returned (.bool (l0.any p)) ∧ Below w.heap.size w w' := by
 have HC := Aside0.mk (IndexFuncStr.calls p g lb eg A0 c0 l0 w hr0 hbig hp)
 clear hp hr0
 go_enter Tryz.func112, Tryz.ntmps112
 go_wp2_with (go_at_call 134; refine HC.out.mono ?_; rintro e w' ⟨rfl, hb0⟩; have hb := Aside0.mk hb0; clear hb0)
 go_ret
 exact ⟨by rw [← idxByS_any p l0 0]; rfl, hb.out⟩
def impl_isTrie_any.p (x : ByteArray) : Bool := decide ((x.size : Int) > 12)
def impl_isTrie_any.f (l0 : List ByteArray) : Option Bool := some (l0.any impl_isTrie_any.p)
set_option maxHeartbeats 1000000 in
theorem impl_isTrie_any.lit (l0 : List ByteArray) (w : World) : PredBS Tryz.prog 113 #[] Value.string impl_isTrie_any.p l0 w := by
 intro W x _ _
 show Calls Tryz.prog 113 #[.string x] W _
 go_enter Tryz.func113, Tryz.ntmps113
 go_wp2
 go_ret
 exact ⟨rfl, Below.refl _ _⟩
theorem impl_isTrie_any.calls (A0 : Option Addr) (c0 : Nat) (l0 : List ByteArray) (r : Bool) (w : World) (hr0 : Kd.C Kd.string w A0 l0.length l0) (hc0 : l0.length ≤ c0) (h : impl_isTrie_any.f l0 = some r) :
  Calls Tryz.prog 112 #[.slice A0 l0.length c0, .func (.func 113) #[] #[]] w fun e w' => e = .returned (.bool r) ∧ Below w.heap.size w w' := by
 obtain rfl := Option.some.inj h
 exact ContainsFuncStr.calls impl_isTrie_any.p 113 #[] (Go.Proofs.enters_of Tryz.func113 (by kernel_rfl) rfl) A0 c0 l0 w hr0 hr0.2.1 (impl_isTrie_any.lit l0 w)
end Go.Proofs.YtnnkedeohfbkeaaGreatDoor.P
namespace Go.Proofs.YtnnkedeohfbkeaaGreatDoor.P
open Go.RowKit Go.Proofs.YtnnkedeohfbkeaaGreatDoorW.PrintWords Go.Proofs.YtnnkedeohfbkeaaGreatDoorW.PrintLast Go.Proofs.YtnnkedeohfbkeaaGreatDoorW.PrintMore
open Go.Proofs.YtnnkedeohfbkeaaGreatDoorW.PrintWords renaming blk_frozen → bF_, blk_cell → bC_, below_set → bS_, blk_below → bB_, below_step → bT_, pw_below_drewN → bN_, below_size → bZ_, below_drew1 → bD_, below_alloc → bA_, blk_far → bR_, gate_callee → gC_, gate_dst → gD_, box_event → bE_, blk_drew → b1_, blk_put → bP_, blk_drewN → b2_, blk_alloc → b3_, blk_lt → bL_, cell_far → cF_
open Go.Proofs.YtnnkedeohfbkeaaGreatDoorW.PrintLast renaming any_of → aO_, i64_w → i6_, i32_w → i3_, take_ofW → tW_
open Go.Proofs.YtnnkedeohfbkeaaGreatDoorW.PrintWords.Kd renaming R_below → kB_, R_mono → kM_, R_far → kF_, R_reads' → kR_, R_types → kT_, R_slice → kS_, R_celln → kC_, R_alloc → k1_, R_drewN → k2_, R_drew → k3_, C_below → k4_, R_lower → k5_, R_ne → k6_, own_blk → k7_
open Go.Proofs.YtnnkedeohfbkeaaGreatDoorW.PrintWords.LeO renaming none → l0_, bind → l1_, ite → l2_, refl → l3_
open World renaming block_lt_of_cell? → wB_
open _root_.Option renaming bind_eq_some_iff → oB_
open _root_.ByteArray renaming empty → eB_
open List renaming setIfInBounds_toArray → sA_, set_cons_zero → sB_, set_cons_succ → sC_, map_toArray → sD_, map_cons → sE_, map_nil → sF_, length_drop → sG_, length_take → sH_
open Bool renaming true → ty, false → fy
open Aside0 renaming mk → aM_
attribute [local go_sem] max2_int min2_int max_two min_two max_three min_three max_four min_four
def slices_IsSorted_string_string.l0 : Nat → List ByteArray → Int → Option (Bool)
 | 0, _, _ => none
 | k + 1, x0, x3 => if x3 > 0 then (if 0 ≤ x3 then (if x3 < (x0.length : Int) then (if 0 ≤ (wrap64 (x3 - 1)) then (if (wrap64 (x3 - 1)) < (x0.length : Int) then ((cmp_Less_string.f (rdOf eB_ x0 x3) (rdOf eB_ x0 (wrap64 (x3 - 1)))).bind fun t649 => (if t649 = true then (some false) else (slices_IsSorted_string_string.l0 k x0 (wrap64 (x3 - 1))))) else (none)) else (none)) else (none)) else (none)) else (some true)
def slices_IsSorted_string_string.f (k : Nat) (l0 : List ByteArray) : Option (Bool) := slices_IsSorted_string_string.l0 k l0 (wrap64 ((l0.length : Int) - 1))
theorem slices_IsSorted_string_string.mono_l : ∀ k, (∀ y0 y1, LeO (slices_IsSorted_string_string.l0 k y0 y1) (slices_IsSorted_string_string.l0 (k + 1) y0 y1))
 | 0 => fun _ _ r h => by simp [slices_IsSorted_string_string.l0] at h
 | k + 1 => by
  have ih0 := slices_IsSorted_string_string.mono_l k
  intro y0 y1
  unfold slices_IsSorted_string_string.l0
  repeat' with_reducible first | exact ih0 _ _ | exact l3_ _ | exact l0_ _ | refine l2_ ?_ ?_ | refine l1_ ?_ (fun _ => ?_)
theorem slices_IsSorted_string_string.mono : ∀ a0 k, LeO (slices_IsSorted_string_string.f k a0) (slices_IsSorted_string_string.f (k + 1) a0) := by
 intro a0 k
 have ih0 := slices_IsSorted_string_string.mono_l k
 unfold slices_IsSorted_string_string.f
 repeat' with_reducible first | exact ih0 _ _ | exact l3_ _ | exact l0_ _ | refine l2_ ?_ ?_ | refine l1_ ?_ (fun _ => ?_)
theorem slices_IsSorted_string_string.calls (k : Nat) (A0 : Option Addr) (c0 : Nat) (l0 : List ByteArray) (r : Bool) (w : World) (hr0 : Kd.C Kd.string w A0 l0.length l0) (hc0 : l0.length ≤ c0) (h : slices_IsSorted_string_string.f k l0 = some r) :
  Calls Tryz.prog 114 #[.slice A0 l0.length c0] w fun e w' => e = .returned (.bool r) ∧ Drawn0 w w' := by
 have HR0 := aM_ hr0
 have HC0 := aM_ hc0
 clear hr0 hc0
 have H : (slices_IsSorted_string_string.l0 k l0 (wrap64 ((l0.length : Int) - 1))) = some r := h
 clear h
 have H' := aM_ H
 clear H
 go_enter Tryz.func114, Tryz.ntmps114
 go_wp2
 repeat (go_quiet (fail); try go_wp2)
 go_loopg [3] k (fun kq v3 w' => ∃ (x3_1 : Int), v3 = .int .i64 x3_1 ∧ Aside0 (slices_IsSorted_string_string.l0 kq l0 x3_1 = some r) ∧ Aside0 (kq ≤ k) ∧ Drawn0 w w')
 case atStart => exact ⟨(wrap64 ((l0.length : Int) - 1)), (by rfl), H', ⟨Nat.le_refl _⟩, by repeat (first | exact Drawn0.refl _ | apply Drawn0.step)⟩
 clear H'
 obtain ⟨x3_1, rfl, HA, HK1, ⟨m1, rfl⟩⟩ := hrel
 cases gk with
 | zero => exact absurd HA.out (by simp [slices_IsSorted_string_string.l0])
 | succ k1 =>
  have H := HA.out
  clear HA
  simp only [slices_IsSorted_string_string.l0] at H
  by_cases c2 : x3_1 > 0
  rotate_left
  ·
   rw [if_neg c2] at H
   have c2b0 := dF_ c2
   clear c2
   obtain rfl := Option.some.inj H
   go_wp2
   repeat (go_quiet (fail); try go_wp2)
   go_ret
   exact ⟨by rfl, by repeat (first | exact Drawn0.refl _ | apply Drawn0.step)⟩
  rw [if_pos c2] at H
  have c2b0 := dT_ c2
  clear c2
  by_cases c3 : 0 ≤ x3_1
  rotate_left
  ·
   rw [if_neg c3] at H
   exact absurd H (by simp)
  rw [if_pos c3] at H
  have c3b0 := dT_ c3
  clear c3
  by_cases c4 : x3_1 < (l0.length : Int)
  rotate_left
  ·
   rw [if_neg c4] at H
   exact absurd H (by simp)
  rw [if_pos c4] at H
  have c4b0 := dT_ c4
  clear c4
  obtain ⟨ji5, hji5⟩ : ∃ j_ : Int, (wrap64 (x3_1 - 1)) = j_ := ⟨_, rfl⟩
  replace H : (if 0 ≤ (ji5) then (if (ji5) < (l0.length : Int) then ((cmp_Less_string.f (rdOf eB_ l0 x3_1) (rdOf eB_ l0 (ji5))).bind fun t649 => (if t649 = true then (some false) else (slices_IsSorted_string_string.l0 k1 l0 ji5))) else (none)) else (none)) = some r := by first | (rw [hji5] at H; exact H) | (simp only [hji5] at H ⊢; exact H)
  have hji5w : (IntKind.i64.wrap (x3_1 - 1)) = ji5 := (i6_ _).trans hji5
  by_cases c6 : 0 ≤ (ji5)
  rotate_left
  ·
   rw [if_neg c6] at H
   exact absurd H (by simp)
  rw [if_pos c6] at H
  have c6b0 := dT_ c6
  clear c6
  by_cases c7 : (ji5) < (l0.length : Int)
  rotate_left
  ·
   rw [if_neg c7] at H
   exact absurd H (by simp)
  rw [if_pos c7] at H
  have c7b0 := dT_ c7
  clear c7
  replace H := oB_.mp H
  obtain ⟨t649, A80, H⟩ := H
  try dsimp only at H
  have A8 := aM_ A80
  clear A80
  by_cases c9 : t649 = true
  ·
   subst c9
   rw [if_pos rfl] at H
   obtain rfl := Option.some.inj H
   have p647 : 0 ≤ (x3_1 : Int) := oD_ ‹_›
   have q647 : x3_1 < (l0.length : Int) := oD_ ‹_›
   obtain ⟨ad647, e647, hx647_0⟩ := Kd.at_string HR0.out x3_1 p647 q647
   cases e647
   replace p647 := eq_true p647
   replace q647 := eq_true q647
   have p648 : 0 ≤ ((ji5) : Int) := oD_ ‹_›
   have q648 : (ji5) < (l0.length : Int) := oD_ ‹_›
   obtain ⟨ad648, e648, hx648_0⟩ := Kd.at_string HR0.out (ji5) p648 q648
   obtain rfl : ad647 = ad648 := (by injection e648)
   replace p648 := eq_true p648
   replace q648 := eq_true q648
   go_wp2_with (first | (go_at_call 116; (with_reducible refine (cmp_Less_string.calls (rdOf eB_ l0 x3_1) (rdOf eB_ l0 (ji5)) true _ A8.out).mono ?_); rintro e w' ⟨rfl, ⟨nd, rfl⟩⟩; (try first | exact ⟨rfl, _, World.drewN_drewN _ _ _⟩ | exact ⟨rfl, _, Eq.trans (World.drewN_drewN _ _ _) (congrArg (World.drewN _) (Nat.add_assoc _ _ _))⟩)))
   repeat (go_quiet (first | (go_at_call 116; (with_reducible refine (cmp_Less_string.calls (rdOf eB_ l0 x3_1) (rdOf eB_ l0 (ji5)) true _ A8.out).mono ?_); rintro e w' ⟨rfl, ⟨nd, rfl⟩⟩; (try exact ⟨rfl, _, Eq.trans (World.drewN_drewN _ _ _) (congrArg (World.drewN _) (Nat.add_assoc _ _ _))⟩))); try go_wp2_with (first | (go_at_call 116; (with_reducible refine (cmp_Less_string.calls (rdOf eB_ l0 x3_1) (rdOf eB_ l0 (ji5)) true _ A8.out).mono ?_); rintro e w' ⟨rfl, ⟨nd, rfl⟩⟩; (try first | exact ⟨rfl, _, World.drewN_drewN _ _ _⟩ | exact ⟨rfl, _, Eq.trans (World.drewN_drewN _ _ _) (congrArg (World.drewN _) (Nat.add_assoc _ _ _))⟩))))
   go_ret
   exact ⟨by rfl, by repeat (first | exact Drawn0.refl _ | apply Drawn0.step)⟩
  replace c9 := Bool.eq_false_iff.mpr c9
  subst c9
  replace H : (slices_IsSorted_string_string.l0 k1 l0 ji5) = some r := by rw [if_neg (show ¬ (false = true) by decide)] at H; exact H
  have H' := aM_ H
  clear H
  have p647 : 0 ≤ (x3_1 : Int) := oD_ ‹_›
  have q647 : x3_1 < (l0.length : Int) := oD_ ‹_›
  obtain ⟨ad647, e647, hx647_0⟩ := Kd.at_string HR0.out x3_1 p647 q647
  cases e647
  replace p647 := eq_true p647
  replace q647 := eq_true q647
  have p648 : 0 ≤ ((ji5) : Int) := oD_ ‹_›
  have q648 : (ji5) < (l0.length : Int) := oD_ ‹_›
  obtain ⟨ad648, e648, hx648_0⟩ := Kd.at_string HR0.out (ji5) p648 q648
  obtain rfl : ad647 = ad648 := (by injection e648)
  replace p648 := eq_true p648
  replace q648 := eq_true q648
  go_wp2_with (first | (go_at_call 116; (with_reducible refine (cmp_Less_string.calls (rdOf eB_ l0 x3_1) (rdOf eB_ l0 (ji5)) false _ A8.out).mono ?_); rintro e w' ⟨rfl, ⟨nd, rfl⟩⟩; (try first | exact ⟨rfl, _, World.drewN_drewN _ _ _⟩ | exact ⟨rfl, _, Eq.trans (World.drewN_drewN _ _ _) (congrArg (World.drewN _) (Nat.add_assoc _ _ _))⟩)))
  repeat (go_quiet (first | (go_at_call 116; (with_reducible refine (cmp_Less_string.calls (rdOf eB_ l0 x3_1) (rdOf eB_ l0 (ji5)) false _ A8.out).mono ?_); rintro e w' ⟨rfl, ⟨nd, rfl⟩⟩; (try exact ⟨rfl, _, Eq.trans (World.drewN_drewN _ _ _) (congrArg (World.drewN _) (Nat.add_assoc _ _ _))⟩))); try go_wp2_with (first | (go_at_call 116; (with_reducible refine (cmp_Less_string.calls (rdOf eB_ l0 x3_1) (rdOf eB_ l0 (ji5)) false _ A8.out).mono ?_); rintro e w' ⟨rfl, ⟨nd, rfl⟩⟩; (try first | exact ⟨rfl, _, World.drewN_drewN _ _ _⟩ | exact ⟨rfl, _, Eq.trans (World.drewN_drewN _ _ _) (congrArg (World.drewN _) (Nat.add_assoc _ _ _))⟩))))
  go_roundg k1
  case measure => have := HK1.out; omega
  case rel => exact ⟨(ji5), (by rfl), H', ⟨by have := HK1.out; omega⟩, by repeat (first | exact Drawn0.refl _ | apply Drawn0.step)⟩
end Go.Proofs.YtnnkedeohfbkeaaGreatDoor.P
namespace Go.Proofs.YtnnkedeohfbkeaaGreatDoor.P
open Go.RowKit Go.Proofs.YtnnkedeohfbkeaaGreatDoorW.PrintWords Go.Proofs.YtnnkedeohfbkeaaGreatDoorW.PrintLast Go.Proofs.YtnnkedeohfbkeaaGreatDoorW.PrintMore
attribute [local go_sem] max2_int min2_int max_two min_two max_three min_three max_four min_four
theorem eqA96 (d : Nat) (w : World) (x0 y0 : Int) (x1 y1 : Int) (x2 y2 : Bool) :
    (Op.equalIn (d + 2) 96 (.agg #[.int .i64 x0, .int .i64 x1, .bool x2]) (.agg #[.int .i64 y0, .int .i64 y1, .bool y2])).run Tryz.prog w = .ok (x0 == y0 && (x1 == y1 && (x2 == y2))) w := by
  refine eqA_of Tryz.underlying96 (by kernel_rfl) ?_
  refine eqf_cons (by rfl) (by go_simp; rfl) (by go_simp; rfl) (by go_simp) ?_
  refine eqf_cons (by rfl) (by go_simp; rfl) (by go_simp; rfl) (by go_simp) ?_
  exact eqf_last (by rfl) (by go_simp; rfl) (by go_simp; rfl) (by go_simp)
end Go.Proofs.YtnnkedeohfbkeaaGreatDoor.P
namespace Go.Proofs.YtnnkedeohfbkeaaGreatDoor.P
open Go.RowKit Go.Proofs.YtnnkedeohfbkeaaGreatDoorW.PrintWords Go.Proofs.YtnnkedeohfbkeaaGreatDoorW.PrintLast Go.Proofs.YtnnkedeohfbkeaaGreatDoorW.PrintMore
open Go.Proofs.YtnnkedeohfbkeaaGreatDoorW.PrintWords renaming blk_frozen → bF_, blk_cell → bC_, below_set → bS_, blk_below → bB_, below_step → bT_, pw_below_drewN → bN_, below_size → bZ_, below_drew1 → bD_, below_alloc → bA_, blk_far → bR_, gate_callee → gC_, gate_dst → gD_, box_event → bE_, blk_drew → b1_, blk_put → bP_, blk_drewN → b2_, blk_alloc → b3_, blk_lt → bL_, cell_far → cF_
open Go.Proofs.YtnnkedeohfbkeaaGreatDoorW.PrintLast renaming any_of → aO_, i64_w → i6_, i32_w → i3_, take_ofW → tW_
open Go.Proofs.YtnnkedeohfbkeaaGreatDoorW.PrintWords.Kd renaming R_below → kB_, R_mono → kM_, R_far → kF_, R_reads' → kR_, R_types → kT_, R_slice → kS_, R_celln → kC_, R_alloc → k1_, R_drewN → k2_, R_drew → k3_, C_below → k4_, R_lower → k5_, R_ne → k6_, own_blk → k7_
open Go.Proofs.YtnnkedeohfbkeaaGreatDoorW.PrintWords.LeO renaming none → l0_, bind → l1_, ite → l2_, refl → l3_
open World renaming block_lt_of_cell? → wB_
open _root_.Option renaming bind_eq_some_iff → oB_
open _root_.ByteArray renaming empty → eB_
open List renaming setIfInBounds_toArray → sA_, set_cons_zero → sB_, set_cons_succ → sC_, map_toArray → sD_, map_cons → sE_, map_nil → sF_, length_drop → sG_, length_take → sH_
open Bool renaming true → ty, false → fy
open Aside0 renaming mk → aM_
attribute [local go_sem] max2_int min2_int max_two min_two max_three min_three max_four min_four
attribute [local go_sem high] eqA96
def impl_Node.l0 : Nat → List (S96) → List (S96) → Int → Int → Option (Bool)
 | 0, _, _, _, _ => none
 | k + 1, x0, x1, x12, x13 => if x13 < x12 then (if 0 ≤ x13 then (if x13 < (x0.length : Int) then (if x13 < (x1.length : Int) then (if (!(((rd_T96 x0 x13).f0) == ((rd_T96 x1 x13).f0)) || (!(((rd_T96 x0 x13).f1) == ((rd_T96 x1 x13).f1)) || (!(((rd_T96 x0 x13).f2) == ((rd_T96 x1 x13).f2))))) = true then (some false) else (impl_Node.l0 k x0 x1 x12 (wrap64 (x13 + 1)))) else (none)) else (none)) else (none)) else (some true)
def impl_Node.f (k : Nat) (l0 : List (S96)) (l1 : List (S96)) : Option (Bool) := if (l0.length : Int) = (l1.length : Int) then (impl_Node.l0 k l0 l1 (l0.length : Int) 0) else (some false)
theorem impl_Node.mono_l : ∀ k, (∀ y0 y1 y2 y3, LeO (impl_Node.l0 k y0 y1 y2 y3) (impl_Node.l0 (k + 1) y0 y1 y2 y3))
 | 0 => fun _ _ _ _ r h => by simp [impl_Node.l0] at h
 | k + 1 => by
  have ih0 := impl_Node.mono_l k
  intro y0 y1 y2 y3
  unfold impl_Node.l0
  repeat' with_reducible first | exact ih0 _ _ _ _ | exact l3_ _ | exact l0_ _ | refine l2_ ?_ ?_ | refine l1_ ?_ (fun _ => ?_)
theorem impl_Node.mono : ∀ a0 a1 k, LeO (impl_Node.f k a0 a1) (impl_Node.f (k + 1) a0 a1) := by
 intro a0 a1 k
 have ih0 := impl_Node.mono_l k
 unfold impl_Node.f
 repeat' with_reducible first | exact ih0 _ _ _ _ | exact l3_ _ | exact l0_ _ | refine l2_ ?_ ?_ | refine l1_ ?_ (fun _ => ?_)
theorem impl_Node.calls (k : Nat) (A0 : Option Addr) (c0 : Nat) (l0 : List (S96)) (A1 : Option Addr) (c1 : Nat) (l1 : List (S96)) (r : Bool) (w : World) (hr0 : Kd.C k96 w A0 l0.length l0) (hc0 : l0.length ≤ c0) (hr1 : Kd.C k96 w A1 l1.length l1) (hc1 : l1.length ≤ c1) (h : impl_Node.f k l0 l1 = some r) :
  Calls Tryz.prog 115 #[.slice A0 l0.length c0, .slice A1 l1.length c1] w fun e w' => e = .returned (.bool r) ∧ Drawn0 w w' := by
 have hu96 := Tryz.underlying96
 have HR0 := aM_ hr0
 have HC0 := aM_ hc0
 clear hr0 hc0
 have HR1 := aM_ hr1
 have HC1 := aM_ hc1
 clear hr1 hc1
 have H : (if (l0.length : Int) = (l1.length : Int) then (impl_Node.l0 k l0 l1 (l0.length : Int) 0) else (some false)) = some r := h
 clear h
 by_cases c3 : (l0.length : Int) = (l1.length : Int)
 rotate_left
 ·
  rw [if_neg c3] at H
  have c3b0 : ((l0.length : Int) == (l1.length : Int)) = false := beq_eq_false_iff_ne.mpr c3
  have c3b1 : ((l0.length : Int) != (l1.length : Int)) = true := bne_iff_ne.mpr c3
  have c3b2 : (l0.length == l1.length) = false := by first | simpa using c3 | (simp at c3 ⊢; omega)
  obtain rfl := Option.some.inj H
  go_enter Tryz.func115, Tryz.ntmps115
  go_wp2
  repeat (go_quiet (fail); try go_wp2)
  go_ret
  exact ⟨by rfl, by repeat (first | exact Drawn0.refl _ | apply Drawn0.step)⟩
 rw [if_pos c3] at H
 have c3b0 : ((l0.length : Int) == (l1.length : Int)) = true := beq_iff_eq.mpr c3
 have c3b1 : ((l0.length : Int) != (l1.length : Int)) = false := bne_eq_false_iff_eq.mpr c3
 have c3b2 : (l0.length == l1.length) = true := by first | simpa using c3 | (simp at c3 ⊢; omega)
 clear c3
 have H' := aM_ H
 clear H
 go_enter Tryz.func115, Tryz.ntmps115
 go_wp2
 repeat (go_quiet (fail); try go_wp2)
 go_loopg [13] k (fun kq v13 w' => ∃ (x13_1 : Int), v13 = .int .i64 x13_1 ∧ Aside0 (impl_Node.l0 kq l0 l1 (l0.length : Int) x13_1 = some r) ∧ Aside0 (kq ≤ k) ∧ Drawn0 w w')
 case atStart => exact ⟨(0), (by rfl), H', ⟨Nat.le_refl _⟩, by repeat (first | exact Drawn0.refl _ | apply Drawn0.step)⟩
 clear H'
 try clear p2
 try clear c3b0
 try clear c3b1
 try clear c3b2
 obtain ⟨x13_1, rfl, HA, HK1, ⟨m1, rfl⟩⟩ := hrel
 cases gk with
 | zero => exact absurd HA.out (by simp [impl_Node.l0])
 | succ k1 =>
  have H := HA.out
  clear HA
  simp only [impl_Node.l0] at H
  by_cases c4 : x13_1 < (l0.length : Int)
  rotate_left
  ·
   rw [if_neg c4] at H
   have c4b0 := dF_ c4
   clear c4
   obtain rfl := Option.some.inj H
   go_wp2
   repeat (go_quiet (fail); try go_wp2)
   go_ret
   exact ⟨by rfl, by repeat (first | exact Drawn0.refl _ | apply Drawn0.step)⟩
  rw [if_pos c4] at H
  have c4b0 := dT_ c4
  clear c4
  by_cases c5 : 0 ≤ x13_1
  rotate_left
  ·
   rw [if_neg c5] at H
   exact absurd H (by simp)
  rw [if_pos c5] at H
  have c5b0 := dT_ c5
  clear c5
  by_cases c6 : x13_1 < (l0.length : Int)
  rotate_left
  ·
   rw [if_neg c6] at H
   exact absurd H (by simp)
  rw [if_pos c6] at H
  have c6b0 := dT_ c6
  clear c6
  by_cases c7 : x13_1 < (l1.length : Int)
  rotate_left
  ·
   rw [if_neg c7] at H
   exact absurd H (by simp)
  rw [if_pos c7] at H
  have c7b0 := dT_ c7
  clear c7
  by_cases c8 : (!(((rd_T96 l0 x13_1).f0) == ((rd_T96 l1 x13_1).f0)) || (!(((rd_T96 l0 x13_1).f1) == ((rd_T96 l1 x13_1).f1)) || (!(((rd_T96 l0 x13_1).f2) == ((rd_T96 l1 x13_1).f2))))) = true
  ·
   rw [if_pos c8] at H
   have c8b0 : (!(((rd_T96 l0 x13_1).f0) == ((rd_T96 l1 x13_1).f0)) || (!(((rd_T96 l0 x13_1).f1) == ((rd_T96 l1 x13_1).f1)) || (!(((rd_T96 l0 x13_1).f2) == ((rd_T96 l1 x13_1).f2))))) = true := c8
   clear c8
   obtain rfl := Option.some.inj H
   have p650 : 0 ≤ (x13_1 : Int) := oD_ ‹_›
   have q650 : x13_1 < (l0.length : Int) := oD_ ‹_›
   obtain ⟨ad650, e650, hx650_0, hx650_1, hx650_2⟩ := at_T96 HR0.out x13_1 p650 q650
   cases e650
   replace p650 := eq_true p650
   replace q650 := eq_true q650
   have p651 : 0 ≤ (x13_1 : Int) := oD_ ‹_›
   have q651 : x13_1 < (l1.length : Int) := oD_ ‹_›
   obtain ⟨ad651, e651, hx651_0, hx651_1, hx651_2⟩ := at_T96 HR1.out x13_1 p651 q651
   cases e651
   replace p651 := eq_true p651
   replace q651 := eq_true q651
   go_wp2
   repeat (go_quiet (fail); try go_wp2)
   go_ret
   exact ⟨by rfl, by repeat (first | exact Drawn0.refl _ | apply Drawn0.step)⟩
  rw [if_neg c8] at H
  have c8b0 : (!(((rd_T96 l0 x13_1).f0) == ((rd_T96 l1 x13_1).f0)) || (!(((rd_T96 l0 x13_1).f1) == ((rd_T96 l1 x13_1).f1)) || (!(((rd_T96 l0 x13_1).f2) == ((rd_T96 l1 x13_1).f2))))) = false := by simpa using c8
  clear c8
  have H' := aM_ H
  clear H
  have p650 : 0 ≤ (x13_1 : Int) := oD_ ‹_›
  have q650 : x13_1 < (l0.length : Int) := oD_ ‹_›
  obtain ⟨ad650, e650, hx650_0, hx650_1, hx650_2⟩ := at_T96 HR0.out x13_1 p650 q650
  cases e650
  replace p650 := eq_true p650
  replace q650 := eq_true q650
  have p651 : 0 ≤ (x13_1 : Int) := oD_ ‹_›
  have q651 : x13_1 < (l1.length : Int) := oD_ ‹_›
  obtain ⟨ad651, e651, hx651_0, hx651_1, hx651_2⟩ := at_T96 HR1.out x13_1 p651 q651
  cases e651
  replace p651 := eq_true p651
  replace q651 := eq_true q651
  go_wp2
  repeat (go_quiet (fail); try go_wp2)
  go_roundg k1
  case measure => have := HK1.out; omega
  case rel => exact ⟨(wrap64 (x13_1 + 1)), (by rfl), H', ⟨by have := HK1.out; omega⟩, by repeat (first | exact Drawn0.refl _ | apply Drawn0.step)⟩
end Go.Proofs.YtnnkedeohfbkeaaGreatDoor.P
namespace Go.Proofs.YtnnkedeohfbkeaaGreatDoor.P
open Go.RowKit Go.Proofs.YtnnkedeohfbkeaaGreatDoorW.PrintWords Go.Proofs.YtnnkedeohfbkeaaGreatDoorW.PrintLast Go.Proofs.YtnnkedeohfbkeaaGreatDoorW.PrintMore
open Go.Proofs.YtnnkedeohfbkeaaGreatDoorW.PrintWords renaming blk_frozen → bF_, blk_cell → bC_, below_set → bS_, blk_below → bB_, below_step → bT_, pw_below_drewN → bN_, below_size → bZ_, below_drew1 → bD_, below_alloc → bA_, blk_far → bR_, gate_callee → gC_, gate_dst → gD_, box_event → bE_, blk_drew → b1_, blk_put → bP_, blk_drewN → b2_, blk_alloc → b3_, blk_lt → bL_, cell_far → cF_
open Go.Proofs.YtnnkedeohfbkeaaGreatDoorW.PrintLast renaming any_of → aO_, i64_w → i6_, i32_w → i3_, take_ofW → tW_
open Go.Proofs.YtnnkedeohfbkeaaGreatDoorW.PrintWords.Kd renaming R_below → kB_, R_mono → kM_, R_far → kF_, R_reads' → kR_, R_types → kT_, R_slice → kS_, R_celln → kC_, R_alloc → k1_, R_drewN → k2_, R_drew → k3_, C_below → k4_, R_lower → k5_, R_ne → k6_, own_blk → k7_
open Go.Proofs.YtnnkedeohfbkeaaGreatDoorW.PrintWords.LeO renaming none → l0_, bind → l1_, ite → l2_, refl → l3_
open World renaming block_lt_of_cell? → wB_
open _root_.Option renaming bind_eq_some_iff → oB_
open _root_.ByteArray renaming empty → eB_
open List renaming setIfInBounds_toArray → sA_, set_cons_zero → sB_, set_cons_succ → sC_, map_toArray → sD_, map_cons → sE_, map_nil → sF_, length_drop → sG_, length_take → sH_
open Bool renaming true → ty, false → fy
open Aside0 renaming mk → aM_
attribute [local go_sem] max2_int min2_int max_two min_two max_three min_three max_four min_four
def impl_isTrie.j0 : Nat → Bool → List (S96) → Option (Bool)
 | 0, _, _ => none
 | k + 1, x16, x653000 => if x16 = true then (some false) else ((impl_Trie_words.f k x653000).bind fun t658 => (if (t658.length : Int) ≤ 40 then ((slices_IsSorted_string_string.f k t658).bind fun t661 => (if t661 = true then ((impl_trieOf.f k t658).bind fun t662 => ((impl_Node.f k t662 x653000).bind fun t665 => (some t665))) else (some false))) else (some false)))
def impl_isTrie.f (k : Nat) (l0_0 : List (S96)) : Option (Bool) := (impl_Trie_prefixes.f k l0_0).bind fun bt653 => (if bt653.2 = true then ((impl_isTrie_any.f bt653.1).bind fun t657 => (impl_isTrie.j0 k t657 l0_0)) else (impl_isTrie.j0 k true l0_0))
theorem impl_isTrie.mono_l : ∀ k, (∀ y0 y1, LeO (impl_isTrie.j0 k y0 y1) (impl_isTrie.j0 (k + 1) y0 y1))
 | 0 => fun _ _ r h => by simp [impl_isTrie.j0] at h
 | k + 1 => by
  have ih0 := impl_isTrie.mono_l k
  intro y0 y1
  unfold impl_isTrie.j0
  repeat' with_reducible first | exact ih0 _ _ | exact impl_Node.mono _ _ _ | exact impl_Trie_prefixes.mono _ _ | exact impl_Trie_words.mono _ _ | exact impl_trieOf.mono _ _ | exact slices_IsSorted_string_string.mono _ _ | exact l3_ _ | exact l0_ _ | refine l2_ ?_ ?_ | refine l1_ ?_ (fun _ => ?_)
theorem impl_isTrie.mono : ∀ a0 k, LeO (impl_isTrie.f k a0) (impl_isTrie.f (k + 1) a0) := by
 intro a0 k
 have ih0 := impl_isTrie.mono_l k
 unfold impl_isTrie.f
 repeat' with_reducible first | exact ih0 _ _ | exact impl_Node.mono _ _ _ | exact impl_Trie_prefixes.mono _ _ | exact impl_Trie_words.mono _ _ | exact impl_trieOf.mono _ _ | exact slices_IsSorted_string_string.mono _ _ | exact l3_ _ | exact l0_ _ | refine l2_ ?_ ?_ | refine l1_ ?_ (fun _ => ?_)
def impl_isTrie.T5 : Bool × List (List Nat × List Nat) := (true, [([], []), ([0], [0]), ([1], [1]), ([2], [2]), ([3], [3]), ([4, 3, 3], [3, 4]), ([3, 5], [3, 5]), ([6, 5], [6]), ([7], [7]), ([8, 7, 7], [7, 8]), ([9, 7], [7, 9]), ([7], [7]), ([11, 7], [7, 11]), ([10, 12, 9, 7], [7, 10, 12]), ([7, 13], [7, 13]), ([14, 13, 0, 1, 2, 3, 4, 5, 6, 7, 8, 9, 10, 11, 12, 13, 14], [14])])
def impl_isTrie.B5 : List Nat := [0, 1, 3, 7, 15, 31, 63, 127, 255, 511, 1023, 255, 2303, 8191, 16383, 32767]
theorem impl_isTrie.tab5 : rtab .any (opsOf Tryz.f91 5) = impl_isTrie.T5 := by kernel_rfl
theorem impl_isTrie.bits5 : waitsOk impl_isTrie.T5.2 impl_isTrie.B5 = true := by kernel_rfl
theorem impl_isTrie.calls (k : Nat) (A0_0 : Option Addr) (c0_0 : Nat) (l0_0 : List (S96)) (r : Bool) (w : World) (hr0_0 : Kd.C k96 w A0_0 l0_0.length l0_0) (hc0_0 : l0_0.length ≤ c0_0) (h : impl_isTrie.f k l0_0 = some r) :
  Calls Tryz.prog 91 #[.agg #[.slice A0_0 l0_0.length c0_0]] w fun e w' => e = .returned (.bool r) ∧ Below w.heap.size w w' := by
 have hu28 := Tryz.underlying28
 have hfd : ∀ (a_ : Option Addr) (n_ c_ : Nat) (W_ : World), (Instr.field 28 (.agg #[.slice a_ n_ c_]) 0).run Tryz.prog W_ = .ok (.slice a_ n_ c_) W_ := fun a_ n_ c_ W_ => by first | rfl | kernel_rfl
 have HR0_0 := aM_ hr0_0
 have HC0_0 := aM_ hc0_0
 clear hr0_0 hc0_0
 have HB := aM_ (Below.refl w.heap.size w)
 have H : ((impl_Trie_prefixes.f k l0_0).bind fun bt653 => (if bt653.2 = true then ((impl_isTrie_any.f bt653.1).bind fun t657 => (impl_isTrie.j0 k t657 l0_0)) else (impl_isTrie.j0 k true l0_0))) = some r := h
 clear h
 replace H := oB_.mp H
 obtain ⟨⟨t653, t656⟩, A20, H⟩ := H
 try dsimp only at H
 have A2 := aM_ A20
 clear A20
 have HC3 := aM_ H
 clear H
 go_enter Tryz.func91, Tryz.ntmps91
 go_upto_region 2 with (first | (refine bx_ 1 #[.slice A0_0 l0_0.length c0_0] 28 ?_; intro gb652 hg w4 hbox hb; have BK652 := aM_ (hbox); have GW652 := gw_ hg HB; replace HB := b4_ HB hb; clear hb hbox hg; have hcz5_0 := c0_ BK652; have hfz5_0 := bF_ BK652.out 0) | (refine gs_ 8 Tryz.func94 #[.agg #[.slice A0_0 l0_0.length c0_0]] ?_; (with_reducible refine (impl_Trie_prefixes.calls k _ _ l0_0 t653 t656 _ ?side1 HC0_0.out A2.out).mono ?_); (case side1 => repeat (first | exact (k4_ HR0_0.out HB.out) | with_reducible first | apply cA_ | apply cN_ | apply cD_)); rintro e w6 ⟨v654, rfl, ho0, hb⟩; refine ⟨_, rfl, ?_⟩; have HO655 := aM_ (k5_ ho0 (bZ_ HB.out)); replace BK652 := b5_ BK652 hb; replace HB := b4_ HB hb; (try clear hb); (try clear ho0)))
 (try simp only [Act.put, sA_, sB_, sC_])
 go_cut [16] (fun v16 wc => ∃ (kq : Nat) (x16_2 : Bool), v16 = .bool x16_2 ∧ Aside0 (impl_isTrie.j0 kq x16_2 l0_0 = some r) ∧ Aside0 (kq ≤ k) ∧ Aside0 (wc.heap[gb652]? = some (.cells #[(.slice A0_0 l0_0.length c0_0)] 28 (0, 0))) ∧ Aside0 (Below w.heap.size w wc))
 case first =>
  have H := HC3.out
  clear HC3
  by_cases c7 : t656 = true
  ·
   subst c7
   rw [if_pos rfl] at H
   replace H := oB_.mp H
   obtain ⟨t657, A80, H⟩ := H
   try dsimp only at H
   have A8 := aM_ A80
   clear A80
   have H' := aM_ H
   clear H
   obtain ⟨Ao9, co9, eo9⟩ := kS_ HO655.out
   subst eo9
   go_wp2_with (first | (go_at_call 112; (with_reducible refine (impl_isTrie_any.calls _ _ t653 t657 _ ?side1 ?side2 A8.out).mono ?_); (case side1 => repeat (first | exact (kR_ HO655.out).2.2 | with_reducible first | apply cA_ | apply cN_ | apply cD_)); (case side2 => exact (kR_ HO655.out).2.1); rintro e w10 ⟨rfl, hb⟩; replace HO655 := k9_ HO655 hb; replace BK652 := b5_ BK652 hb; replace HB := b4_ HB hb; (try clear hb)))
   go_meet
   case rel => exact ⟨_, (t657), (by rfl), H', ⟨by omega⟩, ⟨BK652.out⟩, ⟨HB.out⟩⟩
  replace c7 := Bool.eq_false_iff.mpr c7
  subst c7
  replace H : (impl_isTrie.j0 k true l0_0) = some r := by rw [if_neg (show ¬ (false = true) by decide)] at H; exact H
  have H' := aM_ H
  clear H
  go_wp2
  go_meet
  case rel => exact ⟨_, (true), (by rfl), H', ⟨by omega⟩, ⟨BK652.out⟩, ⟨HB.out⟩⟩
 clear HC3
 try clear p2
 try clear hcz5_0
 try clear hfz5_0
 obtain ⟨kq, x16_2, rfl, HA, HJ2, BK652, HB⟩ := hcut
 cases kq with
 | zero => exact absurd HA.out (by simp [impl_isTrie.j0])
 | succ kj2 =>
  have H := HA.out
  clear HA
  simp only [impl_isTrie.j0] at H
  by_cases c11 : x16_2 = true
  ·
   subst c11
   rw [if_pos rfl] at H
   obtain rfl := Option.some.inj H
   go_wp2
   go_ret
   exact ⟨by rfl, by exact HB.out⟩
  replace c11 := Bool.eq_false_iff.mpr c11
  subst c11
  replace H : ((impl_Trie_words.f kj2 l0_0).bind fun t658 => (if (t658.length : Int) ≤ 40 then ((slices_IsSorted_string_string.f kj2 t658).bind fun t661 => (if t661 = true then ((impl_trieOf.f kj2 t658).bind fun t662 => ((impl_Node.f kj2 t662 l0_0).bind fun t665 => (some t665))) else (some false))) else (some false))) = some r := by rw [if_neg (show ¬ (false = true) by decide)] at H; exact H
  replace H := oB_.mp H
  obtain ⟨t658, A120, H⟩ := H
  try dsimp only at H
  have A12 := aM_ A120
  clear A120
  by_cases c13 : (t658.length : Int) ≤ 40
  rotate_left
  ·
   rw [if_neg c13] at H
   have c13b0 := dF_ c13
   have c13b1 : decide (t658.length ≤ 40) = false := dF_ (by omega)
   clear c13
   obtain rfl := Option.some.inj H
   have hcz28_0 := c0_ BK652
   have hfz28_0 := bF_ BK652.out 0
   try go_wp2_with (first | (refine gs_ 18 Tryz.func90 #[.agg #[.slice A0_0 l0_0.length c0_0]] ?_; (with_reducible refine (impl_Trie_words.calls kj2 _ _ l0_0 t658 _ ?side1 HC0_0.out A12.out).mono ?_); (case side1 => repeat (first | exact (k4_ HR0_0.out HB.out) | with_reducible first | apply cA_ | apply cN_ | apply cD_)); rintro e w29 ⟨v659, rfl, ho0, hb⟩; refine ⟨_, rfl, ?_⟩; have HO660 := aM_ (k5_ ho0 (bZ_ HB.out)); replace BK652 := b5_ BK652 hb; replace HB := b4_ HB hb; (try clear hb); (try clear ho0)))
   have n0_ := aM_ (k3_ HO660.out)
   have n1_ := aM_ (b1_ BK652.out)
   have n2_ := aM_ (bD_ HB.out)
   clear HO660
   clear BK652
   clear HB
   have HO660 := n0_
   have BK652 := n1_
   have HB := n2_
   clear n0_ n1_ n2_
   obtain ⟨Ao31, co31, eo31⟩ := kS_ HO660.out
   (subst eo31)
   refine start_ (n := 16) (S := fun w' => True) (ds := []) #[fy, fy, fy, fy, fy, fy, fy, fy, fy, fy, fy, fy, fy, fy, fy, fy] (by kernel_rfl) rfl rfl trivial (fun hHeld => ?_); refine with_tabW impl_isTrie.tab5 impl_isTrie.bits5 (fun HT_ HW_ => ?_)
   generalize w29.drew = w30 at HO660 BK652 HB hHeld ⊢
   refine pu_ HT_ 0 19 #[ty, fy, fy, fy, fy, fy, fy, fy, fy, fy, fy, fy, fy, fy, fy, fy] ?_
   refine pu_ HT_ 1 20 #[ty, ty, fy, fy, fy, fy, fy, fy, fy, fy, fy, fy, fy, fy, fy, fy] ?_
   refine pu_ HT_ 2 21 #[ty, ty, ty, fy, fy, fy, fy, fy, fy, fy, fy, fy, fy, fy, fy, fy] ?_
   refine pu_ HT_ 3 22 #[ty, ty, ty, ty, fy, fy, fy, fy, fy, fy, fy, fy, fy, fy, fy, fy] ?_
   refine pure_ (i := 4) (N := some 23) (v := undef) (a' := ?_) #[ty, ty, ty, ty, ty, fy, fy, fy, fy, fy, fy, fy, fy, fy, fy, fy] rfl rfl (aO_ HT_.out (by kernel_rfl)) (fun _ _ _ h => h) (Or.inr ⟨by rfl, rfl⟩) ?_ ?_
   rotate_left
   ·
    simp only [Act.put, sA_, sB_, sC_, i6_, i3_]
    rfl
   refine pure_ (i := 5) (N := some 24) (v := undef) (a' := ?_) #[ty, ty, ty, ty, ty, ty, fy, fy, fy, fy, fy, fy, fy, fy, fy, fy] rfl rfl (aO_ HT_.out (by kernel_rfl)) (fun _ _ _ h => h) (Or.inr ⟨by rfl, rfl⟩) ?_ ?_
   rotate_left
   ·
    simp only [Act.put, sA_, sB_, sC_, i6_, i3_]
    rfl
   refine pu_ HT_ 6 25 #[ty, ty, ty, ty, ty, ty, ty, fy, fy, fy, fy, fy, fy, fy, fy, fy] ?_
   refine pu_ HT_ 7 26 #[ty, ty, ty, ty, ty, ty, ty, ty, fy, fy, fy, fy, fy, fy, fy, fy] ?_
   refine pure_ (i := 8) (N := some 27) (v := undef) (a' := ?_) #[ty, ty, ty, ty, ty, ty, ty, ty, ty, fy, fy, fy, fy, fy, fy, fy] rfl rfl (aO_ HT_.out (by kernel_rfl)) (fun _ _ _ h => h) (Or.inr ⟨by rfl, rfl⟩) ?_ ?_
   rotate_left
   ·
    simp only [Act.put, sA_, sB_, sC_, i6_, i3_]
    rfl
   refine pure_ (i := 9) (N := some 28) (v := undef) (a' := ?_) #[ty, ty, ty, ty, ty, ty, ty, ty, ty, ty, fy, fy, fy, fy, fy, fy] rfl rfl (aO_ HT_.out (by kernel_rfl)) (fun _ _ _ h => h) (Or.inr ⟨by rfl, rfl⟩) ?_ ?_
   rotate_left
   ·
    simp only [Act.put, sA_, sB_, sC_, i6_, i3_]
    rfl
   refine pure_ (i := 10) (N := some 29) (v := undef) (a' := ?_) #[ty, ty, ty, ty, ty, ty, ty, ty, ty, ty, ty, fy, fy, fy, fy, fy] rfl rfl (aO_ HT_.out (by kernel_rfl)) (fun _ _ _ h => h) (Or.inr ⟨by rfl, rfl⟩) ?_ ?_
   rotate_left
   ·
    simp only [Act.put, sA_, sB_, sC_, i6_, i3_]
    rfl
   refine pure_ (i := 11) (N := some 30) (v := undef) (a' := ?_) #[ty, ty, ty, ty, ty, ty, ty, ty, ty, ty, ty, ty, fy, fy, fy, fy] rfl rfl (aO_ HT_.out (by kernel_rfl)) (fun _ _ _ h => h) (Or.inr ⟨by rfl, rfl⟩) ?_ ?_
   rotate_left
   ·
    simp only [Act.put, sA_, sB_, sC_, i6_, i3_]
    rfl
   refine pure_ (i := 12) (N := some 31) (v := undef) (a' := ?_) #[ty, ty, ty, ty, ty, ty, ty, ty, ty, ty, ty, ty, ty, fy, fy, fy] rfl rfl (aO_ HT_.out (by kernel_rfl)) (fun _ _ _ h => h) (Or.inr ⟨by rfl, rfl⟩) ?_ ?_
   rotate_left
   ·
    simp only [Act.put, sA_, sB_, sC_, i6_, i3_]
    rfl
   refine pure_ (i := 13) (N := some 32) (v := undef) (a' := ?_) #[ty, ty, ty, ty, ty, ty, ty, ty, ty, ty, ty, ty, ty, ty, fy, fy] rfl rfl (aO_ HT_.out (by kernel_rfl)) (fun _ _ _ h => h) (Or.inr ⟨by rfl, rfl⟩) ?_ ?_
   rotate_left
   ·
    simp only [Act.put, sA_, sB_, sC_, i6_, i3_]
    rfl
   refine pu_ HT_ 14 33 #[ty, ty, ty, ty, ty, ty, ty, ty, ty, ty, ty, ty, ty, ty, ty, fy] ?_
   refine pu_ HT_ 15 2 #[ty, ty, ty, ty, ty, ty, ty, ty, ty, ty, ty, ty, ty, ty, ty, ty] ?_
   refine done_ (done_of HT_.out (by kernel_rfl)) ?_
   try go_wp2
   go_ret
   exact ⟨by rfl, by exact HB.out⟩
  rw [if_pos c13] at H
  have c13b0 := dT_ c13
  have c13b1 : decide (t658.length ≤ 40) = true := dT_ (by omega)
  clear c13
  replace H := oB_.mp H
  obtain ⟨t661, A140, H⟩ := H
  try dsimp only at H
  have A14 := aM_ A140
  clear A140
  by_cases c15 : t661 = true
  rotate_left
  ·
   replace c15 := Bool.eq_false_iff.mpr c15
   subst c15
   replace H : (some false) = some r := by rw [if_neg (show ¬ (false = true) by decide)] at H; exact H
   obtain rfl := Option.some.inj H
   have hcz24_0 := c0_ BK652
   have hfz24_0 := bF_ BK652.out 0
   try go_wp2_with (first | (refine gs_ 18 Tryz.func90 #[.agg #[.slice A0_0 l0_0.length c0_0]] ?_; (with_reducible refine (impl_Trie_words.calls kj2 _ _ l0_0 t658 _ ?side1 HC0_0.out A12.out).mono ?_); (case side1 => repeat (first | exact (k4_ HR0_0.out HB.out) | with_reducible first | apply cA_ | apply cN_ | apply cD_)); rintro e w25 ⟨v659, rfl, ho0, hb⟩; refine ⟨_, rfl, ?_⟩; have HO660 := aM_ (k5_ ho0 (bZ_ HB.out)); replace BK652 := b5_ BK652 hb; replace HB := b4_ HB hb; (try clear hb); (try clear ho0)))
   have n0_ := aM_ (k3_ HO660.out)
   have n1_ := aM_ (b1_ BK652.out)
   have n2_ := aM_ (bD_ HB.out)
   clear HO660
   clear BK652
   clear HB
   have HO660 := n0_
   have BK652 := n1_
   have HB := n2_
   clear n0_ n1_ n2_
   obtain ⟨Ao27, co27, eo27⟩ := kS_ HO660.out
   (subst eo27)
   refine start_ (n := 16) (S := fun w' => True) (ds := []) #[fy, fy, fy, fy, fy, fy, fy, fy, fy, fy, fy, fy, fy, fy, fy, fy] (by kernel_rfl) rfl rfl trivial (fun hHeld => ?_); refine with_tabW impl_isTrie.tab5 impl_isTrie.bits5 (fun HT_ HW_ => ?_)
   generalize w25.drew = w26 at HO660 BK652 HB hHeld ⊢
   refine pu_ HT_ 0 19 #[ty, fy, fy, fy, fy, fy, fy, fy, fy, fy, fy, fy, fy, fy, fy, fy] ?_
   refine pu_ HT_ 1 20 #[ty, ty, fy, fy, fy, fy, fy, fy, fy, fy, fy, fy, fy, fy, fy, fy] ?_
   refine pu_ HT_ 2 21 #[ty, ty, ty, fy, fy, fy, fy, fy, fy, fy, fy, fy, fy, fy, fy, fy] ?_
   refine pu_ HT_ 3 22 #[ty, ty, ty, ty, fy, fy, fy, fy, fy, fy, fy, fy, fy, fy, fy, fy] ?_
   refine pu_ HT_ 4 23 #[ty, ty, ty, ty, ty, fy, fy, fy, fy, fy, fy, fy, fy, fy, fy, fy] ?_
   refine one_ (i := 5) (N := some 24) #[ty, ty, ty, ty, ty, ty, fy, fy, fy, fy, fy, fy, fy, fy, fy, fy] rfl rfl (one_of HT_.out (by kernel_rfl)) (by decide) (fun K hK => ?_)
   refine goes_ Tryz.func114 (by kernel_rfl) rfl #[.slice Ao27 t658.length co27] (by rfl) rfl rfl (by (try simp only [sD_, sE_, sF_]); rfl) ?_
   with_reducible refine (slices_IsSorted_string_string.calls kj2 _ _ t658 false _ ?side1 ?side2 A14.out).mono ?_
   (case side1 => repeat (first | exact (kR_ HO660.out).2.2 | with_reducible first | apply cA_ | apply cN_ | apply cD_))
   (case side2 => exact (kR_ HO660.out).2.1)
   rintro e w' ⟨rfl, ⟨nd, rfl⟩⟩
   refine ⟨_, rfl, ?_⟩
   refine hK.out _ _ trivial (fun hHeld => ?_)
   clear hK K
   refine norm_ (by show Act.put _ (some 24) _ = _; simp only [Act.put, sA_, sB_, sC_, i6_, i3_]; rfl) ?_
   refine pu_ HT_ 6 25 #[ty, ty, ty, ty, ty, ty, ty, fy, fy, fy, fy, fy, fy, fy, fy, fy] ?_
   refine pu_ HT_ 7 26 #[ty, ty, ty, ty, ty, ty, ty, ty, fy, fy, fy, fy, fy, fy, fy, fy] ?_
   refine pure_ (i := 8) (N := some 27) (v := undef) (a' := ?_) #[ty, ty, ty, ty, ty, ty, ty, ty, ty, fy, fy, fy, fy, fy, fy, fy] rfl rfl (aO_ HT_.out (by kernel_rfl)) (fun _ _ _ h => h) (Or.inr ⟨by rfl, rfl⟩) ?_ ?_
   rotate_left
   ·
    simp only [Act.put, sA_, sB_, sC_, i6_, i3_]
    rfl
   refine pure_ (i := 9) (N := some 28) (v := undef) (a' := ?_) #[ty, ty, ty, ty, ty, ty, ty, ty, ty, ty, fy, fy, fy, fy, fy, fy] rfl rfl (aO_ HT_.out (by kernel_rfl)) (fun _ _ _ h => h) (Or.inr ⟨by rfl, rfl⟩) ?_ ?_
   rotate_left
   ·
    simp only [Act.put, sA_, sB_, sC_, i6_, i3_]
    rfl
   refine pure_ (i := 10) (N := some 29) (v := undef) (a' := ?_) #[ty, ty, ty, ty, ty, ty, ty, ty, ty, ty, ty, fy, fy, fy, fy, fy] rfl rfl (aO_ HT_.out (by kernel_rfl)) (fun _ _ _ h => h) (Or.inr ⟨by rfl, rfl⟩) ?_ ?_
   rotate_left
   ·
    simp only [Act.put, sA_, sB_, sC_, i6_, i3_]
    rfl
   refine pure_ (i := 11) (N := some 30) (v := undef) (a' := ?_) #[ty, ty, ty, ty, ty, ty, ty, ty, ty, ty, ty, ty, fy, fy, fy, fy] rfl rfl (aO_ HT_.out (by kernel_rfl)) (fun _ _ _ h => h) (Or.inr ⟨by rfl, rfl⟩) ?_ ?_
   rotate_left
   ·
    simp only [Act.put, sA_, sB_, sC_, i6_, i3_]
    rfl
   refine pure_ (i := 12) (N := some 31) (v := undef) (a' := ?_) #[ty, ty, ty, ty, ty, ty, ty, ty, ty, ty, ty, ty, ty, fy, fy, fy] rfl rfl (aO_ HT_.out (by kernel_rfl)) (fun _ _ _ h => h) (Or.inr ⟨by rfl, rfl⟩) ?_ ?_
   rotate_left
   ·
    simp only [Act.put, sA_, sB_, sC_, i6_, i3_]
    rfl
   refine pure_ (i := 13) (N := some 32) (v := undef) (a' := ?_) #[ty, ty, ty, ty, ty, ty, ty, ty, ty, ty, ty, ty, ty, ty, fy, fy] rfl rfl (aO_ HT_.out (by kernel_rfl)) (fun _ _ _ h => h) (Or.inr ⟨by rfl, rfl⟩) ?_ ?_
   rotate_left
   ·
    simp only [Act.put, sA_, sB_, sC_, i6_, i3_]
    rfl
   refine pu_ HT_ 14 33 #[ty, ty, ty, ty, ty, ty, ty, ty, ty, ty, ty, ty, ty, ty, ty, fy] ?_
   refine pu_ HT_ 15 2 #[ty, ty, ty, ty, ty, ty, ty, ty, ty, ty, ty, ty, ty, ty, ty, ty] ?_
   refine done_ (done_of HT_.out (by kernel_rfl)) ?_
   try go_wp2
   go_ret
   exact ⟨by rfl, by repeat with_reducible first | exact HB.out | apply bA_ | apply bN_ | apply bD_ | refine bS_ ?_ GW652.out⟩
  subst c15
  rw [if_pos rfl] at H
  replace H := oB_.mp H
  obtain ⟨t662, A160, H⟩ := H
  try dsimp only at H
  have A16 := aM_ A160
  clear A160
  replace H := oB_.mp H
  obtain ⟨t665, A170, H⟩ := H
  try dsimp only at H
  have A17 := aM_ A170
  clear A170
  obtain rfl := Option.some.inj H
  have hcz18_0 := c0_ BK652
  have hfz18_0 := bF_ BK652.out 0
  try go_wp2_with (first | (refine gs_ 18 Tryz.func90 #[.agg #[.slice A0_0 l0_0.length c0_0]] ?_; (with_reducible refine (impl_Trie_words.calls kj2 _ _ l0_0 t658 _ ?side1 HC0_0.out A12.out).mono ?_); (case side1 => repeat (first | exact (k4_ HR0_0.out HB.out) | with_reducible first | apply cA_ | apply cN_ | apply cD_)); rintro e w19 ⟨v659, rfl, ho0, hb⟩; refine ⟨_, rfl, ?_⟩; have HO660 := aM_ (k5_ ho0 (bZ_ HB.out)); replace BK652 := b5_ BK652 hb; replace HB := b4_ HB hb; (try clear hb); (try clear ho0)))
  have n0_ := aM_ (k3_ HO660.out)
  have n1_ := aM_ (b1_ BK652.out)
  have n2_ := aM_ (bD_ HB.out)
  clear HO660
  clear BK652
  clear HB
  have HO660 := n0_
  have BK652 := n1_
  have HB := n2_
  clear n0_ n1_ n2_
  obtain ⟨Ao21, co21, eo21⟩ := kS_ HO660.out
  (subst eo21)
  refine start_ (n := 16) (S := fun w' => w'.cell? ⟨gb652, 0, none⟩ = some (.slice A0_0 l0_0.length c0_0)) (ds := []) #[fy, fy, fy, fy, fy, fy, fy, fy, fy, fy, fy, fy, fy, fy, fy, fy] (by kernel_rfl) rfl rfl ((bC_ BK652.out 0).trans rfl) (fun hHeld => ?_); refine with_tabW impl_isTrie.tab5 impl_isTrie.bits5 (fun HT_ HW_ => ?_)
  generalize w19.drew = w20 at HO660 BK652 HB hHeld ⊢
  refine pu_ HT_ 0 19 #[ty, fy, fy, fy, fy, fy, fy, fy, fy, fy, fy, fy, fy, fy, fy, fy] ?_
  refine pu_ HT_ 1 20 #[ty, ty, fy, fy, fy, fy, fy, fy, fy, fy, fy, fy, fy, fy, fy, fy] ?_
  refine pu_ HT_ 2 21 #[ty, ty, ty, fy, fy, fy, fy, fy, fy, fy, fy, fy, fy, fy, fy, fy] ?_
  refine pu_ HT_ 3 22 #[ty, ty, ty, ty, fy, fy, fy, fy, fy, fy, fy, fy, fy, fy, fy, fy] ?_
  refine pu_ HT_ 4 23 #[ty, ty, ty, ty, ty, fy, fy, fy, fy, fy, fy, fy, fy, fy, fy, fy] ?_
  refine one_ (i := 5) (N := some 24) #[ty, ty, ty, ty, ty, ty, fy, fy, fy, fy, fy, fy, fy, fy, fy, fy] rfl rfl (one_of HT_.out (by kernel_rfl)) (by decide) (fun K hK => ?_)
  refine goes_ Tryz.func114 (by kernel_rfl) rfl #[.slice Ao21 t658.length co21] (by rfl) rfl rfl (by (try simp only [sD_, sE_, sF_]); rfl) ?_
  with_reducible refine (slices_IsSorted_string_string.calls kj2 _ _ t658 true _ ?side1 ?side2 A14.out).mono ?_
  (case side1 => repeat (first | exact (kR_ HO660.out).2.2 | with_reducible first | apply cA_ | apply cN_ | apply cD_))
  (case side2 => exact (kR_ HO660.out).2.1)
  rintro e w' ⟨rfl, ⟨nd, rfl⟩⟩
  refine ⟨_, rfl, ?_⟩
  refine hK.out _ _ ((bC_ BK652.out 0).trans rfl) (fun hHeld => ?_)
  clear hK K
  refine norm_ (by show Act.put _ (some 24) _ = _; simp only [Act.put, sA_, sB_, sC_, i6_, i3_]; rfl) ?_
  refine pu_ HT_ 6 25 #[ty, ty, ty, ty, ty, ty, ty, fy, fy, fy, fy, fy, fy, fy, fy, fy] ?_
  refine pu_ HT_ 7 26 #[ty, ty, ty, ty, ty, ty, ty, ty, fy, fy, fy, fy, fy, fy, fy, fy] ?_
  refine pu_ HT_ 8 27 #[ty, ty, ty, ty, ty, ty, ty, ty, ty, fy, fy, fy, fy, fy, fy, fy] ?_
  refine pu_ HT_ 11 30 #[ty, ty, ty, ty, ty, ty, ty, ty, ty, fy, fy, ty, fy, fy, fy, fy] ?_
  refine take_ (i := 12) (N := some 31) (v := ?_) (a' := ?_) #[ty, ty, ty, ty, ty, ty, ty, ty, ty, fy, fy, ty, ty, fy, fy, fy] rfl rfl (tW_ HT_.out HW_.out (by kernel_rfl)) (fun _ _ _ h => h) (Or.inl ⟨by rfl, ?_⟩) hHeld ?_ ?_; rotate_left; (intro w' s0; go_simp; with_reducible rfl); rotate_left; (simp only [Act.put, sA_, sB_, sC_, i6_, i3_]; rfl)
  refine one_ (i := 9) (N := some 28) #[ty, ty, ty, ty, ty, ty, ty, ty, ty, ty, fy, ty, ty, fy, fy, fy] rfl rfl (one_of HT_.out (by kernel_rfl)) (by decide) (fun K hK => ?_)
  refine goes_ Tryz.func108 (by kernel_rfl) rfl #[.slice Ao21 t658.length co21] (by rfl) rfl rfl (by (try simp only [sD_, sE_, sF_]); rfl) ?_
  with_reducible refine (impl_trieOf.calls kj2 _ _ t658 t662 _ ?side1 ?side2 A16.out).mono ?_
  (case side1 => repeat (first | exact (kR_ HO660.out).2.2 | with_reducible first | apply cA_ | apply cN_ | apply cD_))
  (case side2 => exact (kR_ HO660.out).2.1)
  rintro e w22 ⟨v663, rfl, ho0, hb⟩
  refine ⟨_, rfl, ?_⟩
  have n0_ := aM_ (kB_ (by (with_reducible repeat (first | apply k1_ | apply k2_ | apply k3_)); exact HO660.out) hb)
  have n1_ := aM_ (k5_ ho0 (bZ_ (by repeat with_reducible first | exact HB.out | apply bA_ | apply bN_ | apply bD_ | refine bS_ ?_ GW652.out)))
  have n2_ := aM_ (bB_ (g := gb652) (o := .cells #[.slice A0_0 l0_0.length c0_0] 28 (0, 0)) (by (with_reducible repeat (first | refine b2_ ?_ _ | refine b1_ ?_ | refine b3_ ?_ _)); exact BK652.out) hb)
  have n3_ := aM_ (bT_ (by repeat with_reducible first | exact HB.out | apply bA_ | apply bN_ | apply bD_ | refine bS_ ?_ GW652.out) hb)
  clear HO660
  clear BK652
  clear HB
  have HO660 := n0_
  have HO664 := n1_
  have BK652 := n2_
  have HB := n3_
  clear n0_ n1_ n2_ n3_
  (try clear hb)
  (try clear ho0)
  obtain ⟨Ao23, co23, eo23⟩ := kS_ HO664.out
  (subst eo23)
  refine hK.out _ _ ((bC_ BK652.out 0).trans rfl) (fun hHeld => ?_)
  clear hK K
  refine norm_ (by show Act.put _ (some 28) _ = _; simp only [Act.put, sA_, sB_, sC_, i6_, i3_]; rfl) ?_
  refine pu_ HT_ 10 29 #[ty, ty, ty, ty, ty, ty, ty, ty, ty, ty, ty, ty, ty, fy, fy, fy] ?_
  refine one_ (i := 13) (N := some 32) #[ty, ty, ty, ty, ty, ty, ty, ty, ty, ty, ty, ty, ty, ty, fy, fy] rfl rfl (one_of HT_.out (by kernel_rfl)) (by decide) (fun K hK => ?_)
  refine goes_ Tryz.func115 (by kernel_rfl) rfl #[.slice Ao23 t662.length co23, .slice A0_0 l0_0.length c0_0] (by rfl) rfl rfl (by (try simp only [sD_, sE_, sF_]); rfl) ?_
  with_reducible refine (impl_Node.calls kj2 _ _ t662 _ _ l0_0 t665 _ ?side1 ?side2 ?side3 ?side4 A17.out).mono ?_
  (case side1 => repeat (first | exact (kR_ HO664.out).2.2 | with_reducible first | apply cA_ | apply cN_ | apply cD_))
  (case side2 => exact (kR_ HO664.out).2.1)
  (case side3 => repeat (first | exact (k4_ HR0_0.out HB.out) | with_reducible first | apply cA_ | apply cN_ | apply cD_))
  (case side4 => exact HC0_0.out)
  rintro e w' ⟨rfl, ⟨nd, rfl⟩⟩
  refine ⟨_, rfl, ?_⟩
  refine hK.out _ _ ((bC_ BK652.out 0).trans rfl) (fun hHeld => ?_)
  clear hK K
  refine norm_ (by show Act.put _ (some 32) _ = _; simp only [Act.put, sA_, sB_, sC_, i6_, i3_]; rfl) ?_
  refine pu_ HT_ 14 33 #[ty, ty, ty, ty, ty, ty, ty, ty, ty, ty, ty, ty, ty, ty, ty, fy] ?_
  refine pu_ HT_ 15 2 #[ty, ty, ty, ty, ty, ty, ty, ty, ty, ty, ty, ty, ty, ty, ty, ty] ?_
  refine done_ (done_of HT_.out (by kernel_rfl)) ?_
  try go_wp2
  go_ret
  exact ⟨by rfl, by repeat with_reducible first | exact HB.out | apply bA_ | apply bN_ | apply bD_ | refine bS_ ?_ GW652.out⟩
def impl_WordAt.f (k : Nat) (l0_0 : List (S96)) (a1 : Int) : Option (ByteArray × Bool) := (impl_isTrie.f k l0_0).bind fun t667 => (if t667 = true then ((impl_Trie_words.f k l0_0).bind fun t668 => ((impl_in.f a1 0 (wrap64 ((t668.length : Int) - 1))).bind fun t671 => (if t671 = true then ((impl_Trie_words.f k l0_0).bind fun t672 => (if 0 ≤ a1 then (if a1 < (t672.length : Int) then (some (rdOf eB_ t672 a1, true)) else (none)) else (none))) else (some ((⟨#[]⟩ : ByteArray), false))))) else (some ((⟨#[]⟩ : ByteArray), false)))
theorem impl_WordAt.mono : ∀ a0 a1 k, LeO (impl_WordAt.f k a0 a1) (impl_WordAt.f (k + 1) a0 a1) := by
 intro a0 a1 k
 unfold impl_WordAt.f
 repeat' with_reducible first | exact impl_Trie_words.mono _ _ | exact impl_isTrie.mono _ _ | exact l3_ _ | exact l0_ _ | refine l2_ ?_ ?_ | refine l1_ ?_ (fun _ => ?_)
theorem impl_WordAt.calls (k : Nat) (A0_0 : Option Addr) (c0_0 : Nat) (l0_0 : List (S96)) (a1 : Int) (r1 : ByteArray) (r2 : Bool) (w : World) (hr0_0 : Kd.C k96 w A0_0 l0_0.length l0_0) (hc0_0 : l0_0.length ≤ c0_0) (h : impl_WordAt.f k l0_0 a1 = some (r1, r2)) :
  Calls Tryz.prog 63 #[.agg #[.slice A0_0 l0_0.length c0_0], .int .i64 a1] w fun e w' => e = .returned (.tuple #[.string r1, .bool r2]) ∧ Below w.heap.size w w' := by
 have hu28 := Tryz.underlying28
 have HR0_0 := aM_ hr0_0
 have HC0_0 := aM_ hc0_0
 clear hr0_0 hc0_0
 have HB := aM_ (Below.refl w.heap.size w)
 have H : ((impl_isTrie.f k l0_0).bind fun t667 => (if t667 = true then ((impl_Trie_words.f k l0_0).bind fun t668 => ((impl_in.f a1 0 (wrap64 ((t668.length : Int) - 1))).bind fun t671 => (if t671 = true then ((impl_Trie_words.f k l0_0).bind fun t672 => (if 0 ≤ a1 then (if a1 < (t672.length : Int) then (some (rdOf eB_ t672 a1, true)) else (none)) else (none))) else (some ((⟨#[]⟩ : ByteArray), false))))) else (some ((⟨#[]⟩ : ByteArray), false)))) = some (r1, r2) := h
 clear h
 replace H := oB_.mp H
 obtain ⟨t667, A30, H⟩ := H
 try dsimp only at H
 have A3 := aM_ A30
 clear A30
 by_cases c4 : t667 = true
 rotate_left
 ·
  replace c4 := Bool.eq_false_iff.mpr c4
  subst c4
  replace H : (some ((⟨#[]⟩ : ByteArray), false)) = some (r1, r2) := by rw [if_neg (show ¬ (false = true) by decide)] at H; exact H
  simp only [Option.some.injEq, Prod.mk.injEq] at H
  obtain ⟨rfl, rfl⟩ := H
  go_enter Tryz.func63, Tryz.ntmps63
  go_wp2_with (first | ((with_reducible refine gD_ (N := 2) rfl ?_); (try (refine gate_guard (by rfl) ?_; dsimp only)); refine bE_ ?hg (N := 2) ?hd (cs := #[.slice A0_0 l0_0.length c0_0]) (t := 28) ?hr ?_; (case hd => rfl); (case hg => rfl); (case hr => (go_simp; done)); intro gb666 hg w26 hbox hb; have BK666 := aM_ (hbox); have GW666 := gw_ hg HB; replace HB := b4_ HB hb; clear hb hbox hg; have hcz27_0 := c0_ BK666; have hfz27_0 := bF_ BK666.out 0) | (refine gs_ 7 Tryz.func91 #[.agg #[.slice A0_0 l0_0.length c0_0]] ?_; (with_reducible refine (impl_isTrie.calls k _ _ l0_0 false _ ?side1 HC0_0.out A3.out).mono ?_); (case side1 => repeat (first | exact (k4_ HR0_0.out HB.out) | with_reducible first | apply cA_ | apply cN_ | apply cD_)); rintro e w28 ⟨rfl, hb⟩; refine ⟨_, rfl, ?_⟩; replace BK666 := b5_ BK666 hb; replace HB := b4_ HB hb; (try clear hb)))
  go_ret2
  exact ⟨by rfl, by exact HB.out⟩
 subst c4
 rw [if_pos rfl] at H
 replace H := oB_.mp H
 obtain ⟨t668, A50, H⟩ := H
 try dsimp only at H
 have A5 := aM_ A50
 clear A50
 replace H := oB_.mp H
 obtain ⟨t671, A60, H⟩ := H
 try dsimp only at H
 have A6 := aM_ A60
 clear A60
 by_cases c7 : t671 = true
 rotate_left
 ·
  replace c7 := Bool.eq_false_iff.mpr c7
  subst c7
  replace H : (some ((⟨#[]⟩ : ByteArray), false)) = some (r1, r2) := by rw [if_neg (show ¬ (false = true) by decide)] at H; exact H
  simp only [Option.some.injEq, Prod.mk.injEq] at H
  obtain ⟨rfl, rfl⟩ := H
  go_enter Tryz.func63, Tryz.ntmps63
  go_wp2_with (first | ((with_reducible refine gD_ (N := 2) rfl ?_); (try (refine gate_guard (by rfl) ?_; dsimp only)); refine bE_ ?hg (N := 2) ?hd (cs := #[.slice A0_0 l0_0.length c0_0]) (t := 28) ?hr ?_; (case hd => rfl); (case hg => rfl); (case hr => (go_simp; done)); intro gb666 hg w20 hbox hb; have BK666 := aM_ (hbox); have GW666 := gw_ hg HB; replace HB := b4_ HB hb; clear hb hbox hg; have hcz21_0 := c0_ BK666; have hfz21_0 := bF_ BK666.out 0) | (refine gs_ 7 Tryz.func91 #[.agg #[.slice A0_0 l0_0.length c0_0]] ?_; (with_reducible refine (impl_isTrie.calls k _ _ l0_0 true _ ?side1 HC0_0.out A3.out).mono ?_); (case side1 => repeat (first | exact (k4_ HR0_0.out HB.out) | with_reducible first | apply cA_ | apply cN_ | apply cD_)); rintro e w22 ⟨rfl, hb⟩; refine ⟨_, rfl, ?_⟩; replace BK666 := b5_ BK666 hb; replace HB := b4_ HB hb; (try clear hb); have hcz23_0 := c0_ BK666; have hfz23_0 := bF_ BK666.out 0) | (go_at_call 90; (with_reducible refine (impl_Trie_words.calls k _ _ l0_0 t668 _ ?side1 HC0_0.out A5.out).mono ?_); (case side1 => repeat (first | exact (k4_ HR0_0.out HB.out) | with_reducible first | apply cA_ | apply cN_ | apply cD_)); rintro e w24 ⟨v669, rfl, ho0, hb⟩; have HO670 := aM_ (k5_ ho0 (bZ_ HB.out)); replace BK666 := b5_ BK666 hb; replace HB := b4_ HB hb; (try clear hb); (try clear ho0); obtain ⟨Ao25, co25, eo25⟩ := kS_ HO670.out; subst eo25) | (go_at_call 70; (with_reducible refine (impl_in.calls a1 0 (wrap64 ((t668.length : Int) - 1)) false _ A6.out).mono ?_); rintro e w' ⟨rfl, ⟨nd, rfl⟩⟩))
  go_ret2
  exact ⟨by rfl, by repeat with_reducible first | exact HB.out | apply bA_ | apply bN_ | apply bD_ | refine bS_ ?_ GW666.out⟩
 subst c7
 rw [if_pos rfl] at H
 replace H := oB_.mp H
 obtain ⟨t672, A80, H⟩ := H
 try dsimp only at H
 have A8 := aM_ A80
 clear A80
 by_cases c9 : 0 ≤ a1
 rotate_left
 ·
  rw [if_neg c9] at H
  exact absurd H (by simp)
 rw [if_pos c9] at H
 have c9b0 := dT_ c9
 clear c9
 by_cases c10 : a1 < (t672.length : Int)
 rotate_left
 ·
  rw [if_neg c10] at H
  exact absurd H (by simp)
 rw [if_pos c10] at H
 have c10b0 := dT_ c10
 clear c10
 simp only [Option.some.injEq, Prod.mk.injEq] at H
 obtain ⟨rfl, rfl⟩ := H
 go_enter Tryz.func63, Tryz.ntmps63
 go_wp2_with (first | ((with_reducible refine gD_ (N := 2) rfl ?_); (try (refine gate_guard (by rfl) ?_; dsimp only)); refine bE_ ?hg (N := 2) ?hd (cs := #[.slice A0_0 l0_0.length c0_0]) (t := 28) ?hr ?_; (case hd => rfl); (case hg => rfl); (case hr => (go_simp; done)); intro gb666 hg w11 hbox hb; have BK666 := aM_ (hbox); have GW666 := gw_ hg HB; replace HB := b4_ HB hb; clear hb hbox hg; have hcz12_0 := c0_ BK666; have hfz12_0 := bF_ BK666.out 0) | (refine gs_ 7 Tryz.func91 #[.agg #[.slice A0_0 l0_0.length c0_0]] ?_; (with_reducible refine (impl_isTrie.calls k _ _ l0_0 true _ ?side1 HC0_0.out A3.out).mono ?_); (case side1 => repeat (first | exact (k4_ HR0_0.out HB.out) | with_reducible first | apply cA_ | apply cN_ | apply cD_)); rintro e w13 ⟨rfl, hb⟩; refine ⟨_, rfl, ?_⟩; replace BK666 := b5_ BK666 hb; replace HB := b4_ HB hb; (try clear hb); have hcz14_0 := c0_ BK666; have hfz14_0 := bF_ BK666.out 0) | (go_at_call 90; (with_reducible refine (impl_Trie_words.calls k _ _ l0_0 t668 _ ?side1 HC0_0.out A5.out).mono ?_); (case side1 => repeat (first | exact (k4_ HR0_0.out HB.out) | with_reducible first | apply cA_ | apply cN_ | apply cD_)); rintro e w15 ⟨v669, rfl, ho0, hb⟩; have HO670 := aM_ (k5_ ho0 (bZ_ HB.out)); replace BK666 := b5_ BK666 hb; replace HB := b4_ HB hb; (try clear hb); (try clear ho0); obtain ⟨Ao16, co16, eo16⟩ := kS_ HO670.out; subst eo16) | (go_at_call 70; (with_reducible refine (impl_in.calls a1 0 (wrap64 ((t668.length : Int) - 1)) true _ A6.out).mono ?_); rintro e w' ⟨rfl, ⟨nd, rfl⟩⟩; have hcz17_0 := c0_ BK666; have hfz17_0 := bF_ BK666.out 0) | (refine gs_ 19 Tryz.func90 #[.agg #[.slice A0_0 l0_0.length c0_0]] ?_; (with_reducible refine (impl_Trie_words.calls k _ _ l0_0 t672 _ ?side1 HC0_0.out A8.out).mono ?_); (case side1 => repeat (first | exact (k4_ HR0_0.out (by repeat with_reducible first | exact HB.out | apply bA_ | apply bN_ | apply bD_ | refine bS_ ?_ GW666.out)) | with_reducible first | apply cA_ | apply cN_ | apply cD_)); rintro e w18 ⟨v673, rfl, ho0, hb⟩; refine ⟨_, rfl, ?_⟩; have HO674 := aM_ (k5_ (Kd.R_new' ho0 (Kd.R_lt (by (with_reducible repeat (first | apply k1_ | apply k2_ | apply k3_)); exact HO670.out))) (bZ_ (by repeat with_reducible first | exact HB.out | apply bA_ | apply bN_ | apply bD_ | refine bS_ ?_ GW666.out))); replace HO670 := aM_ (Kd.R_elder' (by (with_reducible repeat (first | apply k1_ | apply k2_ | apply k3_)); exact HO670.out) (Kd.R_base ho0) hb); replace BK666 := aM_ (bB_ (g := gb666) (o := .cells #[.slice A0_0 l0_0.length c0_0] 28 (0, 0)) (by (with_reducible repeat (first | refine b2_ ?_ _ | refine b1_ ?_ | refine b3_ ?_ _)); exact BK666.out) hb); replace HB := aM_ (bT_ (by repeat with_reducible first | exact HB.out | apply bA_ | apply bN_ | apply bD_ | refine bS_ ?_ GW666.out) hb); (try clear hb); (try clear ho0); obtain ⟨Ao19, co19, eo19⟩ := kS_ HO674.out; subst eo19; have p675 : 0 ≤ (a1 : Int) := oD_ ‹_›; have q675 : a1 < (t672.length : Int) := oD_ ‹_›; obtain ⟨ad675, e675, hx675_0⟩ := Kd.at_string (kR_ HO674.out).2.2 a1 p675 q675; cases e675; replace p675 := eq_true p675; replace q675 := eq_true q675))
 go_ret2
 exact ⟨by rfl, by exact HB.out⟩
def impl_WordNumbered.f (k : Nat) (l0_0 : List (S72)) (a1 : Int) : Option (ByteArray × Bool) := (impl_Machine_open.f k l0_0).bind fun bt677 => (if bt677.2 = true then ((impl_WordAt.f k bt677.1 a1).bind fun bt682 => (some (bt682.1, bt682.2))) else (some ((⟨#[]⟩ : ByteArray), false)))
theorem impl_WordNumbered.mono : ∀ a0 a1 k, LeO (impl_WordNumbered.f k a0 a1) (impl_WordNumbered.f (k + 1) a0 a1) := by
 intro a0 a1 k
 unfold impl_WordNumbered.f
 repeat' with_reducible first | exact impl_Machine_open.mono _ _ | exact impl_WordAt.mono _ _ _ | exact l3_ _ | exact l0_ _ | refine l2_ ?_ ?_ | refine l1_ ?_ (fun _ => ?_)
theorem impl_WordNumbered.calls (k : Nat) (A0_0 : Option Addr) (c0_0 : Nat) (l0_0 : List (S72)) (a1 : Int) (r1 : ByteArray) (r2 : Bool) (w : World) (hr0_0 : Kd.C k72 w A0_0 l0_0.length l0_0) (hc0_0 : l0_0.length ≤ c0_0) (h : impl_WordNumbered.f k l0_0 a1 = some (r1, r2)) :
  Calls Tryz.prog 29 #[.agg #[.slice A0_0 l0_0.length c0_0], .int .i64 a1] w fun e w' => e = .returned (.tuple #[.string r1, .bool r2]) ∧ Below w.heap.size w w' := by
 have hu33 := Tryz.underlying33
 have hu28 := Tryz.underlying28
 have HR0_0 := aM_ hr0_0
 have HC0_0 := aM_ hc0_0
 clear hr0_0 hc0_0
 have HB := aM_ (Below.refl w.heap.size w)
 have H : ((impl_Machine_open.f k l0_0).bind fun bt677 => (if bt677.2 = true then ((impl_WordAt.f k bt677.1 a1).bind fun bt682 => (some (bt682.1, bt682.2))) else (some ((⟨#[]⟩ : ByteArray), false)))) = some (r1, r2) := h
 clear h
 replace H := oB_.mp H
 obtain ⟨⟨t677, t680⟩, A30, H⟩ := H
 try dsimp only at H
 have A3 := aM_ A30
 clear A30
 by_cases c4 : t680 = true
 ·
  subst c4
  rw [if_pos rfl] at H
  replace H := oB_.mp H
  obtain ⟨⟨t682, t683⟩, A50, H⟩ := H
  try dsimp only at H
  have A5 := aM_ A50
  clear A50
  simp only [Option.some.injEq, Prod.mk.injEq] at H
  obtain ⟨rfl, rfl⟩ := H
  go_enter Tryz.func29, Tryz.ntmps29
  go_wp2_with (first | (refine bx_ 2 #[.slice A0_0 l0_0.length c0_0] 33 ?_; intro gb676 hg w6 hbox hb; have BK676 := aM_ (hbox); have GW676 := gw_ hg HB; replace HB := b4_ HB hb; clear hb hbox hg; have hcz7_0 := c0_ BK676; have hfz7_0 := bF_ BK676.out 0) | (refine gs_ 10 Tryz.func51 #[.agg #[.slice A0_0 l0_0.length c0_0]] ?_; (with_reducible refine (impl_Machine_open.calls k _ _ l0_0 t677 true _ ?side1 HC0_0.out A3.out).mono ?_); (case side1 => repeat (first | exact (k4_ HR0_0.out HB.out) | with_reducible first | apply cA_ | apply cN_ | apply cD_)); rintro e w8 ⟨v678, rfl, ho0, hb⟩; refine ⟨_, rfl, ?_⟩; have HO679 := aM_ (k5_ ho0 (bZ_ HB.out)); replace BK676 := b5_ BK676 hb; replace HB := b4_ HB hb; (try clear hb); (try clear ho0)) | (refine bx_ 6 #[.slice none 0 0] 28 ?_; intro gb681 hg w9 hbox hb; replace HO679 := k9_ HO679 hb; have BK681 := aM_ (hbox); have GW681 := gw_ hg HB; replace HB := b4_ HB hb; have NB676_681 := nb_ hg BK676; have NB681_676 := ns_ NB676_681; replace BK676 := b5_ BK676 hb; clear hb hbox hg; obtain ⟨Ao10, co10, eo10⟩ := kS_ HO679.out; subst eo10; have hnb11 := NB681_676.out; have hnc11 := NB676_681.out; have hcz12_0 := c0_ BK681; have hfz12_0 := bF_ BK681.out 0) | (refine gs_ 17 Tryz.func63 #[.agg #[.slice Ao10 t677.length co10], .int .i64 a1] ?_; (with_reducible refine (impl_WordAt.calls k _ _ t677 a1 t682 t683 _ ?side1 ?side2 A5.out).mono ?_); (case side1 => refine (kR_ (e := 96) (base := w.heap.size) (ok := fun k_ => True) (n := t677.length) (c := co10) ?_).2.2; exact (by exact (kM_ (kG_ (kT_ HO679.out BK681.out (by decide))) (fun _ h_ => h_.1)))); (case side2 => exact (kR_ HO679.out).2.1); rintro e w13 ⟨rfl, hb⟩; refine ⟨_, rfl, ?_⟩; replace HO679 := aM_ (kB_ (by exact (kM_ (kG_ (kT_ HO679.out BK681.out (by decide))) (fun _ h_ => h_.1))) hb); replace BK676 := aM_ (bB_ (g := gb676) (o := .cells #[.slice A0_0 l0_0.length c0_0] 33 (0, 0)) (by exact br_ NB676_681.out (BK676.out)) hb); replace BK681 := aM_ (bB_ (g := gb681) (o := .cells #[.slice Ao10 t677.length co10] 28 (0, 0)) (by refine bP_ (cs := #[.slice none 0 0]) ?_ 0 _ rfl; exact BK681.out) hb); replace HB := aM_ (bT_ (by repeat with_reducible first | exact HB.out | apply bA_ | apply bN_ | apply bD_ | refine bS_ ?_ (Aside0.out ‹_›)) hb); (try clear hb)))
  go_ret2
  exact ⟨by rfl, by exact HB.out⟩
 replace c4 := Bool.eq_false_iff.mpr c4
 subst c4
 replace H : (some ((⟨#[]⟩ : ByteArray), false)) = some (r1, r2) := by rw [if_neg (show ¬ (false = true) by decide)] at H; exact H
 simp only [Option.some.injEq, Prod.mk.injEq] at H
 obtain ⟨rfl, rfl⟩ := H
 go_enter Tryz.func29, Tryz.ntmps29
 go_wp2_with (first | (refine bx_ 2 #[.slice A0_0 l0_0.length c0_0] 33 ?_; intro gb676 hg w14 hbox hb; have BK676 := aM_ (hbox); have GW676 := gw_ hg HB; replace HB := b4_ HB hb; clear hb hbox hg; have hcz15_0 := c0_ BK676; have hfz15_0 := bF_ BK676.out 0) | (refine gs_ 10 Tryz.func51 #[.agg #[.slice A0_0 l0_0.length c0_0]] ?_; (with_reducible refine (impl_Machine_open.calls k _ _ l0_0 t677 false _ ?side1 HC0_0.out A3.out).mono ?_); (case side1 => repeat (first | exact (k4_ HR0_0.out HB.out) | with_reducible first | apply cA_ | apply cN_ | apply cD_)); rintro e w16 ⟨v678, rfl, ho0, hb⟩; refine ⟨_, rfl, ?_⟩; have HO679 := aM_ (k5_ ho0 (bZ_ HB.out)); replace BK676 := b5_ BK676 hb; replace HB := b4_ HB hb; (try clear hb); (try clear ho0)) | (refine bx_ 6 #[.slice none 0 0] 28 ?_; intro gb681 hg w17 hbox hb; replace HO679 := k9_ HO679 hb; have BK681 := aM_ (hbox); have GW681 := gw_ hg HB; replace HB := b4_ HB hb; have NB676_681 := nb_ hg BK676; have NB681_676 := ns_ NB676_681; replace BK676 := b5_ BK676 hb; clear hb hbox hg; obtain ⟨Ao18, co18, eo18⟩ := kS_ HO679.out; subst eo18; have hnb19 := NB681_676.out; have hnc19 := NB676_681.out; have hcz20_0 := c0_ BK681; have hfz20_0 := bF_ BK681.out 0))
 go_ret2
 exact ⟨by rfl, by repeat with_reducible first | exact HB.out | apply bA_ | apply bN_ | apply bD_ | refine bS_ ?_ (Aside0.out ‹_›)⟩
def spec_WordNumbered.f (k : Nat) (l0_0 : List (S72)) (a1 : Int) : Option (ByteArray × Bool) := (spec_l7Valid.f k l0_0).bind fun t641 => (if t641 = true then ((spec_l7Words.f k l0_0).bind fun t642 => ((spec_l1In.f a1 0 (wrap64 ((t642.length : Int) - 1))).bind fun t645 => (if t645 = true then (if 0 ≤ a1 then (if a1 < (t642.length : Int) then (some (rdOf eB_ t642 a1, true)) else (none)) else (none)) else (some ((⟨#[]⟩ : ByteArray), false))))) else (some ((⟨#[]⟩ : ByteArray), false)))
theorem spec_WordNumbered.mono : ∀ a0 a1 k, LeO (spec_WordNumbered.f k a0 a1) (spec_WordNumbered.f (k + 1) a0 a1) := by
 intro a0 a1 k
 unfold spec_WordNumbered.f
 repeat' with_reducible first | exact spec_l7Valid.mono _ _ | exact spec_l7Words.mono _ _ | exact l3_ _ | exact l0_ _ | refine l2_ ?_ ?_ | refine l1_ ?_ (fun _ => ?_)
theorem spec_WordNumbered.calls (k : Nat) (A0_0 : Option Addr) (c0_0 : Nat) (l0_0 : List (S72)) (a1 : Int) (r1 : ByteArray) (r2 : Bool) (w : World) (hr0_0 : Kd.C k72 w A0_0 l0_0.length l0_0) (hc0_0 : l0_0.length ≤ c0_0) (h : spec_WordNumbered.f k l0_0 a1 = some (r1, r2)) :
  Calls Tryz.prog 28 #[.agg #[.slice A0_0 l0_0.length c0_0], .int .i64 a1] w fun e w' => e = .returned (.tuple #[.string r1, .bool r2]) ∧ Below w.heap.size w w' := by
 have hu33 := Tryz.underlying33
 have HR0_0 := aM_ hr0_0
 have HC0_0 := aM_ hc0_0
 clear hr0_0 hc0_0
 have HB := aM_ (Below.refl w.heap.size w)
 have H : ((spec_l7Valid.f k l0_0).bind fun t641 => (if t641 = true then ((spec_l7Words.f k l0_0).bind fun t642 => ((spec_l1In.f a1 0 (wrap64 ((t642.length : Int) - 1))).bind fun t645 => (if t645 = true then (if 0 ≤ a1 then (if a1 < (t642.length : Int) then (some (rdOf eB_ t642 a1, true)) else (none)) else (none)) else (some ((⟨#[]⟩ : ByteArray), false))))) else (some ((⟨#[]⟩ : ByteArray), false)))) = some (r1, r2) := h
 clear h
 replace H := oB_.mp H
 obtain ⟨t641, A30, H⟩ := H
 try dsimp only at H
 have A3 := aM_ A30
 clear A30
 by_cases c4 : t641 = true
 rotate_left
 ·
  replace c4 := Bool.eq_false_iff.mpr c4
  subst c4
  replace H : (some ((⟨#[]⟩ : ByteArray), false)) = some (r1, r2) := by rw [if_neg (show ¬ (false = true) by decide)] at H; exact H
  simp only [Option.some.injEq, Prod.mk.injEq] at H
  obtain ⟨rfl, rfl⟩ := H
  go_enter Tryz.func28, Tryz.ntmps28
  go_wp2_with (first | (refine bx_ 2 #[.slice A0_0 l0_0.length c0_0] 33 ?_; intro gb640 hg w22 hbox hb; have BK640 := aM_ (hbox); have GW640 := gw_ hg HB; replace HB := b4_ HB hb; clear hb hbox hg; have hcz23_0 := c0_ BK640; have hfz23_0 := bF_ BK640.out 0) | (refine gs_ 8 Tryz.func47 #[.agg #[.slice A0_0 l0_0.length c0_0]] ?_; (with_reducible refine (spec_l7Valid.calls k _ _ l0_0 false _ ?side1 HC0_0.out A3.out).mono ?_); (case side1 => repeat (first | exact (k4_ HR0_0.out HB.out) | with_reducible first | apply cA_ | apply cN_ | apply cD_)); rintro e w24 ⟨rfl, hb⟩; refine ⟨_, rfl, ?_⟩; replace BK640 := b5_ BK640 hb; replace HB := b4_ HB hb; (try clear hb)))
  go_ret2
  exact ⟨by rfl, by exact HB.out⟩
 subst c4
 rw [if_pos rfl] at H
 replace H := oB_.mp H
 obtain ⟨t642, A50, H⟩ := H
 try dsimp only at H
 have A5 := aM_ A50
 clear A50
 replace H := oB_.mp H
 obtain ⟨t645, A60, H⟩ := H
 try dsimp only at H
 have A6 := aM_ A60
 clear A60
 by_cases c7 : t645 = true
 ·
  subst c7
  rw [if_pos rfl] at H
  by_cases c8 : 0 ≤ a1
  rotate_left
  ·
   rw [if_neg c8] at H
   exact absurd H (by simp)
  rw [if_pos c8] at H
  have c8b0 := dT_ c8
  clear c8
  by_cases c9 : a1 < (t642.length : Int)
  rotate_left
  ·
   rw [if_neg c9] at H
   exact absurd H (by simp)
  rw [if_pos c9] at H
  have c9b0 := dT_ c9
  clear c9
  simp only [Option.some.injEq, Prod.mk.injEq] at H
  obtain ⟨rfl, rfl⟩ := H
  go_enter Tryz.func28, Tryz.ntmps28
  go_wp2_with (first | (refine bx_ 2 #[.slice A0_0 l0_0.length c0_0] 33 ?_; intro gb640 hg w10 hbox hb; have BK640 := aM_ (hbox); have GW640 := gw_ hg HB; replace HB := b4_ HB hb; clear hb hbox hg; have hcz11_0 := c0_ BK640; have hfz11_0 := bF_ BK640.out 0) | (refine gs_ 8 Tryz.func47 #[.agg #[.slice A0_0 l0_0.length c0_0]] ?_; (with_reducible refine (spec_l7Valid.calls k _ _ l0_0 true _ ?side1 HC0_0.out A3.out).mono ?_); (case side1 => repeat (first | exact (k4_ HR0_0.out HB.out) | with_reducible first | apply cA_ | apply cN_ | apply cD_)); rintro e w12 ⟨rfl, hb⟩; refine ⟨_, rfl, ?_⟩; replace BK640 := b5_ BK640 hb; replace HB := b4_ HB hb; (try clear hb); have hcz13_0 := c0_ BK640; have hfz13_0 := bF_ BK640.out 0) | (refine gs_ 11 Tryz.func49 #[.agg #[.slice A0_0 l0_0.length c0_0]] ?_; (with_reducible refine (spec_l7Words.calls k _ _ l0_0 t642 _ ?side1 HC0_0.out A5.out).mono ?_); (case side1 => repeat (first | exact (k4_ HR0_0.out HB.out) | with_reducible first | apply cA_ | apply cN_ | apply cD_)); rintro e w14 ⟨v643, rfl, ho0, hb⟩; refine ⟨_, rfl, ?_⟩; have HO644 := aM_ (k5_ ho0 (bZ_ HB.out)); replace BK640 := b5_ BK640 hb; replace HB := b4_ HB hb; (try clear hb); (try clear ho0); obtain ⟨Ao15, co15, eo15⟩ := kS_ HO644.out; subst eo15) | (refine gs_ 16 Tryz.func62 #[.int .i64 a1, .int .i64 0, .int .i64 (wrap64 ((t642.length : Int) - 1))] ?_; (with_reducible refine (spec_l1In.calls a1 0 (wrap64 ((t642.length : Int) - 1)) true _ A6.out).mono ?_); rintro e w' ⟨rfl, ⟨nd, rfl⟩⟩; refine ⟨_, rfl, ?_⟩; have p646 : 0 ≤ (a1 : Int) := oD_ ‹_›; have q646 : a1 < (t642.length : Int) := oD_ ‹_›; obtain ⟨ad646, e646, hx646_0⟩ := Kd.at_string (kR_ HO644.out).2.2 a1 p646 q646; cases e646; replace p646 := eq_true p646; replace q646 := eq_true q646))
  go_ret2
  exact ⟨by rfl, by repeat with_reducible first | exact HB.out | apply bA_ | apply bN_ | apply bD_ | refine bS_ ?_ GW640.out⟩
 replace c7 := Bool.eq_false_iff.mpr c7
 subst c7
 replace H : (some ((⟨#[]⟩ : ByteArray), false)) = some (r1, r2) := by rw [if_neg (show ¬ (false = true) by decide)] at H; exact H
 simp only [Option.some.injEq, Prod.mk.injEq] at H
 obtain ⟨rfl, rfl⟩ := H
 go_enter Tryz.func28, Tryz.ntmps28
 go_wp2_with (first | (refine bx_ 2 #[.slice A0_0 l0_0.length c0_0] 33 ?_; intro gb640 hg w16 hbox hb; have BK640 := aM_ (hbox); have GW640 := gw_ hg HB; replace HB := b4_ HB hb; clear hb hbox hg; have hcz17_0 := c0_ BK640; have hfz17_0 := bF_ BK640.out 0) | (refine gs_ 8 Tryz.func47 #[.agg #[.slice A0_0 l0_0.length c0_0]] ?_; (with_reducible refine (spec_l7Valid.calls k _ _ l0_0 true _ ?side1 HC0_0.out A3.out).mono ?_); (case side1 => repeat (first | exact (k4_ HR0_0.out HB.out) | with_reducible first | apply cA_ | apply cN_ | apply cD_)); rintro e w18 ⟨rfl, hb⟩; refine ⟨_, rfl, ?_⟩; replace BK640 := b5_ BK640 hb; replace HB := b4_ HB hb; (try clear hb); have hcz19_0 := c0_ BK640; have hfz19_0 := bF_ BK640.out 0) | (refine gs_ 11 Tryz.func49 #[.agg #[.slice A0_0 l0_0.length c0_0]] ?_; (with_reducible refine (spec_l7Words.calls k _ _ l0_0 t642 _ ?side1 HC0_0.out A5.out).mono ?_); (case side1 => repeat (first | exact (k4_ HR0_0.out HB.out) | with_reducible first | apply cA_ | apply cN_ | apply cD_)); rintro e w20 ⟨v643, rfl, ho0, hb⟩; refine ⟨_, rfl, ?_⟩; have HO644 := aM_ (k5_ ho0 (bZ_ HB.out)); replace BK640 := b5_ BK640 hb; replace HB := b4_ HB hb; (try clear hb); (try clear ho0); obtain ⟨Ao21, co21, eo21⟩ := kS_ HO644.out; subst eo21) | (refine gs_ 16 Tryz.func62 #[.int .i64 a1, .int .i64 0, .int .i64 (wrap64 ((t642.length : Int) - 1))] ?_; (with_reducible refine (spec_l1In.calls a1 0 (wrap64 ((t642.length : Int) - 1)) false _ A6.out).mono ?_); rintro e w' ⟨rfl, ⟨nd, rfl⟩⟩; refine ⟨_, rfl, ?_⟩))
 go_ret2
 exact ⟨by rfl, by repeat with_reducible first | exact HB.out | apply bA_ | apply bN_ | apply bD_ | refine bS_ ?_ GW640.out⟩
def laws_FnExactWordNumbered.j0 : Nat → Bool → List (S90) → List (S72) → Option (Bool)
 | 0, _, _, _ => none
 | k + 1, x38, x685000, x695000 => if x38 = true then (some false) else ((laws_toMachine.f k x685000).bind fun t697 => ((laws_eqMachine.f k x695000 t697).bind fun t700 => (if t700 = true then (some true) else (some false))))
def laws_FnExactWordNumbered.f (k : Nat) (l0_0 : List (S90)) (a1 : Int) : Option (Bool) := (laws_szMachine.f k l0_0 1048576).bind fun t685 => (if t685 < 0 then (some true) else ((laws_toMachine.f k l0_0).bind fun t686 => ((spec_WordNumbered.f k t686 a1).bind fun bt689 => ((laws_toMachine.f k l0_0).bind fun t691 => ((impl_WordNumbered.f k t691 a1).bind fun bt695 => (if bt695.1.toList = bt689.1.toList then (laws_FnExactWordNumbered.j0 k (bt695.2 != bt689.2) l0_0 t691) else (laws_FnExactWordNumbered.j0 k true l0_0 t691)))))))
theorem laws_FnExactWordNumbered.mono_l : ∀ k, (∀ y0 y1 y2, LeO (laws_FnExactWordNumbered.j0 k y0 y1 y2) (laws_FnExactWordNumbered.j0 (k + 1) y0 y1 y2))
 | 0 => fun _ _ _ r h => by simp [laws_FnExactWordNumbered.j0] at h
 | k + 1 => by
  have ih0 := laws_FnExactWordNumbered.mono_l k
  intro y0 y1 y2
  unfold laws_FnExactWordNumbered.j0
  repeat' with_reducible first | exact ih0 _ _ _ | exact impl_WordNumbered.mono _ _ _ | exact laws_eqMachine.mono _ _ _ | exact laws_szMachine.mono _ _ _ | exact laws_toMachine.mono _ _ | exact spec_WordNumbered.mono _ _ _ | exact l3_ _ | exact l0_ _ | refine l2_ ?_ ?_ | refine l1_ ?_ (fun _ => ?_)
theorem laws_FnExactWordNumbered.mono : ∀ a0 a1 k, LeO (laws_FnExactWordNumbered.f k a0 a1) (laws_FnExactWordNumbered.f (k + 1) a0 a1) := by
 intro a0 a1 k
 have ih0 := laws_FnExactWordNumbered.mono_l k
 unfold laws_FnExactWordNumbered.f
 repeat' with_reducible first | exact ih0 _ _ _ | exact impl_WordNumbered.mono _ _ _ | exact laws_eqMachine.mono _ _ _ | exact laws_szMachine.mono _ _ _ | exact laws_toMachine.mono _ _ | exact spec_WordNumbered.mono _ _ _ | exact l3_ _ | exact l0_ _ | refine l2_ ?_ ?_ | refine l1_ ?_ (fun _ => ?_)
theorem laws_FnExactWordNumbered.calls (k : Nat) (A0_0 : Option Addr) (c0_0 : Nat) (l0_0 : List (S90)) (a1 : Int) (r : Bool) (w : World) (hr0_0 : Kd.C k90 w A0_0 l0_0.length l0_0) (hc0_0 : l0_0.length ≤ c0_0) (h : laws_FnExactWordNumbered.f k l0_0 a1 = some r) :
  Calls Tryz.prog 7 #[.agg #[.slice A0_0 l0_0.length c0_0], .int .i64 a1] w fun e w' => e = .returned (.bool r) ∧ Below w.heap.size w w' := by
 have hu24 := Tryz.underlying24
 have hu33 := Tryz.underlying33
 have HR0_0 := aM_ hr0_0
 have HC0_0 := aM_ hc0_0
 clear hr0_0 hc0_0
 have HB := aM_ (Below.refl w.heap.size w)
 have H : ((laws_szMachine.f k l0_0 1048576).bind fun t685 => (if t685 < 0 then (some true) else ((laws_toMachine.f k l0_0).bind fun t686 => ((spec_WordNumbered.f k t686 a1).bind fun bt689 => ((laws_toMachine.f k l0_0).bind fun t691 => ((impl_WordNumbered.f k t691 a1).bind fun bt695 => (if bt695.1.toList = bt689.1.toList then (laws_FnExactWordNumbered.j0 k (bt695.2 != bt689.2) l0_0 t691) else (laws_FnExactWordNumbered.j0 k true l0_0 t691)))))))) = some r := h
 clear h
 replace H := oB_.mp H
 obtain ⟨t685, A30, H⟩ := H
 try dsimp only at H
 have A3 := aM_ A30
 clear A30
 by_cases c4 : t685 < 0
 ·
  rw [if_pos c4] at H
  have c4b0 := dT_ c4
  clear c4
  obtain rfl := Option.some.inj H
  go_enter Tryz.func7, Tryz.ntmps7
  go_wp2_with (first | (refine bx_ 2 #[.slice A0_0 l0_0.length c0_0] 24 ?_; intro gb684 hg w5 hbox hb; have BK684 := aM_ (hbox); have GW684 := gw_ hg HB; replace HB := b4_ HB hb; clear hb hbox hg; have hcz6_0 := c0_ BK684; have hfz6_0 := bF_ BK684.out 0) | (refine gs_ 13 Tryz.func13 #[.agg #[.slice A0_0 l0_0.length c0_0], .int .i64 1048576] ?_; (with_reducible refine (laws_szMachine.calls k _ _ l0_0 1048576 t685 _ ?side1 HC0_0.out A3.out).mono ?_); (case side1 => repeat (first | exact (k4_ HR0_0.out HB.out) | with_reducible first | apply cA_ | apply cN_ | apply cD_)); rintro e w7 ⟨rfl, hb⟩; refine ⟨_, rfl, ?_⟩; replace BK684 := b5_ BK684 hb; replace HB := b4_ HB hb; (try clear hb)))
  go_ret
  exact ⟨by rfl, by exact HB.out⟩
 rw [if_neg c4] at H
 have c4b0 := dF_ c4
 clear c4
 replace H := oB_.mp H
 obtain ⟨t686, A80, H⟩ := H
 try dsimp only at H
 have A8 := aM_ A80
 clear A80
 replace H := oB_.mp H
 obtain ⟨⟨t689, t690⟩, A90, H⟩ := H
 try dsimp only at H
 have A9 := aM_ A90
 clear A90
 replace H := oB_.mp H
 obtain ⟨t691, A100, H⟩ := H
 try dsimp only at H
 have A10 := aM_ A100
 clear A100
 replace H := oB_.mp H
 obtain ⟨⟨t695, t696⟩, A110, H⟩ := H
 try dsimp only at H
 have A11 := aM_ A110
 clear A110
 have HC12 := aM_ H
 clear H
 go_enter Tryz.func7, Tryz.ntmps7
 go_upto_region 8 with (first | (refine bx_ 2 #[.slice A0_0 l0_0.length c0_0] 24 ?_; intro gb684 hg w13 hbox hb; have BK684 := aM_ (hbox); have GW684 := gw_ hg HB; replace HB := b4_ HB hb; clear hb hbox hg; have hcz14_0 := c0_ BK684; have hfz14_0 := bF_ BK684.out 0) | (refine gs_ 13 Tryz.func13 #[.agg #[.slice A0_0 l0_0.length c0_0], .int .i64 1048576] ?_; (with_reducible refine (laws_szMachine.calls k _ _ l0_0 1048576 t685 _ ?side1 HC0_0.out A3.out).mono ?_); (case side1 => repeat (first | exact (k4_ HR0_0.out HB.out) | with_reducible first | apply cA_ | apply cN_ | apply cD_)); rintro e w15 ⟨rfl, hb⟩; refine ⟨_, rfl, ?_⟩; replace BK684 := b5_ BK684 hb; replace HB := b4_ HB hb; (try clear hb); have hcz16_0 := c0_ BK684; have hfz16_0 := bF_ BK684.out 0) | (refine gs_ 18 Tryz.func15 #[.agg #[.slice A0_0 l0_0.length c0_0]] ?_; (with_reducible refine (laws_toMachine.calls k _ _ l0_0 t686 _ ?side1 HC0_0.out A8.out).mono ?_); (case side1 => repeat (first | exact (k4_ HR0_0.out HB.out) | with_reducible first | apply cA_ | apply cN_ | apply cD_)); rintro e w17 ⟨v687, rfl, ho0, hb⟩; refine ⟨_, rfl, ?_⟩; have HO688 := aM_ (Kd.S_lower ho0 (bZ_ HB.out)); replace BK684 := b5_ BK684 hb; replace HB := b4_ HB hb; (try clear hb); (try clear ho0); obtain ⟨Ao18, co18, eo18⟩ := Kd.S_slice HO688.out; subst eo18) | (refine gs_ 20 Tryz.func28 #[.agg #[.slice Ao18 t686.length co18], .int .i64 a1] ?_; (with_reducible refine (spec_WordNumbered.calls k _ _ t686 a1 t689 t690 _ ?side1 ?side2 A9.out).mono ?_); (case side1 => repeat (first | exact (Kd.S_reads' HO688.out).2.2 | with_reducible first | apply cA_ | apply cN_ | apply cD_)); (case side2 => exact (Kd.S_reads' HO688.out).2.1); rintro e w19 ⟨rfl, hb⟩; refine ⟨_, rfl, ?_⟩; replace HO688 := aM_ (Kd.S_below (by (with_reducible repeat (first | apply Kd.S_alloc | apply Kd.S_drewN | apply Kd.S_drew)); exact HO688.out) hb); replace BK684 := b5_ BK684 hb; replace HB := b4_ HB hb; (try clear hb); have hcz20_0 := c0_ BK684; have hfz20_0 := bF_ BK684.out 0) | (refine gs_ 24 Tryz.func15 #[.agg #[.slice A0_0 l0_0.length c0_0]] ?_; (with_reducible refine (laws_toMachine.calls k _ _ l0_0 t691 _ ?side1 HC0_0.out A10.out).mono ?_); (case side1 => repeat (first | exact (k4_ HR0_0.out HB.out) | with_reducible first | apply cA_ | apply cN_ | apply cD_)); rintro e w21 ⟨v692, rfl, ho0, hb⟩; refine ⟨_, rfl, ?_⟩; have HO693 := aM_ (Kd.S_lower (Kd.S_new' ho0 (Kd.S_lt (by (with_reducible repeat (first | apply Kd.S_alloc | apply Kd.S_drewN | apply Kd.S_drew)); exact HO688.out))) (bZ_ HB.out)); replace HO688 := aM_ (Kd.S_elder' (by (with_reducible repeat (first | apply Kd.S_alloc | apply Kd.S_drewN | apply Kd.S_drew)); exact HO688.out) (Kd.S_base ho0) hb); replace BK684 := b5_ BK684 hb; replace HB := b4_ HB hb; (try clear hb); (try clear ho0)) | (refine bx_ 8 #[.slice none 0 0] 33 ?_; intro gb694 hg w22 hbox hb; replace HO688 := aM_ (Kd.S_below (by (with_reducible repeat (first | apply Kd.S_alloc | apply Kd.S_drewN | apply Kd.S_drew)); exact HO688.out) hb); replace HO693 := aM_ (Kd.S_below (by (with_reducible repeat (first | apply Kd.S_alloc | apply Kd.S_drewN | apply Kd.S_drew)); exact HO693.out) hb); have BK694 := aM_ (hbox); have GW694 := gw_ hg HB; replace HB := b4_ HB hb; have NB684_694 := nb_ hg BK684; have NB694_684 := ns_ NB684_694; replace BK684 := b5_ BK684 hb; clear hb hbox hg; obtain ⟨Ao23, co23, eo23⟩ := Kd.S_slice HO693.out; subst eo23; have hnb24 := NB694_684.out; have hnc24 := NB684_694.out; have hcz25_0 := c0_ BK694; have hfz25_0 := bF_ BK694.out 0) | (refine gs_ 28 Tryz.func29 #[.agg #[.slice Ao23 t691.length co23], .int .i64 a1] ?_; (with_reducible refine (impl_WordNumbered.calls k _ _ t691 a1 t695 t696 _ ?side1 ?side2 A11.out).mono ?_); (case side1 => refine (Kd.S_reads' (e := 72) (base := w.heap.size) (ok := fun k_ => (True ∧ some k_ ≠ (.slice Ao18 t686.length co18 : Value).ownBlock)) (n := t691.length) (c := co23) ?_).2.2; exact (by (with_reducible repeat (first | apply Kd.S_alloc | apply Kd.S_drewN | apply Kd.S_drew)); exact (Kd.S_mono (Kd.S_far (p := ⟨gb694, 0, none⟩) (Kd.S_types HO693.out BK694.out (by decide)) (fun _ hk => hk.2) (.slice Ao23 t691.length co23)) (fun _ h_ => h_.1)))); (case side2 => exact (Kd.S_reads' HO693.out).2.1); rintro e w26 ⟨rfl, hb⟩; refine ⟨_, rfl, ?_⟩; replace HO688 := aM_ (Kd.S_below (by (with_reducible repeat (first | apply Kd.S_alloc | apply Kd.S_drewN | apply Kd.S_drew)); exact (Kd.S_mono (Kd.S_far (p := ⟨gb694, 0, none⟩) (Kd.S_types HO688.out BK694.out (by decide)) (fun _ hk => hk.2) (.slice Ao23 t691.length co23)) (fun _ h_ => h_.1))) hb); replace HO693 := aM_ (Kd.S_below (by (with_reducible repeat (first | apply Kd.S_alloc | apply Kd.S_drewN | apply Kd.S_drew)); exact (Kd.S_mono (Kd.S_far (p := ⟨gb694, 0, none⟩) (Kd.S_types HO693.out BK694.out (by decide)) (fun _ hk => hk.2) (.slice Ao23 t691.length co23)) (fun _ h_ => h_.1))) hb); replace BK684 := aM_ (bB_ (g := gb684) (o := .cells #[.slice A0_0 l0_0.length c0_0] 24 (0, 0)) (by exact br_ NB684_694.out (BK684.out)) hb); replace BK694 := aM_ (bB_ (g := gb694) (o := .cells #[.slice Ao23 t691.length co23] 33 (0, 0)) (by refine bP_ (cs := #[.slice none 0 0]) ?_ 0 _ rfl; exact BK694.out) hb); replace HB := aM_ (bT_ (by repeat with_reducible first | exact HB.out | apply bA_ | apply bN_ | apply bD_ | refine bS_ ?_ (Aside0.out ‹_›)) hb); (try clear hb)))
 (try simp only [Act.put, sA_, sB_, sC_])
 go_cut [38] (fun v38 wc => ∃ (kq : Nat) (x38_11 : Bool), v38 = .bool x38_11 ∧ Aside0 (laws_FnExactWordNumbered.j0 kq x38_11 l0_0 t691 = some r) ∧ Aside0 (kq ≤ k) ∧ Aside0 (Kd.S k72 72 wc w.heap.size (fun _ => True) (.slice Ao23 t691.length co23) t691) ∧ Aside0 (wc.heap[gb684]? = some (.cells #[(.slice A0_0 l0_0.length c0_0)] 24 (0, 0))) ∧ Aside0 (wc.heap[gb694]? = some (.cells #[(.slice Ao23 t691.length co23)] 33 (0, 0))) ∧ Aside0 (Below w.heap.size w wc))
 case first =>
  have H := HC12.out
  clear HC12
  by_cases c27 : t695.toList = t689.toList
  ·
   rw [if_pos c27] at H
   have c27b0 : (t695.toList == t689.toList) = true := beq_iff_eq.mpr c27
   have c27b1 : (t695.toList != t689.toList) = false := bne_eq_false_iff_eq.mpr c27
   clear c27
   (skip)
   have H' := aM_ H
   clear H
   go_wp2
   go_meet
   case rel => exact ⟨_, ((t696 != t690)), (by rfl), H', ⟨by omega⟩, ⟨by (with_reducible repeat (first | apply Kd.S_alloc | apply Kd.S_drewN | apply Kd.S_drew)); exact Kd.S_mono HO693.out (fun _ hk => trivial)⟩, ⟨BK684.out⟩, ⟨BK694.out⟩, ⟨HB.out⟩⟩
  rw [if_neg c27] at H
  have c27b0 : (t695.toList == t689.toList) = false := beq_eq_false_iff_ne.mpr c27
  have c27b1 : (t695.toList != t689.toList) = true := bne_iff_ne.mpr c27
  (skip)
  have H' := aM_ H
  clear H
  go_wp2
  go_meet
  case rel => exact ⟨_, (true), (by rfl), H', ⟨by omega⟩, ⟨by (with_reducible repeat (first | apply Kd.S_alloc | apply Kd.S_drewN | apply Kd.S_drew)); exact Kd.S_mono HO693.out (fun _ hk => trivial)⟩, ⟨BK684.out⟩, ⟨BK694.out⟩, ⟨HB.out⟩⟩
 clear HC12
 try clear p2
 try clear c4b0
 try clear c27b0
 try clear c27b1
 try clear hcz14_0
 try clear hcz16_0
 try clear hcz20_0
 try clear hcz25_0
 try clear hcz6_0
 try clear hfz14_0
 try clear hfz16_0
 try clear hfz20_0
 try clear hfz25_0
 try clear hfz6_0
 obtain ⟨kq, x38_11, rfl, HA, HJ11, HO_695000, BK684, BK694, HB⟩ := hcut
 cases kq with
 | zero => exact absurd HA.out (by simp [laws_FnExactWordNumbered.j0])
 | succ kj11 =>
  have H := HA.out
  clear HA
  simp only [laws_FnExactWordNumbered.j0] at H
  by_cases c28 : x38_11 = true
  ·
   subst c28
   rw [if_pos rfl] at H
   obtain rfl := Option.some.inj H
   go_wp2
   go_ret
   exact ⟨by rfl, by exact HB.out⟩
  replace c28 := Bool.eq_false_iff.mpr c28
  subst c28
  replace H : ((laws_toMachine.f kj11 l0_0).bind fun t697 => ((laws_eqMachine.f kj11 t691 t697).bind fun t700 => (if t700 = true then (some true) else (some false)))) = some r := by rw [if_neg (show ¬ (false = true) by decide)] at H; exact H
  replace H := oB_.mp H
  obtain ⟨t697, A290, H⟩ := H
  try dsimp only at H
  have A29 := aM_ A290
  clear A290
  replace H := oB_.mp H
  obtain ⟨t700, A300, H⟩ := H
  try dsimp only at H
  have A30 := aM_ A300
  clear A300
  by_cases c31 : t700 = true
  ·
   subst c31
   rw [if_pos rfl] at H
   obtain rfl := Option.some.inj H
   try go_wp2
   have n0_ := aM_ (Kd.S_drew HO_695000.out)
   have n1_ := aM_ (b1_ BK684.out)
   have n2_ := aM_ (b1_ BK694.out)
   have n3_ := aM_ (bD_ HB.out)
   clear HO_695000
   clear BK684
   clear BK694
   clear HB
   have HO_695000 := n0_
   have BK684 := n1_
   have BK694 := n2_
   have HB := n3_
   clear n0_ n1_ n2_ n3_
   refine start_ (n := 5) (S := fun w' => w'.cell? ⟨gb694, 0, none⟩ = some (.slice Ao23 t691.length co23) ∧ w'.cell? ⟨gb684, 0, none⟩ = some (.slice A0_0 l0_0.length c0_0)) (ds := []) #[fy, fy, fy, fy, fy] (by kernel_rfl) rfl rfl ⟨(bC_ BK694.out 0).trans rfl, (bC_ BK684.out 0).trans rfl⟩ (fun hHeld => ?_)
   generalize wc.drew = w32 at HO_695000 BK684 BK694 HB hHeld ⊢
   refine take_ (i := 0) (N := some 39) (v := ?_) (a' := ?_) #[ty, fy, fy, fy, fy] rfl rfl (by kernel_rfl) (fun _ _ _ h => h) (Or.inl ⟨by rfl, ?_⟩) hHeld ?_ ?_; rotate_left; (rintro w' ⟨s0, s1⟩; go_simp; with_reducible rfl); rotate_left; (simp only [Act.put, sA_, sB_, sC_, i6_, i3_]; rfl)
   refine take_ (i := 1) (N := some 40) (v := ?_) (a' := ?_) #[ty, ty, fy, fy, fy] rfl rfl (by kernel_rfl) (fun _ _ _ h => h) (Or.inl ⟨by rfl, ?_⟩) hHeld ?_ ?_; rotate_left; (rintro w' ⟨s0, s1⟩; go_simp; with_reducible rfl); rotate_left; (simp only [Act.put, sA_, sB_, sC_, i6_, i3_]; rfl)
   refine one_ (i := 2) (N := some 41) #[ty, ty, ty, fy, fy] rfl rfl (by kernel_rfl) (by decide) (fun K hK => ?_)
   refine goes_ Tryz.func15 (by kernel_rfl) rfl #[.agg #[.slice A0_0 l0_0.length c0_0]] (by rfl) rfl rfl (by (try simp only [sD_, sE_, sF_]); rfl) ?_
   with_reducible refine (laws_toMachine.calls kj11 _ _ l0_0 t697 _ ?side1 ?side2 A29.out).mono ?_
   (case side1 => repeat (first | exact (k4_ HR0_0.out HB.out) | with_reducible first | apply cA_ | apply cN_ | apply cD_))
   (case side2 => exact HC0_0.out)
   rintro e w33 ⟨v698, rfl, ho0, hb⟩
   refine ⟨_, rfl, ?_⟩
   have n0_ := aM_ (Kd.S_elder' (by (with_reducible repeat (first | apply Kd.S_alloc | apply Kd.S_drewN | apply Kd.S_drew)); exact HO_695000.out) (Kd.S_base ho0) hb)
   have n1_ := aM_ (Kd.S_lower (Kd.S_new' ho0 (Kd.S_lt (by (with_reducible repeat (first | apply Kd.S_alloc | apply Kd.S_drewN | apply Kd.S_drew)); exact HO_695000.out))) (bZ_ HB.out))
   have n2_ := b5_ BK684 hb
   have n3_ := b5_ BK694 hb
   have n4_ := b4_ HB hb
   clear HO_695000
   clear BK684
   clear BK694
   clear HB
   have HO_695000 := n0_
   have HO699 := n1_
   have BK684 := n2_
   have BK694 := n3_
   have HB := n4_
   clear n0_ n1_ n2_ n3_ n4_
   (try clear hb)
   (try clear ho0)
   obtain ⟨Ao34, co34, eo34⟩ := Kd.S_slice HO699.out
   (subst eo34)
   refine hK.out _ _ ⟨(bC_ BK694.out 0).trans rfl, (bC_ BK684.out 0).trans rfl⟩ (fun hHeld => ?_)
   clear hK K
   refine norm_ (by show Act.put _ (some 41) _ = _; simp only [Act.put, sA_, sB_, sC_, i6_, i3_]; rfl) ?_
   refine one_ (i := 3) (N := some 42) #[ty, ty, ty, ty, fy] rfl rfl (by kernel_rfl) (by decide) (fun K hK => ?_)
   refine goes_ Tryz.func18 (by kernel_rfl) rfl #[.agg #[.slice Ao23 t691.length co23], .agg #[.slice Ao34 t697.length co34]] (by rfl) rfl rfl (by (try simp only [sD_, sE_, sF_]); rfl) ?_
   with_reducible refine (laws_eqMachine.calls kj11 _ _ t691 _ _ t697 true _ ?side1 ?side2 ?side3 ?side4 A30.out).mono ?_
   (case side1 => repeat (first | exact (Kd.S_reads' HO_695000.out).2.2 | with_reducible first | apply cA_ | apply cN_ | apply cD_))
   (case side2 => exact (Kd.S_reads' HO_695000.out).2.1)
   (case side3 => repeat (first | exact (Kd.S_reads' HO699.out).2.2 | with_reducible first | apply cA_ | apply cN_ | apply cD_))
   (case side4 => exact (Kd.S_reads' HO699.out).2.1)
   rintro e w35 ⟨rfl, hb⟩
   refine ⟨_, rfl, ?_⟩
   have n0_ := aM_ (Kd.S_below (by (with_reducible repeat (first | apply Kd.S_alloc | apply Kd.S_drewN | apply Kd.S_drew)); exact HO_695000.out) hb)
   have n1_ := aM_ (Kd.S_below (by (with_reducible repeat (first | apply Kd.S_alloc | apply Kd.S_drewN | apply Kd.S_drew)); exact HO699.out) hb)
   have n2_ := b5_ BK684 hb
   have n3_ := b5_ BK694 hb
   have n4_ := b4_ HB hb
   clear HO_695000
   clear HO699
   clear BK684
   clear BK694
   clear HB
   have HO_695000 := n0_
   have HO699 := n1_
   have BK684 := n2_
   have BK694 := n3_
   have HB := n4_
   clear n0_ n1_ n2_ n3_ n4_
   (try clear hb)
   refine hK.out _ _ ⟨(bC_ BK694.out 0).trans rfl, (bC_ BK684.out 0).trans rfl⟩ (fun hHeld => ?_)
   clear hK K
   refine norm_ (by show Act.put _ (some 42) _ = _; simp only [Act.put, sA_, sB_, sC_, i6_, i3_]; rfl) ?_
   refine pure_ (i := 4) (N := some 43) (v := ?_) (a' := ?_) #[ty, ty, ty, ty, ty] rfl rfl (by kernel_rfl) (fun _ _ _ h => h) (Or.inl ⟨by rfl, ?_⟩) ?_ ?_; rotate_left; (intro w'; go_simp; with_reducible rfl); rotate_left; (simp only [Act.put, sA_, sB_, sC_, i6_, i3_]; rfl)
   refine done_ (by kernel_rfl) ?_
   try go_wp2
   go_ret
   exact ⟨by rfl, by exact HB.out⟩
  replace c31 := Bool.eq_false_iff.mpr c31
  subst c31
  replace H : (some false) = some r := by rw [if_neg (show ¬ (false = true) by decide)] at H; exact H
  obtain rfl := Option.some.inj H
  try go_wp2
  have n0_ := aM_ (Kd.S_drew HO_695000.out)
  have n1_ := aM_ (b1_ BK684.out)
  have n2_ := aM_ (b1_ BK694.out)
  have n3_ := aM_ (bD_ HB.out)
  clear HO_695000
  clear BK684
  clear BK694
  clear HB
  have HO_695000 := n0_
  have BK684 := n1_
  have BK694 := n2_
  have HB := n3_
  clear n0_ n1_ n2_ n3_
  refine start_ (n := 5) (S := fun w' => w'.cell? ⟨gb694, 0, none⟩ = some (.slice Ao23 t691.length co23) ∧ w'.cell? ⟨gb684, 0, none⟩ = some (.slice A0_0 l0_0.length c0_0)) (ds := []) #[fy, fy, fy, fy, fy] (by kernel_rfl) rfl rfl ⟨(bC_ BK694.out 0).trans rfl, (bC_ BK684.out 0).trans rfl⟩ (fun hHeld => ?_)
  generalize wc.drew = w36 at HO_695000 BK684 BK694 HB hHeld ⊢
  refine take_ (i := 0) (N := some 39) (v := ?_) (a' := ?_) #[ty, fy, fy, fy, fy] rfl rfl (by kernel_rfl) (fun _ _ _ h => h) (Or.inl ⟨by rfl, ?_⟩) hHeld ?_ ?_; rotate_left; (rintro w' ⟨s0, s1⟩; go_simp; with_reducible rfl); rotate_left; (simp only [Act.put, sA_, sB_, sC_, i6_, i3_]; rfl)
  refine take_ (i := 1) (N := some 40) (v := ?_) (a' := ?_) #[ty, ty, fy, fy, fy] rfl rfl (by kernel_rfl) (fun _ _ _ h => h) (Or.inl ⟨by rfl, ?_⟩) hHeld ?_ ?_; rotate_left; (rintro w' ⟨s0, s1⟩; go_simp; with_reducible rfl); rotate_left; (simp only [Act.put, sA_, sB_, sC_, i6_, i3_]; rfl)
  refine one_ (i := 2) (N := some 41) #[ty, ty, ty, fy, fy] rfl rfl (by kernel_rfl) (by decide) (fun K hK => ?_)
  refine goes_ Tryz.func15 (by kernel_rfl) rfl #[.agg #[.slice A0_0 l0_0.length c0_0]] (by rfl) rfl rfl (by (try simp only [sD_, sE_, sF_]); rfl) ?_
  with_reducible refine (laws_toMachine.calls kj11 _ _ l0_0 t697 _ ?side1 ?side2 A29.out).mono ?_
  (case side1 => repeat (first | exact (k4_ HR0_0.out HB.out) | with_reducible first | apply cA_ | apply cN_ | apply cD_))
  (case side2 => exact HC0_0.out)
  rintro e w37 ⟨v698, rfl, ho0, hb⟩
  refine ⟨_, rfl, ?_⟩
  have n0_ := aM_ (Kd.S_elder' (by (with_reducible repeat (first | apply Kd.S_alloc | apply Kd.S_drewN | apply Kd.S_drew)); exact HO_695000.out) (Kd.S_base ho0) hb)
  have n1_ := aM_ (Kd.S_lower (Kd.S_new' ho0 (Kd.S_lt (by (with_reducible repeat (first | apply Kd.S_alloc | apply Kd.S_drewN | apply Kd.S_drew)); exact HO_695000.out))) (bZ_ HB.out))
  have n2_ := b5_ BK684 hb
  have n3_ := b5_ BK694 hb
  have n4_ := b4_ HB hb
  clear HO_695000
  clear BK684
  clear BK694
  clear HB
  have HO_695000 := n0_
  have HO699 := n1_
  have BK684 := n2_
  have BK694 := n3_
  have HB := n4_
  clear n0_ n1_ n2_ n3_ n4_
  (try clear hb)
  (try clear ho0)
  obtain ⟨Ao38, co38, eo38⟩ := Kd.S_slice HO699.out
  (subst eo38)
  refine hK.out _ _ ⟨(bC_ BK694.out 0).trans rfl, (bC_ BK684.out 0).trans rfl⟩ (fun hHeld => ?_)
  clear hK K
  refine norm_ (by show Act.put _ (some 41) _ = _; simp only [Act.put, sA_, sB_, sC_, i6_, i3_]; rfl) ?_
  refine one_ (i := 3) (N := some 42) #[ty, ty, ty, ty, fy] rfl rfl (by kernel_rfl) (by decide) (fun K hK => ?_)
  refine goes_ Tryz.func18 (by kernel_rfl) rfl #[.agg #[.slice Ao23 t691.length co23], .agg #[.slice Ao38 t697.length co38]] (by rfl) rfl rfl (by (try simp only [sD_, sE_, sF_]); rfl) ?_
  with_reducible refine (laws_eqMachine.calls kj11 _ _ t691 _ _ t697 false _ ?side1 ?side2 ?side3 ?side4 A30.out).mono ?_
  (case side1 => repeat (first | exact (Kd.S_reads' HO_695000.out).2.2 | with_reducible first | apply cA_ | apply cN_ | apply cD_))
  (case side2 => exact (Kd.S_reads' HO_695000.out).2.1)
  (case side3 => repeat (first | exact (Kd.S_reads' HO699.out).2.2 | with_reducible first | apply cA_ | apply cN_ | apply cD_))
  (case side4 => exact (Kd.S_reads' HO699.out).2.1)
  rintro e w39 ⟨rfl, hb⟩
  refine ⟨_, rfl, ?_⟩
  have n0_ := aM_ (Kd.S_below (by (with_reducible repeat (first | apply Kd.S_alloc | apply Kd.S_drewN | apply Kd.S_drew)); exact HO_695000.out) hb)
  have n1_ := aM_ (Kd.S_below (by (with_reducible repeat (first | apply Kd.S_alloc | apply Kd.S_drewN | apply Kd.S_drew)); exact HO699.out) hb)
  have n2_ := b5_ BK684 hb
  have n3_ := b5_ BK694 hb
  have n4_ := b4_ HB hb
  clear HO_695000
  clear HO699
  clear BK684
  clear BK694
  clear HB
  have HO_695000 := n0_
  have HO699 := n1_
  have BK684 := n2_
  have BK694 := n3_
  have HB := n4_
  clear n0_ n1_ n2_ n3_ n4_
  (try clear hb)
  refine hK.out _ _ ⟨(bC_ BK694.out 0).trans rfl, (bC_ BK684.out 0).trans rfl⟩ (fun hHeld => ?_)
  clear hK K
  refine norm_ (by show Act.put _ (some 42) _ = _; simp only [Act.put, sA_, sB_, sC_, i6_, i3_]; rfl) ?_
  refine pure_ (i := 4) (N := some 43) (v := ?_) (a' := ?_) #[ty, ty, ty, ty, ty] rfl rfl (by kernel_rfl) (fun _ _ _ h => h) (Or.inl ⟨by rfl, ?_⟩) ?_ ?_; rotate_left; (intro w'; go_simp; with_reducible rfl); rotate_left; (simp only [Act.put, sA_, sB_, sC_, i6_, i3_]; rfl)
  refine done_ (by kernel_rfl) ?_
  try go_wp2
  go_ret
  exact ⟨by rfl, by exact HB.out⟩
def laws_FnExactWordNumbered.Pure : Prop := ∀ (l0_0 : List S90) (a1 : Int), l0_0.length ≤ 9223372036854775807 → (∀ x ∈ l0_0, x.f1.length ≤ 9223372036854775807) → (Lit.int .i64 a1).wf = true → ∃ k, laws_FnExactWordNumbered.f k l0_0 a1 = some true
theorem laws_FnExactWordNumbered.walk (P : laws_FnExactWordNumbered.Pure) (w : World) (A0 : Option Addr) (c0 : Nat) (l0_0 : List S90) (hr0 : Kd.C k90 w A0 l0_0.length l0_0) (hc0 : l0_0.length ≤ c0) (a1 : Int) (w1 : (Lit.int .i64 a1).wf = true) :
  Calls Tryz.prog 7 #[.agg #[.slice A0 l0_0.length c0], .int .i64 a1] w fun e w' => e = .returned (.bool true) ∧ Below w.heap.size w w' := by
 obtain ⟨k, h⟩ := P l0_0 a1 hr0.2.1 (by intro x hx; obtain ⟨i, hi, rfl⟩ := List.getElem_of_mem hx; obtain ⟨_, _, _, _, _, _, _, h9⟩ := at_T90 hr0 (i : Int) (by omega) (by omega); have h8 := h9.2.1; unfold rd_T90 at h8; rw [Int.toNat_natCast, List.getD_eq_getElem?_getD, List.getElem?_eq_getElem hi] at h8; exact h8) w1
 refine (laws_FnExactWordNumbered.calls k _ _ l0_0 a1 true w hr0 hc0 h).mono ?_
 rintro e w' ⟨rfl, hd⟩
 exact ⟨rfl, hd⟩
end Go.Proofs.YtnnkedeohfbkeaaGreatDoor.P
namespace Go.Proofs.YtnnkedeohfbkeaaGreatDoor.L
open Go.RowKit Go.Proofs.YtnnkedeohfbkeaaGreatDoor.P Go.Proofs.YtnnkedeohfbkeaaGreatDoor.M Go.Proofs.YtnnkedeohfbkeaaGreatDoorW.PrintWords Go.Proofs.YtnnkedeohfbkeaaGreatDoorW.PrintLast Go.Proofs.YtnnkedeohfbkeaaGreatDoorW.PrintMore
theorem node_ne (a b : S96) : (!(a.f0 == b.f0) || (!(a.f1 == b.f1) || (!(a.f2 == b.f2)))) = decide (a ≠ b) := by
 obtain ⟨a0, a1, a2⟩ := a
 obtain ⟨b0, b1, b2⟩ := b
 rw [Bool.eq_iff_iff]
 simp only [Bool.or_eq_true, Bool.not_eq_true', beq_eq_false_iff_ne, decide_eq_true_eq, ne_eq, S96.mk.injEq]
 constructor
 ·
  rintro (h | h | h) ⟨e1, e2, e3⟩
  ·
   exact h e1
  ·
   exact h e2
  exact h e3
 intro h
 by_cases e1 : a0 = b0
 ·
  by_cases e2 : a1 = b1
  ·
   exact .inr (.inr fun e3 => h ⟨e1, e2, e3⟩)
  exact .inr (.inl e2)
 exact .inl e1
theorem isSorted_loop (ws : List Txt) (hl : ws.length ≤ 4611686018427387903) : ∀ (n : Nat), n < ws.length → ∃ b : Bool, (b = true ↔ ∀ j, j < n → ¬ ws.getD (j + 1) [] < ws.getD j []) ∧ Ev (fun k => slices_IsSorted_string_string.l0 k (ws.map B) (n : Int)) b := by
 intro n
 induction n with
 | zero =>
  intro _
  exact ⟨true, by simp, Ev.step (fun k => slices_IsSorted_string_string.l0.eq_2 ..) (Ev.ifF (by simp) (Ev.now _))⟩
 | succ n ih =>
  intro hn
  have hw : wrap64 (((n + 1 : Nat) : Int) - 1) = (n : Int) := by rw [wrap64_id (by omega) (by omega)]; omega
  by_cases hlt : ws.getD (n + 1) [] < ws.getD n []
  ·
   refine ⟨false, ?_, Ev.step (fun k => slices_IsSorted_string_string.l0.eq_2 ..) (Ev.ifT (by omega) (Ev.ifT (by omega) (Ev.ifT (by rw [List.length_map]; omega) (Ev.ifT (by rw [hw]; omega) (Ev.ifT (by rw [hw, List.length_map]; omega) ?_)))))⟩
   ·
    simp only [Bool.false_eq_true, false_iff]
    exact fun h => h n (Nat.lt_succ_self n) hlt
   rw [hw, rdB ws (n + 1) hn, rdB ws n (by omega), less_eq, decide_eq_true hlt]
   exact Ev.some_bind (Ev.ifT rfl (Ev.now _))
  obtain ⟨b, hb, he⟩ := ih (by omega)
  refine ⟨b, hb.trans ⟨fun h j hj => ?_, fun h j hj => h j (by omega)⟩, Ev.step (fun k => slices_IsSorted_string_string.l0.eq_2 ..) (Ev.ifT (by omega) (Ev.ifT (by omega) (Ev.ifT (by rw [List.length_map]; omega) (Ev.ifT (by rw [hw]; omega) (Ev.ifT (by rw [hw, List.length_map]; omega) ?_)))))⟩
  ·
   by_cases e : j = n
   ·
    rw [e]; exact hlt
   exact h j (by omega)
  rw [hw, rdB ws (n + 1) hn, rdB ws n (by omega), less_eq, decide_eq_false hlt]
  exact Ev.some_bind (Ev.ifF Bool.false_ne_true he)
theorem isSorted_ev (ws : List Txt) (hl : ws.length ≤ 4611686018427387903) : ∃ b : Bool, (b = true ↔ Srt ws) ∧ Ev (fun k => slices_IsSorted_string_string.f k (ws.map B)) b := by
 unfold slices_IsSorted_string_string.f
 rcases Nat.eq_zero_or_pos ws.length with h0 | h0
 ·
  refine ⟨true, ⟨fun _ j hj => by omega, fun _ => rfl⟩, ?_⟩
  rw [List.length_map, h0]
  exact Ev.step (fun k => slices_IsSorted_string_string.l0.eq_2 ..) (Ev.ifF (by rw [wrap64_id (by omega) (by omega)]; omega) (Ev.now _))
 obtain ⟨b, hb, he⟩ := isSorted_loop ws hl (ws.length - 1) (by omega)
 refine ⟨b, hb.trans ⟨fun h j hj => h j (by omega), fun h j hj => h j (by omega)⟩, ?_⟩
 rw [List.length_map, show wrap64 ((ws.length : Int) - 1) = ((ws.length - 1 : Nat) : Int) from by rw [wrap64_id (by omega) (by omega)]; omega]
 exact he
theorem equal_loop (M N : List Nd) (hM : M.length ≤ 4611686018427387903) (he : M.length = N.length) : ∀ (d i : Nat), i + d = M.length → Ev (fun k => impl_Node.l0 k M N (M.length : Int) (i : Int)) (decide (M.drop i = N.drop i)) := by
 intro d
 induction d with
 | zero =>
  intro i h1
  refine Ev.step (fun k => impl_Node.l0.eq_2 ..) (Ev.ifF (by omega) ?_)
  rw [decide_eq_true (show M.drop i = N.drop i by rw [List.drop_of_length_le (by omega), List.drop_of_length_le (by omega)])]
  exact Ev.now _
 | succ d ih =>
  intro i h1
  refine Ev.step (fun k => impl_Node.l0.eq_2 ..) (Ev.ifT (by omega) (Ev.ifT (by omega) (Ev.ifT (by omega) (Ev.ifT (by omega) ?_))))
  rw [node_ne, rd_get M i (by omega), rd_get N i (by omega), List.drop_eq_getElem_cons (show i < M.length by omega), List.drop_eq_getElem_cons (show i < N.length by omega)]
  by_cases e : M[i] = N[i]
  ·
   refine Ev.ifF (by simp [e]) ?_
   rw [wrap64_succ i (by omega), show decide (M[i] :: M.drop (i + 1) = N[i] :: N.drop (i + 1)) = decide (M.drop (i + 1) = N.drop (i + 1)) from decide_eq_decide.2 ⟨fun h => (List.cons.inj h).2, fun h => by rw [e, h]⟩]
   exact ih (i + 1) (by omega)
  refine Ev.ifT (by simp [e]) ?_
  rw [show decide (M[i] :: M.drop (i + 1) = N[i] :: N.drop (i + 1)) = false from decide_eq_false fun h => e (List.cons.inj h).1]
  exact Ev.now _
theorem equal_ev (M N : List Nd) (hM : M.length ≤ 4611686018427387903) : Ev (fun k => impl_Node.f k M N) (decide (M = N)) := by
 unfold impl_Node.f
 by_cases he : M.length = N.length
 ·
  refine Ev.ifT (by omega) ?_
  have := equal_loop M N hM he M.length 0 (by omega)
  rwa [List.drop_zero, List.drop_zero] at this
 rw [decide_eq_false fun e => he (by rw [e])]
 exact Ev.ifF (by omega) (Ev.now _)
theorem isTrie_ev (N : List Nd) : ∃ b : Bool, (b = true ↔ IsTr N) ∧ Ev (fun k => impl_isTrie.f k N) b := by
 have hpre := prefixes_ev N
 have no : ∀ M : List Nd, Ev (fun k => impl_isTrie.j0 k true M) false := fun M => Ev.step (fun k => impl_isTrie.j0.eq_2 ..) (Ev.ifT rfl (Ev.now _))
 cases hp : prefN N with
 | none =>
  rw [hp] at hpre
  refine ⟨false, ?_, ?_⟩
  ·
   simp only [Bool.false_eq_true, false_iff]
   rintro ⟨ws, h, rfl⟩
   rw [prefN_tr h] at hp; cases hp
  unfold impl_isTrie.f
  exact Ev.bind hpre (Ev.ifF Bool.false_ne_true (no N))
 | some ps =>
  rw [hp] at hpre
  obtain ⟨w1, w2, w3, w4⟩ := words_of hp
  have hany : impl_isTrie_any.f (ps.map B) = some (decide (∃ p ∈ ps, 12 < p.length)) := by
   unfold impl_isTrie_any.f
   congr 1
   rw [Bool.eq_iff_iff, List.any_eq_true, decide_eq_true_eq]
   constructor
   ·
    rintro ⟨x, hx, e⟩
    obtain ⟨y, hy, rfl⟩ := List.mem_map.1 hx
    refine ⟨y, hy, ?_⟩
    unfold impl_isTrie_any.p at e
    rw [size_B, decide_eq_true_eq] at e
    omega
   rintro ⟨y, hy, e⟩
   refine ⟨B y, List.mem_map.2 ⟨y, hy, rfl⟩, ?_⟩
   unfold impl_isTrie_any.p
   rw [size_B, decide_eq_true_eq]
   omega
  by_cases hlong : ∃ p ∈ ps, 12 < p.length
  ·
   rw [decide_eq_true hlong] at hany
   refine ⟨false, ?_, ?_⟩
   ·
    simp only [Bool.false_eq_true, false_iff]
    rintro ⟨ws, h, rfl⟩
    rw [prefN_tr h] at hp
    obtain rfl := Option.some.inj hp
    obtain ⟨p, hpm, hpl⟩ := hlong
    have := (wordL_iff.1 (preL_word h.word hpm)).2
    omega
   unfold impl_isTrie.f
   refine Ev.bind hpre (Ev.ifT rfl ?_)
   show Ev (fun k => (impl_isTrie_any.f (ps.map B)).bind _) false
   rw [hany]
   exact Ev.some_bind (no N)
  rw [decide_eq_false hlong] at hany
  have hword : ∀ w ∈ wordsGo N ps, wordL w = true := fun w hw => by
   have hm := wordsGo_mem N ps w hw
   refine wordL_iff.2 ⟨w3 w hm, ?_⟩
   rcases Nat.lt_or_ge 12 w.length with h | h
   ·
    exact absurd ⟨w, hm, h⟩ hlong
   exact h
  have hwl := wordsGo_len N ps
  have hcase : ∀ b : Bool, Ev (fun k => impl_isTrie.j0 k false N) b → Ev (fun k => impl_isTrie.f k N) b := fun b hb => by
   unfold impl_isTrie.f
   refine Ev.bind hpre (Ev.ifT rfl ?_)
   show Ev (fun k => (impl_isTrie_any.f (ps.map B)).bind _) b
   rw [hany]
   exact Ev.some_bind hb
  have hval : ∀ ws, OkW ws → N = trN (preL ws) ws → wordsGo N ps = ws := fun ws h e => by
   subst e
   rw [prefN_tr h] at hp
   obtain rfl := Option.some.inj hp
   have : trN (preL ws) ws = (preL ws).map fun p => mkN (ndL (preL ws) ws p) := by unfold trN nodesL; rw [List.map_map]; rfl
   rw [this, wordsGo_tr, filter_preL h.asc]
  by_cases h40 : (wordsGo N ps).length ≤ 40
  rotate_left
  ·
   refine ⟨false, ?_, hcase _ (Ev.step (fun k => impl_isTrie.j0.eq_2 ..) (Ev.ifF Bool.false_ne_true (Ev.bind w4 (Ev.ifF (by rw [List.length_map]; omega) (Ev.now _)))))⟩
   simp only [Bool.false_eq_true, false_iff]
   rintro ⟨ws, h, e⟩
   rw [hval ws h e] at h40
   exact h40 h.len
  obtain ⟨b, hb, hsv⟩ := isSorted_ev (wordsGo N ps) (by omega)
  by_cases hs : Srt (wordsGo N ps)
  ·
   have hbt := hb.2 hs
   subst hbt
   refine ⟨decide (trN (preL (wordsGo N ps)) (wordsGo N ps) = N), ?_, hcase _ ?_⟩
   ·
    rw [decide_eq_true_eq]
    constructor
    ·
     intro e
     refine ⟨setL (wordsGo N ps), ⟨asc_setL _, Nat.le_trans (setL_length_le _) h40, fun w hw => hword w ((mem_setL _ w).1 hw)⟩, ?_⟩
     rw [← trN_set, e]
    rintro ⟨ws, h, e⟩
    rw [hval ws h e, e]
   refine Ev.step (fun k => impl_isTrie.j0.eq_2 ..) (Ev.ifF Bool.false_ne_true (Ev.bind w4 (Ev.ifT (by rw [List.length_map]; omega) (Ev.bind hsv (Ev.ifT rfl (Ev.bind (trieOf_srt hs hword (by omega)) (Ev.bind (equal_ev _ _ ?_) (Ev.now _))))))))
   rw [trN_length]
   have := preL_length (ws := wordsGo N ps) (fun w hw => (wordL_iff.1 (hword w hw)).2)
   omega
  have hbf : b = false := by
   cases b with
   | false => rfl
   | true => exact absurd (hb.1 rfl) hs
  subst hbf
  refine ⟨false, ?_, hcase _ (Ev.step (fun k => impl_isTrie.j0.eq_2 ..) (Ev.ifF Bool.false_ne_true (Ev.bind w4 (Ev.ifT (by rw [List.length_map]; omega) (Ev.bind hsv (Ev.ifF Bool.false_ne_true (Ev.now _)))))))⟩
  simp only [Bool.false_eq_true, false_iff]
  rintro ⟨ws, h, e⟩
  exact hs (by rw [hval ws h e]; exact srt_asc h.asc)
end Go.Proofs.YtnnkedeohfbkeaaGreatDoor.L
namespace Go.Proofs.YtnnkedeohfbkeaaGreatDoor.Pure
open Go.RowKit Go.Proofs.YtnnkedeohfbkeaaGreatDoor.P Go.Proofs.YtnnkedeohfbkeaaGreatDoor.M Go.Proofs.YtnnkedeohfbkeaaGreatDoorW.PrintWords Go.Proofs.YtnnkedeohfbkeaaGreatDoorW.PrintLast Go.Proofs.YtnnkedeohfbkeaaGreatDoorW.PrintMore
open Go.Proofs.YtnnkedeohfbkeaaGreatDoor.L
open Mach
theorem isTrie_yes {ws : List Txt} (h : OkW ws) : Ev (fun k => impl_isTrie.f k (trN (preL ws) ws)) true := by
 obtain ⟨b, hb, he⟩ := isTrie_ev (trN (preL ws) ws)
 rw [hb.2 ⟨ws, h, rfl⟩] at he
 exact he
theorem both (m : List Stt) (a : Int) (hx : ∀ x ∈ m, x.f1.length ≤ 1048576) : ∃ r : ByteArray × Bool, Ev (fun k => spec_WordNumbered.f k m a) r ∧ Ev (fun k => impl_WordNumbered.f k m a) r := by
 unfold spec_WordNumbered.f impl_WordNumbered.f
 rcases mach_both m hx with ⟨ws, h, rfl, h1, h2⟩ | ⟨h1, h2⟩
 ·
  have h40 := h.len
  have e1 : wrap64 (((ws.map B).length : Int) - 1) = (ws.length : Int) - 1 := by rw [List.length_map]; exact wrap64_id (by omega) (by omega)
  by_cases ha : 0 ≤ a ∧ a ≤ (ws.length : Int) - 1
  ·
   have hW : Ev (fun k => impl_WordAt.f k (trN (preL ws) ws) a) (rdOf ByteArray.empty (ws.map B) a, true) := by
    unfold impl_WordAt.f
    refine Ev.bind (isTrie_yes h) (Ev.ifT rfl (Ev.bind (words_ev h) ?_))
    rw [e1, Mach.in_eq, decide_eq_true ha]
    exact Ev.some_bind (Ev.ifT rfl (Ev.bind (words_ev h) (Ev.ifT ha.1 (Ev.ifT (by rw [List.length_map]; omega) (Ev.now _)))))
   refine ⟨(rdOf ByteArray.empty (ws.map B) a, true), Ev.bind h1 (Ev.ifT rfl (Ev.bind (l7Words_ev h) ?_)), Ev.bind h2 (Ev.ifT rfl (Ev.bind hW (Ev.now _)))⟩
   rw [e1, l1In_eq, decide_eq_true ha]
   exact Ev.some_bind (Ev.ifT rfl (Ev.ifT ha.1 (Ev.ifT (by rw [List.length_map]; omega) (Ev.now _))))
  have hW : Ev (fun k => impl_WordAt.f k (trN (preL ws) ws) a) ((⟨#[]⟩ : ByteArray), false) := by
   unfold impl_WordAt.f
   refine Ev.bind (isTrie_yes h) (Ev.ifT rfl (Ev.bind (words_ev h) ?_))
   rw [e1, Mach.in_eq, decide_eq_false ha]
   exact Ev.some_bind (Ev.ifF Bool.false_ne_true (Ev.now _))
  refine ⟨((⟨#[]⟩ : ByteArray), false), Ev.bind h1 (Ev.ifT rfl (Ev.bind (l7Words_ev h) ?_)), Ev.bind h2 (Ev.ifT rfl (Ev.bind hW (Ev.now _)))⟩
  rw [e1, l1In_eq, decide_eq_false ha]
  exact Ev.some_bind (Ev.ifF Bool.false_ne_true (Ev.now _))
 exact ⟨((⟨#[]⟩ : ByteArray), false), Ev.bind h1 (Ev.ifF Bool.false_ne_true (Ev.now _)), Ev.bind h2 (Ev.ifF Bool.false_ne_true (Ev.now _))⟩
theorem FnExactWordNumbered : laws_FnExactWordNumbered.Pure := by
 intro l a hl hx _
 refine Ev.rounds ?_
 unfold laws_FnExactWordNumbered.f
 obtain ⟨c, hc, hr⟩ := szMachine_ev l hl hx
 refine Ev.bind hc ?_
 rcases hr with hneg | ⟨h0, h1, h2⟩
 ·
  exact Ev.ifT hneg (Ev.now _)
 obtain ⟨r, e1, e2⟩ := both (toM l) a (toM_edges h2)
 have ht := toMachine_ev l h1 h2
 have he := MMk.eqMachine_ev (toM l) (by rw [toM_length]; omega) (fun x hx => by have := toM_edges h2 x hx; omega)
 exact Ev.ifF (by omega) (Ev.bind ht (Ev.bind e1 (Ev.bind ht (Ev.bind e2 (Ev.ifT rfl (Ev.step (fun k => laws_FnExactWordNumbered.j0.eq_2 ..) (Ev.ifF (by simp) (Ev.bind ht (Ev.bind he (Ev.ifT rfl (Ev.now _)))))))))))
end Go.Proofs.YtnnkedeohfbkeaaGreatDoor.Pure
namespace Go.Proofs.YtnnkedeohfbkeaaGreatDoor.fnExactWordNumbered
open Go.ChangeShapes Go.WideShapes Go.ChangeAt Go.RowKit Go.Proofs.YtnnkedeohfbkeaaGreatDoor.P
open Go.ChangeMaps (open_string shut_string)
def laidL : List (String × DataW Unit) := [("unicode/utf8.acceptRanges", Rows.laid_unicode_utf8_acceptRanges), ("unicode/utf8.first", Rows.laid_unicode_utf8_first)]
theorem own : ownKnob Tryz.prog.godebug = none := by kernel_rfl
theorem laidOut : laidOutB Tryz.prog = true := by kernel_rfl
theorem lifted (os : Os) (started : os.Started) (H : Type) (enc : TypeId × Value → H) :
    ReturnsInHanded {} Tryz.checked os 7 .any (fun w args => (Rows.fnExactWordNumberedSpec.pre enc Tryz.prog Tryz.f7 [] false w args ∧ laidMetH Tryz.prog laidL w) ∧ sizedMet enc Tryz.prog Tryz.f7 (OpenSpec.ofChange Rows.fnExactWordNumberedSpec) false w args) (Rows.fnExactWordNumberedSpec.post enc Tryz.prog Tryz.f7 false true false false) := by
  refine returnsInHanded_of_change_and (C := Tryz.checked) (X := fun w _ => laidMetH Tryz.prog laidL w) (fun _ _ _ hh h => h.of_heap hh) own started (by kernel_rfl) Tryz.func7
    (ChangeSpec.witness_shaped (enc := enc) (C := Tryz.checked) (os := os) (X := fun w _ => laidMetH Tryz.prog laidL w) false (World.laidAll Tryz.prog os laidL) #[.agg #[.slice none 0 0], .int .i64 0] 8 (World.laidAll_os _ _ _) (World.shaped_of_ZipB (by kernel_rfl) (by kernel_rfl)) (by kernel_rfl) (by kernel_rfl) (by kernel_rfl)
      (by rw [MakeChecks.laidMetH_plain _ _ _ (by kernel_rfl)]; exact laidMet_laidAll _ (by kernel_rfl) (by kernel_rfl))) ?_
  intro W base args ds gs before hval0 hW hcnd hsz0 hL_ _
  have hsz : (DataW.weightsEach Tryz.prog (Tryz.f7.params.toList ++ Rows.fnExactWordNumberedSpec.plain.varTypes Tryz.prog) (ds ++ gs)).all (· ≤ reachBytes) = true := hsz0
  have hval : ∀ (j : Nat) t v, Tryz.f7.params[j]? = some t → args[j]? = some v → Value.okWide Tryz.prog W .any base t v := hval0
  have hW' := hW
  obtain ⟨p, q, hA0, hV, rfl, hfz, hnd⟩ := hW
  have hA : DataW.TrodAll enc Tryz.prog W 0 (fun _ => true) true Tryz.f7.params.toList args.toList ds p := hA0
  rw [Tryz.params7] at hA hval hsz
  obtain ⟨v0, vs0, d0, ds0, p0, q0, hargs, rfl, rfl, h0, r0⟩ := trodAll_cons hA
  obtain ⟨v1, vs1, d1, ds1, p1, q1, rfl, rfl, rfl, h1, r1⟩ := trodAll_cons r0
  obtain ⟨rfl, rfl, rfl⟩ := trodAll_nil r1
  obtain rfl : args = #[v0, v1] := by cases args; simp_all
  obtain ⟨rfl, rfl⟩ := trodVars_none hV
  have k0 := h0
  have lt0 : ∀ x ∈ p0, x.block < W.heap.size := by obtain ⟨m, hm⟩ := k0; exact DataW.trod_lt m _ _ _ hm
  obtain ⟨A0, c0, l0, ev0, hc0, hr0⟩ := OM.machine (hval 0 24 v0 rfl rfl) h0
  subst ev0
  obtain ⟨a1, rfl, rfl, rfl, w1⟩ := open_int Tryz.underlying3 (hval 1 3 v1 rfl rfl) h1
  clear hA0 hval0 hsz0 hsz
  refine (laws_FnExactWordNumbered.walk Pure.FnExactWordNumbered W A0 c0 l0 hr0 hc0 a1 w1).mono fun e W' ⟨he, bel⟩ => ?_
  subst he
  exact ⟨_, rfl, _, _, _, [], _, [], hW', trodAll_mk1 (shut_bool Tryz.underlying4 _), (trodAll_cons_mk (Below.trod laidOut (by kernel_rfl) (of_decide_eq_true (by kernel_rfl)) k0 bel lt0) (trodAll_cons_mk (shut_int Tryz.underlying3 w1) trodAll_mk0)), rfl, bel.frame _, fun h => by cases h⟩
theorem over : Rows.fnExactWordNumberedRow.holds Tryz.pinned (OpenSpec.ofChange Rows.fnExactWordNumberedSpec) :=
  OpenClaim.holds_of_wide 7 Tryz.f7 rfl rfl rfl rfl rfl rfl rfl ⟨rfl, rfl, rfl, rfl, rfl⟩ rfl rfl rfl rfl rfl (by kernel_rfl) Tryz.func7 (by kernel_rfl)
    (of_decide_eq_true (by kernel_rfl)) (by unfold Func.isWrapper; first | (rw [if_pos (by decide +kernel)]; kernel_rfl) | (rw [if_neg (by decide +kernel)]; exact ⟨rfl, rfl⟩))
    (fun os started H enc _ => lifted os started H enc)
theorem proved : Rows.FnExactWordNumberedSaid := over
end Go.Proofs.YtnnkedeohfbkeaaGreatDoor.fnExactWordNumbered
namespace Go.Proofs.YtnnkedeohfbkeaaGreatDoor
theorem fnExactWordNumbered_holds : Rows.FnExactWordNumberedSaid := fnExactWordNumbered.proved
theorem fnExactWordNumbered_card : Rows.FnExactWordNumberedCardSaid :=
  Claim7.holds_tied_plain_at .later [] [.data, .pinned] true (true, "d24746f385e5a6b2389916c9b9ccdfc43770af261716950c3f87901a77ac8579") false
    fnExactWordNumbered_holds (fun _ h => by cases h) (by kernel_rfl) (fun _ h => by cases h) fnExactWordNumbered_row_tie rfl ⟨rfl, rfl⟩ (by kernel_rfl) rfl
    (fun f fn hf hfn => by
      obtain rfl : f = 7 := Option.some.inj ((show Tryz.prog.funcNamed "loop.example/g01243/laws.FnExactWordNumbered" = some 7 by kernel_rfl).symm.trans hf) |>.symm
      obtain rfl : fn = Tryz.f7 := (Option.some.inj (Tryz.func7.symm.trans hfn)).symm
      exact ⟨by kernel_rfl, fun j t ht => by
        rw [Tryz.params7] at ht
        have hm : t ∈ [24, 3] := by simpa using Array.mem_of_getElem? ht
        have hall : ([24, 3].all fun u => !Tryz.prog.wantsStandIn u) = true := by kernel_rfl
        exact (show Tryz.prog.wantsStandIn t = false by simpa using List.all_eq_true.1 hall t hm)⟩)
    (by kernel_rfl)
end Go.Proofs.YtnnkedeohfbkeaaGreatDoor
