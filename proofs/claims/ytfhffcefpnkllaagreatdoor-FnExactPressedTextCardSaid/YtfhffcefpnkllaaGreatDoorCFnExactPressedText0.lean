/-
  Part 1 of the proof that FnExactPressedText returns true for every input: the functions that it reaches, each with its contract, and the law.
  Conditions: those of the given statement, no others.
-/
import Derived.Test.YtfhffcefpnkllaaGreatDoorKcW0
import Derived.Test.YtfhffcefpnkllaaGreatDoorProg
import Derived.Ground.NamesProg
import Derived.Shelf.Strings.OnBuilder
import Derived.Shelf.Abstract
import Derived.Lib.Join
import Derived.Test.YtfhffcefpnkllaaGreatDoorRows
import Derived.WalkKit
import Derived.ProofKit
import Derived.OpenShut
import Derived.ShutString
import Derived.ChangeOld
import Derived.Below
import Derived.SizedLaws
import Derived.Lay
import Derived.LaidOnce
import Derived.SevenTiedAt
import Derived.Test.YtfhffcefpnkllaaGreatDoorCards
import Derived.Test.YtfhffcefpnkllaaGreatDoorTie
import Derived.Test.YtfhffcefpnkllaaGreatDoorKc0
import Derived.Test.YtfhffcefpnkllaaGreatDoorKc1
import Derived.Test.YtfhffcefpnkllaaGreatDoorKc3
import Derived.Test.YtfhffcefpnkllaaGreatDoorKc2
import Derived.Test.YtfhffcefpnkllaaGreatDoorKc4
set_option linter.unusedVariables false
set_option linter.unusedSimpArgs false
set_option maxHeartbeats 8000000
set_option maxRecDepth 100000
namespace Go.Proofs.YtfhffcefpnkllaaGreatDoor.P
open Go.RowKit Go.Proofs.YtfhffcefpnkllaaGreatDoorW.PrintWords Go.Proofs.YtfhffcefpnkllaaGreatDoorW.PrintLast Go.Proofs.YtfhffcefpnkllaaGreatDoorW.PrintMore
open Go.Proofs.YtfhffcefpnkllaaGreatDoorW.PrintWords renaming blk_frozen → bF_, blk_cell → bC_, below_set → bS_, blk_below → bB_, below_step → bT_, pw_below_drewN → bN_, below_size → bZ_, below_drew1 → bD_, below_alloc → bA_, blk_far → bR_, gate_callee → gC_, gate_dst → gD_, box_event → bE_, blk_drew → b1_, blk_put → bP_, blk_drewN → b2_, blk_alloc → b3_, blk_lt → bL_, cell_far → cF_
open Go.Proofs.YtfhffcefpnkllaaGreatDoorW.PrintLast renaming any_of → aO_, i64_w → i6_, i32_w → i3_, take_ofW → tW_
open Go.Proofs.YtfhffcefpnkllaaGreatDoorW.PrintWords.Kd renaming R_below → kB_, R_mono → kM_, R_far → kF_, R_reads' → kR_, R_types → kT_, R_slice → kS_, R_celln → kC_, R_alloc → k1_, R_drewN → k2_, R_drew → k3_, C_below → k4_, R_lower → k5_, R_ne → k6_, own_blk → k7_
open Go.Proofs.YtfhffcefpnkllaaGreatDoorW.PrintWords.LeO renaming none → l0_, bind → l1_, ite → l2_, refl → l3_
open World renaming block_lt_of_cell? → wB_
open _root_.Option renaming bind_eq_some_iff → oB_
open _root_.ByteArray renaming empty → eB_
open List renaming setIfInBounds_toArray → sA_, set_cons_zero → sB_, set_cons_succ → sC_, map_toArray → sD_, map_cons → sE_, map_nil → sF_, length_drop → sG_, length_take → sH_
open Bool renaming true → ty, false → fy
open Aside0 renaming mk → aM_
attribute [local go_sem] max2_int min2_int max_two min_two max_three min_three max_four min_four
mutual
def spec_l4Text.j0 : Nat → Int → ByteArray → ByteArray → List (S60) → Option (ByteArray)
 | 0, _, _, _, _ => none
 | k + 1, x1, x5, x6, x592000 => spec_l4Text.l0 k x1 x5 x6 (wrap64 (x1 + 1)) x592000
def spec_l4Text.l0 : Nat → Int → ByteArray → ByteArray → Int → List (S60) → Option (ByteArray)
 | 0, _, _, _, _, _ => none
 | k + 1, x1, x5, x6, x7, x592000 => if x7 < (x592000.length : Int) then (if 0 ≤ x7 then (if ((rd_T60 x592000 x7).f1) = x1 then (if x6.toList = ([] : List UInt8) then ((spec_l4Text.f k x592000 x7).bind fun t595 => (if x6.size + t595.size ≤ 9223372036854775807 then (spec_l4Text.l0 k x1 x5 (x6 ++ t595) (wrap64 (x7 + 1)) x592000) else (none))) else (if x6.size + 1 ≤ 9223372036854775807 then ((spec_l4Text.f k x592000 x7).bind fun t596 => (if (x6 ++ (⟨#[44]⟩ : ByteArray)).size + t596.size ≤ 9223372036854775807 then (spec_l4Text.l0 k x1 x5 ((x6 ++ (⟨#[44]⟩ : ByteArray)) ++ t596) (wrap64 (x7 + 1)) x592000) else (none))) else (none))) else (spec_l4Text.l0 k x1 x5 x6 (wrap64 (x7 + 1)) x592000)) else (none)) else (if x6.toList = ([] : List UInt8) then (some x5) else (if x5.size + 1 ≤ 9223372036854775807 then (if (x5 ++ (⟨#[40]⟩ : ByteArray)).size + x6.size ≤ 9223372036854775807 then (if ((x5 ++ (⟨#[40]⟩ : ByteArray)) ++ x6).size + 1 ≤ 9223372036854775807 then (some (((x5 ++ (⟨#[40]⟩ : ByteArray)) ++ x6) ++ (⟨#[41]⟩ : ByteArray))) else (none)) else (none)) else (none)))
def spec_l4Text.f : Nat → List (S60) → Int → Option (ByteArray)
 | 0, _, _ => none
 | k + 1, l0_0, a1 => if 0 ≤ a1 then (if a1 < (l0_0.length : Int) then (if (rd_T60 l0_0 a1).f2 = true then (if ((rd_T60 l0_0 a1).f0).size + 1 ≤ 9223372036854775807 then (spec_l4Text.j0 k a1 (((rd_T60 l0_0 a1).f0) ++ (⟨#[46]⟩ : ByteArray)) (⟨#[]⟩ : ByteArray) l0_0) else (none)) else (spec_l4Text.j0 k a1 ((rd_T60 l0_0 a1).f0) (⟨#[]⟩ : ByteArray) l0_0)) else (none)) else (none)
end
theorem spec_l4Text.mono_l : ∀ k, (∀ y0 y1, LeO (spec_l4Text.f k y0 y1) (spec_l4Text.f (k + 1) y0 y1)) ∧ (∀ y0 y1 y2 y3, LeO (spec_l4Text.j0 k y0 y1 y2 y3) (spec_l4Text.j0 (k + 1) y0 y1 y2 y3)) ∧ (∀ y0 y1 y2 y3 y4, LeO (spec_l4Text.l0 k y0 y1 y2 y3 y4) (spec_l4Text.l0 (k + 1) y0 y1 y2 y3 y4))
 | 0 => ⟨fun _ _ r h => by simp [spec_l4Text.f] at h, fun _ _ _ _ r h => by simp [spec_l4Text.j0] at h, fun _ _ _ _ _ r h => by simp [spec_l4Text.l0] at h⟩
 | k + 1 => by
  obtain ⟨ih0, ih1, ih2⟩ := spec_l4Text.mono_l k
  refine ⟨?_, ?_, ?_⟩
  ·
   intro y0 y1
   unfold spec_l4Text.f
   repeat' first
   | (with_reducible exact ih0 _ _)
   | (with_reducible exact ih1 _ _ _ _)
   | (with_reducible exact ih2 _ _ _ _ _)
   | (with_reducible exact l3_ _)
   | (with_reducible exact l0_ _)
   | (with_reducible refine l2_ ?_ ?_)
   | (with_reducible refine l1_ ?_ (fun _ => ?_))
   | exact ih0 _ _
   | exact ih1 _ _ _ _
   | exact ih2 _ _ _ _ _
   | exact l0_ _
   | refine l2_ ?_ ?_
   | refine l1_ ?_ (fun _ => ?_)
  ·
   intro y0 y1 y2 y3
   unfold spec_l4Text.j0
   repeat' first
   | (with_reducible exact ih0 _ _)
   | (with_reducible exact ih1 _ _ _ _)
   | (with_reducible exact ih2 _ _ _ _ _)
   | (with_reducible exact l3_ _)
   | (with_reducible exact l0_ _)
   | (with_reducible refine l2_ ?_ ?_)
   | (with_reducible refine l1_ ?_ (fun _ => ?_))
   | exact ih0 _ _
   | exact ih1 _ _ _ _
   | exact ih2 _ _ _ _ _
   | exact l0_ _
   | refine l2_ ?_ ?_
   | refine l1_ ?_ (fun _ => ?_)
  ·
   intro y0 y1 y2 y3 y4
   unfold spec_l4Text.l0
   repeat' first
   | (with_reducible exact ih0 _ _)
   | (with_reducible exact ih1 _ _ _ _)
   | (with_reducible exact ih2 _ _ _ _ _)
   | (with_reducible exact l3_ _)
   | (with_reducible exact l0_ _)
   | (with_reducible refine l2_ ?_ ?_)
   | (with_reducible refine l1_ ?_ (fun _ => ?_))
   | exact ih0 _ _
   | exact ih1 _ _ _ _
   | exact ih2 _ _ _ _ _
   | exact l0_ _
   | refine l2_ ?_ ?_
   | refine l1_ ?_ (fun _ => ?_)
theorem spec_l4Text.mono : ∀ a0 a1 k, LeO (spec_l4Text.f k a0 a1) (spec_l4Text.f (k + 1) a0 a1) := by
 intro a0 a1 k
 obtain ⟨ih0, ih1, ih2⟩ := spec_l4Text.mono_l k
 exact ih0 a0 a1
theorem spec_l4Text.calls (k : Nat) : ∀ (A0_0 : Option Addr) (c0_0 : Nat) (l0_0 : List (S60)) (a1 : Int) (r : ByteArray) (w : World) (hr0_0 : Kd.C k60 w A0_0 l0_0.length l0_0) (hc0_0 : l0_0.length ≤ c0_0) (h : spec_l4Text.f k l0_0 a1 = some r),
  Calls Tryz.prog 43 #[.agg #[.slice A0_0 l0_0.length c0_0], .int .i64 a1] w fun e w' => e = .returned (.string r) ∧ Below w.heap.size w w' := by
 induction k using Nat.strongRecOn with
 | _ k ih =>
 intro A0_0 c0_0 l0_0 a1 r w hr0_0 hc0_0 h
 cases k with
 | zero => exact absurd h (by simp [spec_l4Text.f])
 | succ k =>
 simp only [spec_l4Text.f] at h
 have hu30 := Tryz.underlying30
 have HR0_0 := aM_ hr0_0
 have HC0_0 := aM_ hc0_0
 clear hr0_0 hc0_0
 have HB := aM_ (Below.refl w.heap.size w)
 have H : (if 0 ≤ a1 then (if a1 < (l0_0.length : Int) then (if (rd_T60 l0_0 a1).f2 = true then (if ((rd_T60 l0_0 a1).f0).size + 1 ≤ 9223372036854775807 then (spec_l4Text.j0 k a1 (((rd_T60 l0_0 a1).f0) ++ (⟨#[46]⟩ : ByteArray)) (⟨#[]⟩ : ByteArray) l0_0) else (none)) else (spec_l4Text.j0 k a1 ((rd_T60 l0_0 a1).f0) (⟨#[]⟩ : ByteArray) l0_0)) else (none)) else (none)) = some r := h
 clear h
 by_cases c3 : 0 ≤ a1
 rotate_left
 ·
  rw [if_neg c3] at H
  exact absurd H (by simp)
 rw [if_pos c3] at H
 have c3b0 := decide_eq_true c3
 clear c3
 by_cases c4 : a1 < (l0_0.length : Int)
 rotate_left
 ·
  rw [if_neg c4] at H
  exact absurd H (by simp)
 rw [if_pos c4] at H
 have c4b0 := decide_eq_true c4
 clear c4
 have HC5 := aM_ H
 clear H
 go_enter Tryz.func43, Tryz.ntmps43
 go_upto_if 19 with (first | ((with_reducible refine gD_ (N := 2) rfl ?_); refine bE_ ?hg (N := 2) ?hd (cs := #[.slice A0_0 l0_0.length c0_0]) (t := 30) ?hr ?_; (case hd => rfl); (case hg => rfl); (case hr => (go_simp; done)); intro gb591 hg w6 hbox hb; have BK591 := aM_ (hbox); have GW591 := aM_ ((by rw [hg]; exact (bZ_ HB.out) : w.heap.size ≤ gb591)); have GE591 := GW591; replace HB := aM_ (bT_ HB.out hb); clear hb hbox hg; have hcz7_0 : w6.cell? ⟨gb591, 0, none⟩ = some (.slice A0_0 l0_0.length c0_0) := (bC_ BK591.out 0).trans rfl; have hfz7_0 := bF_ BK591.out 0; have p592 : 0 ≤ (a1 : Int) := of_decide_eq_true (by (with_reducible assumption)); have q592 : a1 < (l0_0.length : Int) := of_decide_eq_true (by (with_reducible assumption)); obtain ⟨ad592, e592, hx592_0, hx592_1, hx592_2⟩ := at_T60 HR0_0.out a1 p592 q592; cases e592; replace hx592_0 := (HB.out.cell (wB_ w _ hx592_0)).trans hx592_0; replace hx592_1 := (HB.out.cell (wB_ w _ hx592_1)).trans hx592_1; replace hx592_2 := (HB.out.cell (wB_ w _ hx592_2)).trans hx592_2; replace p592 := eq_true p592; replace q592 := eq_true q592; have p593 : 0 ≤ (a1 : Int) := of_decide_eq_true (by (with_reducible assumption)); have q593 : a1 < (l0_0.length : Int) := of_decide_eq_true (by (with_reducible assumption)); obtain ⟨ad593, e593, hx593_0, hx593_1, hx593_2⟩ := at_T60 HR0_0.out a1 p593 q593; obtain rfl : ad592 = ad593 := (by injection e593); replace hx593_0 := (HB.out.cell (wB_ w _ hx593_0)).trans hx593_0; replace hx593_1 := (HB.out.cell (wB_ w _ hx593_1)).trans hx593_1; replace hx593_2 := (HB.out.cell (wB_ w _ hx593_2)).trans hx593_2; replace p593 := eq_true p593; replace q593 := eq_true q593))
 (try simp only [Act.put, sA_, sB_, sC_])
 go_cut [5] (fun v5 wc => ∃ (kq : Nat) (x5_4 : ByteArray), v5 = .string x5_4 ∧ Aside0 (spec_l4Text.j0 kq a1 x5_4 (⟨#[]⟩ : ByteArray) l0_0 = some r) ∧ Aside0 (kq ≤ k) ∧ Aside0 (wc.heap[gb591]? = some (.cells #[(.slice (some ad592) l0_0.length c0_0)] 30 (0, 0))) ∧ Aside0 (Below w.heap.size w wc))
 case first =>
  have H := HC5.out
  clear HC5
  obtain ⟨bq8, hbq8⟩ : ∃ b_ : Bool, b_ = ((rd_T60 l0_0 a1).f2) := ⟨_, rfl⟩
  replace H : (if bq8 = true then (if ((rd_T60 l0_0 a1).f0).size + 1 ≤ 9223372036854775807 then (spec_l4Text.j0 k a1 (((rd_T60 l0_0 a1).f0) ++ (⟨#[46]⟩ : ByteArray)) (⟨#[]⟩ : ByteArray) l0_0) else (none)) else (spec_l4Text.j0 k a1 ((rd_T60 l0_0 a1).f0) (⟨#[]⟩ : ByteArray) l0_0)) = some r := by rw [← hbq8] at H; exact H
  have Nbq8 := aM_ hbq8
  clear hbq8
  (try rw [← Nbq8.out])
  by_cases c9 : bq8 = true
  ·
   subst c9
   rw [if_pos rfl] at H
   by_cases c10 : ((rd_T60 l0_0 a1).f0).size + 1 ≤ 9223372036854775807
   ·
    rw [if_pos c10] at H
    have c10b0 := eq_true c10
    have c10b1 := decide_eq_true c10
    try have c10b2 : (9223372036854775807 < ((rd_T60 l0_0 a1).f0).size + 1) = False := eq_false (Nat.not_lt.2 c10)
    have H' := aM_ H
    clear H
    go_wp2
    go_meet
    case rel => exact ⟨_, (((rd_T60 l0_0 a1).f0) ++ (⟨#[46]⟩ : ByteArray)), (by rfl), H', ⟨by omega⟩, ⟨BK591.out⟩, ⟨HB.out⟩⟩
   ·
    rw [if_neg c10] at H
    exact absurd H (by simp)
  ·
   replace c9 := Bool.eq_false_iff.mpr c9
   subst c9
   have H1 : (spec_l4Text.j0 k a1 ((rd_T60 l0_0 a1).f0) (⟨#[]⟩ : ByteArray) l0_0) = some r := by rw [if_neg (show ¬ (false = true) by decide)] at H; exact H
   clear H
   have H := H1
   clear H1
   have H' := aM_ H
   clear H
   go_wp2
   go_meet
   case rel => exact ⟨_, ((rd_T60 l0_0 a1).f0), (by rfl), H', ⟨by omega⟩, ⟨BK591.out⟩, ⟨HB.out⟩⟩
 case rest =>
  clear HC5
  try clear p2
  try clear c3b0
  try clear c4b0
  try clear p5
  try clear q5
  try clear hx5
  try clear q8
  try clear c10b0
  try clear c10b1
  try clear c10b2
  try clear hcz7_0
  try clear hfz7_0
  try clear hx592_0
  try clear hx592_1
  try clear hx592_2
  try clear hx593_0
  try clear hx593_1
  try clear hx593_2
  try clear p592
  try clear p593
  try clear q592
  try clear q593
  obtain ⟨kq, x5_4, rfl, HA, HJ4, BK591, HB⟩ := hcut
  cases kq with
  | zero => exact absurd HA.out (by simp [spec_l4Text.j0])
  | succ kj4 =>
   have H := HA.out
   clear HA
   simp only [spec_l4Text.j0] at H
   have H' := aM_ H
   clear H
   go_wp2
   go_loopg [6, 7] kj4 (fun kq v6 v7 w' => ∃ (x6_2 : ByteArray) (x7_2 : Int), v6 = .string x6_2 ∧ v7 = .int .i64 x7_2 ∧ Aside0 (spec_l4Text.l0 kq a1 x5_4 x6_2 x7_2 l0_0 = some r) ∧ Aside0 (kq ≤ kj4) ∧ Aside0 (w'.heap[gb591]? = some (.cells #[(.slice (some ad592) l0_0.length c0_0)] 30 (0, 0))) ∧ Aside0 (Below w.heap.size w w'))
   case atStart => exact ⟨((⟨#[]⟩ : ByteArray)), (wrap64 (a1 + 1)), (by rfl), (by rfl), H', ⟨Nat.le_refl _⟩, ⟨BK591.out⟩, ⟨HB.out⟩⟩
   case round =>
    clear H'
    try clear p2
    try clear c3b0
    try clear c4b0
    try clear p5
    try clear q5
    try clear hx5
    try clear p6
    try clear q8
    try clear c10b0
    try clear c10b1
    try clear c10b2
    try clear hcz7_0
    try clear hfz7_0
    try clear hx592_0
    try clear hx592_1
    try clear hx592_2
    try clear hx593_0
    try clear hx593_1
    try clear hx593_2
    try clear p2
    try clear p5
    try clear p592
    try clear p593
    try clear q5
    try clear q592
    try clear q593
    try clear q8
    obtain ⟨x6_2, x7_2, rfl, rfl, HA, HK2, BK591, HB⟩ := hrel
    cases gk with
    | zero => exact absurd HA.out (by simp [spec_l4Text.l0])
    | succ k2 =>
     have H := HA.out
     clear HA
     simp only [spec_l4Text.l0] at H
     by_cases c11 : x7_2 < (l0_0.length : Int)
     ·
      rw [if_pos c11] at H
      have c11b0 := decide_eq_true c11
      clear c11
      by_cases c12 : 0 ≤ x7_2
      ·
       rw [if_pos c12] at H
       have c12b0 := decide_eq_true c12
       clear c12
       by_cases c13 : ((rd_T60 l0_0 x7_2).f1) = a1
       ·
        rw [if_pos c13] at H
        have c13b0 : (((rd_T60 l0_0 x7_2).f1) == a1) = true := beq_iff_eq.mpr c13
        have c13b1 : (((rd_T60 l0_0 x7_2).f1) != a1) = false := bne_eq_false_iff_eq.mpr c13
        clear c13
        by_cases c14 : x6_2.toList = ([] : List UInt8)
        ·
         rw [if_pos c14] at H
         have c14b0 : (x6_2.toList == ([] : List UInt8)) = true := beq_iff_eq.mpr c14
         have c14b1 : (x6_2.toList != ([] : List UInt8)) = false := bne_eq_false_iff_eq.mpr c14
         clear c14
         replace H := oB_.mp H
         obtain ⟨t595, A150, H⟩ := H
         try dsimp only at H
         have A15 := aM_ A150
         clear A150
         by_cases c16 : x6_2.size + t595.size ≤ 9223372036854775807
         ·
          rw [if_pos c16] at H
          have c16b0 := eq_true c16
          have c16b1 := decide_eq_true c16
          try have c16b2 : (9223372036854775807 < x6_2.size + t595.size) = False := eq_false (Nat.not_lt.2 c16)
          have H' := aM_ H
          clear H
          have hcz17_0 : wr.cell? ⟨gb591, 0, none⟩ = some (.slice (some ad592) l0_0.length c0_0) := (bC_ BK591.out 0).trans rfl
          have hfz17_0 := bF_ BK591.out 0
          have p594 : 0 ≤ (x7_2 : Int) := of_decide_eq_true (by (with_reducible assumption))
          have q594 : x7_2 < (l0_0.length : Int) := of_decide_eq_true (by (with_reducible assumption))
          obtain ⟨ad594, e594, hx594_0, hx594_1, hx594_2⟩ := at_T60 HR0_0.out x7_2 p594 q594
          obtain rfl : ad592 = ad594 := (by injection e594)
          replace hx594_0 := (HB.out.cell (wB_ w _ hx594_0)).trans hx594_0
          replace hx594_1 := (HB.out.cell (wB_ w _ hx594_1)).trans hx594_1
          replace hx594_2 := (HB.out.cell (wB_ w _ hx594_2)).trans hx594_2
          replace p594 := eq_true p594
          replace q594 := eq_true q594
          go_wp2_with (first | ((with_reducible refine gC_ (f := 43) rfl ?_); refine goesL_ (some 46) rfl rfl Tryz.func43 (by kernel_rfl) rfl #[.agg #[.slice (some ad592) l0_0.length c0_0], .int .i64 x7_2] rfl (by (try simp only [sD_, sE_, sF_]); rfl) ?_; (with_reducible refine (ih k2 (by have := HJ4.out; have := HK2.out; omega) _ _ l0_0 x7_2 t595 _ ?side1 ?side2 A15.out).mono ?_); (case side1 => repeat (first | exact (k4_ HR0_0.out HB.out) | (with_reducible refine Kd.C_alloc ?_ _) | (with_reducible refine Kd.C_drewN ?_ _) | (with_reducible refine Kd.C_drew ?_))); (case side2 => exact HC0_0.out); rintro e w18 ⟨rfl, hb⟩; refine ⟨_, rfl, ?_⟩; replace BK591 := aM_ (bB_ BK591.out hb); replace HB := aM_ (bT_ HB.out hb); (try clear hb)))
          go_roundg k2
          case measure => have := HJ4.out; have := HK2.out; omega
          case rel => exact ⟨(x6_2 ++ t595), (wrap64 (x7_2 + 1)), (by rfl), (by rfl), H', ⟨by have := HJ4.out; have := HK2.out; omega⟩, ⟨BK591.out⟩, ⟨HB.out⟩⟩
         ·
          rw [if_neg c16] at H
          exact absurd H (by simp)
        ·
         rw [if_neg c14] at H
         have c14b0 : (x6_2.toList == ([] : List UInt8)) = false := beq_eq_false_iff_ne.mpr c14
         have c14b1 : (x6_2.toList != ([] : List UInt8)) = true := bne_iff_ne.mpr c14
         by_cases c19 : x6_2.size + 1 ≤ 9223372036854775807
         ·
          rw [if_pos c19] at H
          have c19b0 := eq_true c19
          have c19b1 := decide_eq_true c19
          try have c19b2 : (9223372036854775807 < x6_2.size + 1) = False := eq_false (Nat.not_lt.2 c19)
          replace H := oB_.mp H
          obtain ⟨t596, A200, H⟩ := H
          try dsimp only at H
          have A20 := aM_ A200
          clear A200
          by_cases c21 : (x6_2 ++ (⟨#[44]⟩ : ByteArray)).size + t596.size ≤ 9223372036854775807
          ·
           rw [if_pos c21] at H
           have c21b0 := eq_true c21
           have c21b1 := decide_eq_true c21
           try have c21b2 : (9223372036854775807 < (x6_2 ++ (⟨#[44]⟩ : ByteArray)).size + t596.size) = False := eq_false (Nat.not_lt.2 c21)
           have c21n0 : x6_2.size + 1 + t596.size ≤ 9223372036854775807 := by have h_ := c21; simp only [ByteArray.size_append] at h_; exact h_
           have c21n1 := eq_true c21n0
           have c21n2 := decide_eq_true c21n0
           have c21n3 : (9223372036854775807 < x6_2.size + 1 + t596.size) = False := eq_false (Nat.not_lt.2 c21n0)
           have H' := aM_ H
           clear H
           have hcz22_0 : wr.cell? ⟨gb591, 0, none⟩ = some (.slice (some ad592) l0_0.length c0_0) := (bC_ BK591.out 0).trans rfl
           have hfz22_0 := bF_ BK591.out 0
           have p594 : 0 ≤ (x7_2 : Int) := of_decide_eq_true (by (with_reducible assumption))
           have q594 : x7_2 < (l0_0.length : Int) := of_decide_eq_true (by (with_reducible assumption))
           obtain ⟨ad594, e594, hx594_0, hx594_1, hx594_2⟩ := at_T60 HR0_0.out x7_2 p594 q594
           obtain rfl : ad592 = ad594 := (by injection e594)
           replace hx594_0 := (HB.out.cell (wB_ w _ hx594_0)).trans hx594_0
           replace hx594_1 := (HB.out.cell (wB_ w _ hx594_1)).trans hx594_1
           replace hx594_2 := (HB.out.cell (wB_ w _ hx594_2)).trans hx594_2
           replace p594 := eq_true p594
           replace q594 := eq_true q594
           go_wp2_with (first | ((with_reducible refine gC_ (f := 43) rfl ?_); refine goesL_ (some 46) rfl rfl Tryz.func43 (by kernel_rfl) rfl #[.agg #[.slice (some ad592) l0_0.length c0_0], .int .i64 x7_2] rfl (by (try simp only [sD_, sE_, sF_]); rfl) ?_; (with_reducible refine (ih k2 (by have := HJ4.out; have := HK2.out; omega) _ _ l0_0 x7_2 t596 _ ?side1 ?side2 A20.out).mono ?_); (case side1 => repeat (first | exact (k4_ HR0_0.out HB.out) | (with_reducible refine Kd.C_alloc ?_ _) | (with_reducible refine Kd.C_drewN ?_ _) | (with_reducible refine Kd.C_drew ?_))); (case side2 => exact HC0_0.out); rintro e w23 ⟨rfl, hb⟩; refine ⟨_, rfl, ?_⟩; replace BK591 := aM_ (bB_ BK591.out hb); replace HB := aM_ (bT_ HB.out hb); (try clear hb)))
           go_roundg k2
           case measure => have := HJ4.out; have := HK2.out; omega
           case rel => exact ⟨((x6_2 ++ (⟨#[44]⟩ : ByteArray)) ++ t596), (wrap64 (x7_2 + 1)), (by rfl), (by rfl), H', ⟨by have := HJ4.out; have := HK2.out; omega⟩, ⟨BK591.out⟩, ⟨HB.out⟩⟩
          ·
           rw [if_neg c21] at H
           exact absurd H (by simp)
         ·
          rw [if_neg c19] at H
          exact absurd H (by simp)
       ·
        rw [if_neg c13] at H
        have c13b0 : (((rd_T60 l0_0 x7_2).f1) == a1) = false := beq_eq_false_iff_ne.mpr c13
        have c13b1 : (((rd_T60 l0_0 x7_2).f1) != a1) = true := bne_iff_ne.mpr c13
        have H' := aM_ H
        clear H
        have hcz24_0 : wr.cell? ⟨gb591, 0, none⟩ = some (.slice (some ad592) l0_0.length c0_0) := (bC_ BK591.out 0).trans rfl
        have hfz24_0 := bF_ BK591.out 0
        have p594 : 0 ≤ (x7_2 : Int) := of_decide_eq_true (by (with_reducible assumption))
        have q594 : x7_2 < (l0_0.length : Int) := of_decide_eq_true (by (with_reducible assumption))
        obtain ⟨ad594, e594, hx594_0, hx594_1, hx594_2⟩ := at_T60 HR0_0.out x7_2 p594 q594
        obtain rfl : ad592 = ad594 := (by injection e594)
        replace hx594_0 := (HB.out.cell (wB_ w _ hx594_0)).trans hx594_0
        replace hx594_1 := (HB.out.cell (wB_ w _ hx594_1)).trans hx594_1
        replace hx594_2 := (HB.out.cell (wB_ w _ hx594_2)).trans hx594_2
        replace p594 := eq_true p594
        replace q594 := eq_true q594
        go_wp2
        go_roundg k2
        case measure => have := HJ4.out; have := HK2.out; omega
        case rel => exact ⟨(x6_2), (wrap64 (x7_2 + 1)), (by rfl), (by rfl), H', ⟨by have := HJ4.out; have := HK2.out; omega⟩, ⟨BK591.out⟩, ⟨HB.out⟩⟩
      ·
       rw [if_neg c12] at H
       exact absurd H (by simp)
     ·
      rw [if_neg c11] at H
      have c11b0 := decide_eq_false c11
      clear c11
      by_cases c25 : x6_2.toList = ([] : List UInt8)
      ·
       rw [if_pos c25] at H
       have c25b0 : (x6_2.toList == ([] : List UInt8)) = true := beq_iff_eq.mpr c25
       have c25b1 : (x6_2.toList != ([] : List UInt8)) = false := bne_eq_false_iff_eq.mpr c25
       clear c25
       obtain rfl := Option.some.inj H
       have hcz26_0 : wr.cell? ⟨gb591, 0, none⟩ = some (.slice (some ad592) l0_0.length c0_0) := (bC_ BK591.out 0).trans rfl
       have hfz26_0 := bF_ BK591.out 0
       go_wp2
       go_ret
       exact ⟨by rfl, by exact HB.out⟩
      ·
       rw [if_neg c25] at H
       have c25b0 : (x6_2.toList == ([] : List UInt8)) = false := beq_eq_false_iff_ne.mpr c25
       have c25b1 : (x6_2.toList != ([] : List UInt8)) = true := bne_iff_ne.mpr c25
       by_cases c27 : x5_4.size + 1 ≤ 9223372036854775807
       ·
        rw [if_pos c27] at H
        have c27b0 := eq_true c27
        have c27b1 := decide_eq_true c27
        try have c27b2 : (9223372036854775807 < x5_4.size + 1) = False := eq_false (Nat.not_lt.2 c27)
        by_cases c28 : (x5_4 ++ (⟨#[40]⟩ : ByteArray)).size + x6_2.size ≤ 9223372036854775807
        ·
         rw [if_pos c28] at H
         have c28b0 := eq_true c28
         have c28b1 := decide_eq_true c28
         try have c28b2 : (9223372036854775807 < (x5_4 ++ (⟨#[40]⟩ : ByteArray)).size + x6_2.size) = False := eq_false (Nat.not_lt.2 c28)
         have c28n0 : x5_4.size + 1 + x6_2.size ≤ 9223372036854775807 := by have h_ := c28; simp only [ByteArray.size_append] at h_; exact h_
         have c28n1 := eq_true c28n0
         have c28n2 := decide_eq_true c28n0
         have c28n3 : (9223372036854775807 < x5_4.size + 1 + x6_2.size) = False := eq_false (Nat.not_lt.2 c28n0)
         by_cases c29 : ((x5_4 ++ (⟨#[40]⟩ : ByteArray)) ++ x6_2).size + 1 ≤ 9223372036854775807
         ·
          rw [if_pos c29] at H
          have c29b0 := eq_true c29
          have c29b1 := decide_eq_true c29
          try have c29b2 : (9223372036854775807 < ((x5_4 ++ (⟨#[40]⟩ : ByteArray)) ++ x6_2).size + 1) = False := eq_false (Nat.not_lt.2 c29)
          have c29n0 : x5_4.size + 1 + x6_2.size + 1 ≤ 9223372036854775807 := by have h_ := c29; simp only [ByteArray.size_append] at h_; exact h_
          have c29n1 := eq_true c29n0
          have c29n2 := decide_eq_true c29n0
          have c29n3 : (9223372036854775807 < x5_4.size + 1 + x6_2.size + 1) = False := eq_false (Nat.not_lt.2 c29n0)
          obtain rfl := Option.some.inj H
          have hcz30_0 : wr.cell? ⟨gb591, 0, none⟩ = some (.slice (some ad592) l0_0.length c0_0) := (bC_ BK591.out 0).trans rfl
          have hfz30_0 := bF_ BK591.out 0
          go_wp2
          go_ret
          exact ⟨by rfl, by exact HB.out⟩
         ·
          rw [if_neg c29] at H
          exact absurd H (by simp)
        ·
         rw [if_neg c28] at H
         exact absurd H (by simp)
       ·
        rw [if_neg c27] at H
        exact absurd H (by simp)
def impl_IsPressed.f (k : Nat) (l0_0 : List (S60)) : Option (Bool) := (impl_Pressed_open.f k l0_0).bind fun bt605 => (some bt605.2)
theorem impl_IsPressed.mono : ∀ a0 k, LeO (impl_IsPressed.f k a0) (impl_IsPressed.f (k + 1) a0) := by
 intro a0 k
 unfold impl_IsPressed.f
 repeat' first
   | (with_reducible exact impl_Pressed_open.mono _ _)
   | (with_reducible exact l3_ _)
   | (with_reducible exact l0_ _)
   | (with_reducible refine l2_ ?_ ?_)
   | (with_reducible refine l1_ ?_ (fun _ => ?_))
   | exact impl_Pressed_open.mono _ _
   | exact l0_ _
   | refine l2_ ?_ ?_
   | refine l1_ ?_ (fun _ => ?_)
theorem impl_IsPressed.calls (k : Nat) (A0_0 : Option Addr) (c0_0 : Nat) (l0_0 : List (S60)) (r : Bool) (w : World) (hr0_0 : Kd.C k60 w A0_0 l0_0.length l0_0) (hc0_0 : l0_0.length ≤ c0_0) (h : impl_IsPressed.f k l0_0 = some r) :
  Calls Tryz.prog 44 #[.agg #[.slice A0_0 l0_0.length c0_0]] w fun e w' => e = .returned (.bool r) ∧ Below w.heap.size w w' := by
 have hu30 := Tryz.underlying30
 have hu36 := Tryz.underlying36
 have HR0_0 := aM_ hr0_0
 have HC0_0 := aM_ hc0_0
 clear hr0_0 hc0_0
 have HB := aM_ (Below.refl w.heap.size w)
 have H : ((impl_Pressed_open.f k l0_0).bind fun bt605 => (some bt605.2)) = some r := h
 clear h
 replace H := oB_.mp H
 obtain ⟨⟨t605, t608⟩, A20, H⟩ := H
 try dsimp only at H
 have A2 := aM_ A20
 clear A20
 obtain rfl := Option.some.inj H
 go_enter Tryz.func44, Tryz.ntmps44
 go_wp2_with (first | ((with_reducible refine gD_ (N := 1) rfl ?_); refine bE_ ?hg (N := 1) ?hd (cs := #[.slice A0_0 l0_0.length c0_0]) (t := 30) ?hr ?_; (case hd => rfl); (case hg => rfl); (case hr => (go_simp; done)); intro gb604 hg w3 hbox hb; have BK604 := aM_ (hbox); have GW604 := aM_ ((by rw [hg]; exact (bZ_ HB.out) : w.heap.size ≤ gb604)); have GE604 := GW604; replace HB := aM_ (bT_ HB.out hb); clear hb hbox hg; have hcz4_0 : w3.cell? ⟨gb604, 0, none⟩ = some (.slice A0_0 l0_0.length c0_0) := (bC_ BK604.out 0).trans rfl; have hfz4_0 := bF_ BK604.out 0) | ((with_reducible refine gC_ (f := 33) rfl ?_); refine goesL_ (some 7) rfl rfl Tryz.func33 (by kernel_rfl) rfl #[.agg #[.slice A0_0 l0_0.length c0_0]] rfl (by (try simp only [sD_, sE_, sF_]); rfl) ?_; (with_reducible refine (impl_Pressed_open.calls k _ _ l0_0 t605 t608 _ ?side1 ?side2 A2.out).mono ?_); (case side1 => repeat (first | exact (k4_ HR0_0.out HB.out) | (with_reducible refine Kd.C_alloc ?_ _) | (with_reducible refine Kd.C_drewN ?_ _) | (with_reducible refine Kd.C_drew ?_))); (case side2 => exact HC0_0.out); rintro e w5 ⟨v606, rfl, ho0, hb⟩; refine ⟨_, rfl, ?_⟩; have HO607 := aM_ (k5_ ho0 (bZ_ HB.out)); replace BK604 := aM_ (bB_ BK604.out hb); replace HB := aM_ (bT_ HB.out hb); (try clear hb); (try clear ho0)) | ((with_reducible refine gD_ (N := 3) rfl ?_); refine bE_ ?hg (N := 3) ?hd (cs := #[.slice none 0 0]) (t := 36) ?hr ?_; (case hd => rfl); (case hg => rfl); (case hr => (go_simp; done)); intro gb609 hg w6 hbox hb; replace HO607 := aM_ (kB_ HO607.out hb); have BK609 := aM_ (hbox); have GW609 := aM_ ((by rw [hg]; exact (bZ_ HB.out) : w.heap.size ≤ gb609)); have GE609 := GW609; replace HB := aM_ (bT_ HB.out hb); have NB604_609 := aM_ ((by rw [hg]; exact Nat.ne_of_lt (bL_ BK604.out) : gb604 ≠ gb609)); have NB609_604 := aM_ NB604_609.out.symm; replace BK604 := aM_ (bB_ BK604.out hb); clear hb hbox hg; obtain ⟨Ao7, co7, eo7⟩ := kS_ HO607.out; subst eo7; have hnb8 := NB609_604.out; have hnc8 := NB604_609.out; have hcz9_0 : w6.cell? ⟨gb609, 0, none⟩ = some (.slice none 0 0) := (bC_ BK609.out 0).trans rfl; have hfz9_0 := bF_ BK609.out 0))
 go_ret
 exact ⟨by rfl, by repeat (first | (with_reducible first | exact HB.out | apply bA_ | apply bN_ | apply bD_ | refine bS_ ?_ GE604.out | refine bS_ ?_ GE609.out) | exact HB.out)⟩
end Go.Proofs.YtfhffcefpnkllaaGreatDoor.P
namespace Go.Proofs
open Go.Shelf
def Tryz.lays156_ren : Go.Shelf.Ren := ⟨fun | 156 => 71 | 165 => 86 | 166 => 87 | 169 => 88 | 240 => 107 | 241 => 108 | 276 => 122 | 277 => 123 | n => n, fun | 31 => 49 | 9 => 9 | 3 => 3 | 4 => 4 | 0 => 0 | 20 => 20 | 72 => 98 | 76 => 102 | 70 => 96 | 37 => 93 | 75 => 101 | 127 => 121 | 164 => 130 | 5 => 5 | 80 => 104 | n => n, fun | n => n⟩
theorem Tryz.lays156 : Go.Proofs.Lays.n156 Tryz.prog Tryz.lays156_ren := {
  mixed := by kernel_rfl
  f156 := Tryz.func71.trans (congrArg some (by kernel_rfl))
  f165 := Tryz.func86.trans (congrArg some (by kernel_rfl))
  f166 := Tryz.func87.trans (congrArg some (by kernel_rfl))
  f169 := Tryz.func88.trans (congrArg some (by kernel_rfl))
  f240 := Tryz.func107.trans (congrArg some (by kernel_rfl))
  f241 := Tryz.func108.trans (congrArg some (by kernel_rfl))
  f276 := Tryz.func122.trans (congrArg some (by kernel_rfl))
  f277 := Tryz.func123.trans (congrArg some (by kernel_rfl))
  t0 := Tryz.underlying0
  a0 := Tryz.isAgg0
  z0 := Tryz.sizeOf0
  v0 := Tryz.zeroValue0
  t3 := Tryz.underlying3
  a3 := Tryz.isAgg3
  z3 := Tryz.sizeOf3
  v3 := Tryz.zeroValue3
  t4 := Tryz.underlying4
  a4 := Tryz.isAgg4
  z4 := Tryz.sizeOf4
  v4 := Tryz.zeroValue4
  t9 := Tryz.underlying9
  a9 := Tryz.isAgg9
  z9 := Tryz.sizeOf9
  v9 := Tryz.zeroValue9
  t20 := Tryz.underlying20
  a20 := Tryz.isAgg20
  z20 := Tryz.sizeOf20
  v20 := Tryz.zeroValue20
  t31 := Tryz.underlying49
  a31 := Tryz.isAgg49
  z31 := Tryz.sizeOf49
  v31 := Tryz.zeroValue49
  t37 := Tryz.underlying93
  a37 := Tryz.isAgg93
  z37 := Tryz.sizeOf93
  v37 := Tryz.zeroValue93
  t70 := Tryz.underlying96
  a70 := Tryz.isAgg96
  z70 := Tryz.sizeOf96
  v70 := Tryz.zeroValue96
  t72 := Tryz.underlying98
  a72 := Tryz.isAgg98
  z72 := Tryz.sizeOf98
  v72 := Tryz.zeroValue98
  t75 := Tryz.underlying101
  a75 := Tryz.isAgg101
  z75 := Tryz.sizeOf101
  v75 := Tryz.zeroValue101
  t76 := Tryz.underlying102
  a76 := Tryz.isAgg102
  z76 := Tryz.sizeOf102
  v76 := Tryz.zeroValue102
  t127 := Tryz.underlying121
  a127 := Tryz.isAgg121
  z127 := Tryz.sizeOf121
  v127 := Tryz.zeroValue121
  t164 := Tryz.underlying130
  a164 := Tryz.isAgg130
  z164 := Tryz.sizeOf130
  v164 := Tryz.zeroValue130 }
end Go.Proofs
namespace Go.Proofs.YtfhffcefpnkllaaGreatDoor.P
open Go.RowKit Go.Proofs.YtfhffcefpnkllaaGreatDoorW.PrintWords Go.Proofs.YtfhffcefpnkllaaGreatDoorW.PrintLast Go.Proofs.YtfhffcefpnkllaaGreatDoorW.PrintMore
open Go.Proofs.YtfhffcefpnkllaaGreatDoorW.PrintWords renaming blk_frozen → bF_, blk_cell → bC_, below_set → bS_, blk_below → bB_, below_step → bT_, pw_below_drewN → bN_, below_size → bZ_, below_drew1 → bD_, below_alloc → bA_, blk_far → bR_, gate_callee → gC_, gate_dst → gD_, box_event → bE_, blk_drew → b1_, blk_put → bP_, blk_drewN → b2_, blk_alloc → b3_, blk_lt → bL_, cell_far → cF_
open Go.Proofs.YtfhffcefpnkllaaGreatDoorW.PrintLast renaming any_of → aO_, i64_w → i6_, i32_w → i3_, take_ofW → tW_
open Go.Proofs.YtfhffcefpnkllaaGreatDoorW.PrintWords.Kd renaming R_below → kB_, R_mono → kM_, R_far → kF_, R_reads' → kR_, R_types → kT_, R_slice → kS_, R_celln → kC_, R_alloc → k1_, R_drewN → k2_, R_drew → k3_, C_below → k4_, R_lower → k5_, R_ne → k6_, own_blk → k7_
open Go.Proofs.YtfhffcefpnkllaaGreatDoorW.PrintWords.LeO renaming none → l0_, bind → l1_, ite → l2_, refl → l3_
open World renaming block_lt_of_cell? → wB_
open _root_.Option renaming bind_eq_some_iff → oB_
open _root_.ByteArray renaming empty → eB_
open List renaming setIfInBounds_toArray → sA_, set_cons_zero → sB_, set_cons_succ → sC_, map_toArray → sD_, map_cons → sE_, map_nil → sF_, length_drop → sG_, length_take → sH_
open Bool renaming true → ty, false → fy
open Aside0 renaming mk → aM_
attribute [local go_sem] max2_int min2_int max_two min_two max_three min_three max_four min_four
def strings_Join.f (l0 : List ByteArray) (a1 : ByteArray) : Option ByteArray := if l0.length ≤ 140737488355328 ∧ (Lib.join (l0.map (·.data.toList)) a1.data.toList).length ≤ 140737488355328 then some ⟨(Lib.join (l0.map (·.data.toList)) a1.data.toList).toArray⟩ else none
theorem strings_Join.extra : Go.Proofs.Builder.Extra Tryz.prog Tryz.lays156_ren where
 sizeBuilder := by kernel_rfl
 liesBuilder := by kernel_rfl
 t5 := Tryz.underlying5
 a5 := Tryz.isAgg5
 z5 := Tryz.sizeOf5
 v5 := Tryz.zeroValue5
 infoByte := by kernel_rfl
 cellsByte := by kernel_rfl
 sizeByte := by kernel_rfl
 neB5 := by decide
theorem strings_Join.spot {w : World} {ad : Addr} {v : Value} (h : w.cell? ad = some v) : ad.spot = none := by
 unfold World.cell? at h
 split at h
 ·
  by_cases hs : ad.spot.isSome = true
  ·
   rw [if_pos hs] at h; cases h
  ·
   simpa using hs
 ·
  cases h
theorem strings_Join.calls (A0 : Option Addr) (c0 : Nat) (l0 : List ByteArray) (a1 : ByteArray) (r : ByteArray) (w : World) (hr0 : Kd.C Kd.string w A0 l0.length l0) (hc0 : l0.length ≤ c0) (h : strings_Join.f l0 a1 = some r) :
  Calls Tryz.prog 71 #[.slice A0 l0.length c0, .string a1] w fun e w' => e = .returned (.string r) ∧ Below w.heap.size w w' := by
 unfold strings_Join.f at h
 by_cases hl : l0.length ≤ 140737488355328 ∧ (Lib.join (l0.map (·.data.toList)) a1.data.toList).length ≤ 140737488355328
 rotate_left
 ·
  rw [if_neg hl] at h; cases h
 rw [if_pos hl] at h
 obtain rfl := Option.some.inj h
 cases l0 with
 | nil =>
  refine (Go.Proofs.Any.strings_Join_none Tryz.lays156 strings_Join.extra A0 c0 a1 w).mono ?_
  rintro e w' ⟨he, hw⟩
  exact ⟨he, hw ▸ Below.refl _ _⟩
 | cons x l =>
  obtain ⟨ad, e, h0⟩ := Kd.at_string hr0 0 (by omega) (by simp)
  have hs := strings_Join.spot h0
  have hbk := wB_ w _ h0
  subst e
  obtain ⟨bk, o, sp⟩ := ad
  obtain rfl : sp = none := hs
  refine Go.Proofs.Any.strings_Join Tryz.lays156 strings_Join.extra bk o c0 (x :: l) a1 w (fun j y hj => ?_) hbk hl.1 hc0 hl.2
  obtain ⟨hjl, hy⟩ := List.getElem?_eq_some_iff.1 hj
  obtain ⟨ad', e', h'⟩ := Kd.at_string hr0 j (by omega) (by omega)
  cases e'
  have hg : rdOf eB_ (x :: l) (j : Int) = y := by
   unfold rdOf
   rw [Int.toNat_natCast, List.getD_eq_getElem?_getD, hj]
   rfl
  rw [hg, Int.toNat_natCast] at h'
  first
  | exact h'
  | (have e2 : (⟨bk, o, none⟩ : Addr).add j = ⟨bk, o + j, none⟩ := (by first | rfl | (unfold Addr.add; rfl) | (unfold Addr.add; split <;> simp_all) | simp [Addr.add]); rw [e2] at h'; exact h')
mutual
def impl_Pressed_text.j0 : Nat → Int → ByteArray → List ByteArray → List (S60) → Option (ByteArray)
 | 0, _, _, _, _ => none
 | k + 1, x1, x6, x7, x611000 => impl_Pressed_text.l0 k x1 x6 x7 x611000 (x611000.length : Int) 0 x611000
def impl_Pressed_text.l0 : Nat → Int → ByteArray → List ByteArray → List (S60) → Int → Int → List (S60) → Option (ByteArray)
 | 0, _, _, _, _, _, _, _ => none
 | k + 1, x1, x6, x7, x23, x24, x25, x611000 => if x25 < x24 then (if 0 ≤ x25 then (if x25 < (x23.length : Int) then (if ((rd_T60 x23 x25).f1) = x1 then ((impl_Pressed_text.f k x611000 x25).bind fun t618 => (if x7.length < 8796093022208 then (impl_Pressed_text.l0 k x1 x6 (x7 ++ [t618]) x23 x24 (wrap64 (x25 + 1)) x611000) else (none))) else (impl_Pressed_text.l0 k x1 x6 x7 x23 x24 (wrap64 (x25 + 1)) x611000)) else (none)) else (none)) else (if (x7.length : Int) = 0 then (some x6) else (if x6.size + 1 ≤ 9223372036854775807 then ((strings_Join.f x7 (⟨#[44]⟩ : ByteArray)).bind fun t622 => (if (x6 ++ (⟨#[40]⟩ : ByteArray)).size + t622.size ≤ 9223372036854775807 then (if ((x6 ++ (⟨#[40]⟩ : ByteArray)) ++ t622).size + 1 ≤ 9223372036854775807 then (some (((x6 ++ (⟨#[40]⟩ : ByteArray)) ++ t622) ++ (⟨#[41]⟩ : ByteArray))) else (none)) else (none))) else (none)))
def impl_Pressed_text.f : Nat → List (S60) → Int → Option (ByteArray)
 | 0, _, _ => none
 | k + 1, l0_0, a1 => if 0 ≤ a1 then (if a1 < (l0_0.length : Int) then ((some (([] : List ByteArray) : List ByteArray)).bind fun y613 => (if (rd_T60 l0_0 a1).f2 = true then (if ((rd_T60 l0_0 a1).f0).size + 1 ≤ 9223372036854775807 then (impl_Pressed_text.j0 k a1 (((rd_T60 l0_0 a1).f0) ++ (⟨#[46]⟩ : ByteArray)) y613 l0_0) else (none)) else (impl_Pressed_text.j0 k a1 ((rd_T60 l0_0 a1).f0) y613 l0_0))) else (none)) else (none)
end
theorem impl_Pressed_text.mono_l : ∀ k, (∀ y0 y1, LeO (impl_Pressed_text.f k y0 y1) (impl_Pressed_text.f (k + 1) y0 y1)) ∧ (∀ y0 y1 y2 y3, LeO (impl_Pressed_text.j0 k y0 y1 y2 y3) (impl_Pressed_text.j0 (k + 1) y0 y1 y2 y3)) ∧ (∀ y0 y1 y2 y3 y4 y5 y6, LeO (impl_Pressed_text.l0 k y0 y1 y2 y3 y4 y5 y6) (impl_Pressed_text.l0 (k + 1) y0 y1 y2 y3 y4 y5 y6))
 | 0 => ⟨fun _ _ r h => by simp [impl_Pressed_text.f] at h, fun _ _ _ _ r h => by simp [impl_Pressed_text.j0] at h, fun _ _ _ _ _ _ _ r h => by simp [impl_Pressed_text.l0] at h⟩
 | k + 1 => by
  obtain ⟨ih0, ih1, ih2⟩ := impl_Pressed_text.mono_l k
  refine ⟨?_, ?_, ?_⟩
  ·
   intro y0 y1
   unfold impl_Pressed_text.f
   repeat' first
   | (with_reducible exact ih0 _ _)
   | (with_reducible exact ih1 _ _ _ _)
   | (with_reducible exact ih2 _ _ _ _ _ _ _)
   | (with_reducible exact l3_ _)
   | (with_reducible exact l0_ _)
   | (with_reducible refine l2_ ?_ ?_)
   | (with_reducible refine l1_ ?_ (fun _ => ?_))
   | exact ih0 _ _
   | exact ih1 _ _ _ _
   | exact ih2 _ _ _ _ _ _ _
   | exact l0_ _
   | refine l2_ ?_ ?_
   | refine l1_ ?_ (fun _ => ?_)
  ·
   intro y0 y1 y2 y3
   unfold impl_Pressed_text.j0
   repeat' first
   | (with_reducible exact ih0 _ _)
   | (with_reducible exact ih1 _ _ _ _)
   | (with_reducible exact ih2 _ _ _ _ _ _ _)
   | (with_reducible exact l3_ _)
   | (with_reducible exact l0_ _)
   | (with_reducible refine l2_ ?_ ?_)
   | (with_reducible refine l1_ ?_ (fun _ => ?_))
   | exact ih0 _ _
   | exact ih1 _ _ _ _
   | exact ih2 _ _ _ _ _ _ _
   | exact l0_ _
   | refine l2_ ?_ ?_
   | refine l1_ ?_ (fun _ => ?_)
  ·
   intro y0 y1 y2 y3 y4 y5 y6
   unfold impl_Pressed_text.l0
   repeat' first
   | (with_reducible exact ih0 _ _)
   | (with_reducible exact ih1 _ _ _ _)
   | (with_reducible exact ih2 _ _ _ _ _ _ _)
   | (with_reducible exact l3_ _)
   | (with_reducible exact l0_ _)
   | (with_reducible refine l2_ ?_ ?_)
   | (with_reducible refine l1_ ?_ (fun _ => ?_))
   | exact ih0 _ _
   | exact ih1 _ _ _ _
   | exact ih2 _ _ _ _ _ _ _
   | exact l0_ _
   | refine l2_ ?_ ?_
   | refine l1_ ?_ (fun _ => ?_)
theorem impl_Pressed_text.mono : ∀ a0 a1 k, LeO (impl_Pressed_text.f k a0 a1) (impl_Pressed_text.f (k + 1) a0 a1) := by
 intro a0 a1 k
 obtain ⟨ih0, ih1, ih2⟩ := impl_Pressed_text.mono_l k
 exact ih0 a0 a1
theorem impl_Pressed_text.calls (k : Nat) : ∀ (A0_0 : Option Addr) (c0_0 : Nat) (l0_0 : List (S60)) (a1 : Int) (r : ByteArray) (w : World) (hr0_0 : Kd.C k60 w A0_0 l0_0.length l0_0) (hc0_0 : l0_0.length ≤ c0_0) (h : impl_Pressed_text.f k l0_0 a1 = some r),
  Calls Tryz.prog 45 #[.agg #[.slice A0_0 l0_0.length c0_0], .int .i64 a1] w fun e w' => e = .returned (.string r) ∧ Below w.heap.size w w' := by
 induction k using Nat.strongRecOn with
 | _ k ih =>
 intro A0_0 c0_0 l0_0 a1 r w hr0_0 hc0_0 h
 cases k with
 | zero => exact absurd h (by simp [impl_Pressed_text.f])
 | succ k =>
 simp only [impl_Pressed_text.f] at h
 have hu30 := Tryz.underlying30
 have hu60 := Tryz.underlying60
 have HR0_0 := aM_ hr0_0
 have HC0_0 := aM_ hc0_0
 clear hr0_0 hc0_0
 have HB := aM_ (Below.refl w.heap.size w)
 have H : (if 0 ≤ a1 then (if a1 < (l0_0.length : Int) then ((some (([] : List ByteArray) : List ByteArray)).bind fun y613 => (if (rd_T60 l0_0 a1).f2 = true then (if ((rd_T60 l0_0 a1).f0).size + 1 ≤ 9223372036854775807 then (impl_Pressed_text.j0 k a1 (((rd_T60 l0_0 a1).f0) ++ (⟨#[46]⟩ : ByteArray)) y613 l0_0) else (none)) else (impl_Pressed_text.j0 k a1 ((rd_T60 l0_0 a1).f0) y613 l0_0))) else (none)) else (none)) = some r := h
 clear h
 by_cases c3 : 0 ≤ a1
 rotate_left
 ·
  rw [if_neg c3] at H
  exact absurd H (by simp)
 rw [if_pos c3] at H
 have c3b0 := decide_eq_true c3
 clear c3
 by_cases c4 : a1 < (l0_0.length : Int)
 rotate_left
 ·
  rw [if_neg c4] at H
  exact absurd H (by simp)
 rw [if_pos c4] at H
 have c4b0 := decide_eq_true c4
 clear c4
 obtain ⟨y613, hy613⟩ : ∃ y_ : List ByteArray, y_ = (([] : List ByteArray)) := ⟨_, rfl⟩
 replace H : (if (rd_T60 l0_0 a1).f2 = true then (if ((rd_T60 l0_0 a1).f0).size + 1 ≤ 9223372036854775807 then (impl_Pressed_text.j0 k a1 (((rd_T60 l0_0 a1).f0) ++ (⟨#[46]⟩ : ByteArray)) y613 l0_0) else (none)) else (impl_Pressed_text.j0 k a1 ((rd_T60 l0_0 a1).f0) y613 l0_0)) = some r := by first | (rw [hy613]; with_reducible exact H) | (have H2_ := (Option.bind_some _ _).symm.trans H; rw [hy613]; with_reducible exact H2_) | (have H2_ := (Option.bind_some _ _).symm.trans H; with_reducible exact H2_) | with_reducible exact H | (rw [hy613]; exact H) | exact H
 have Ny613 := aM_ hy613
 clear hy613
 have HC5 := aM_ H
 clear H
 go_enter Tryz.func45, Tryz.ntmps45
 go_upto_if 19 with (first | ((with_reducible refine gD_ (N := 2) rfl ?_); refine bE_ ?hg (N := 2) ?hd (cs := #[.slice A0_0 l0_0.length c0_0]) (t := 30) ?hr ?_; (case hd => rfl); (case hg => rfl); (case hr => (go_simp; done)); intro gb610 hg w6 hbox hb; have BK610 := aM_ (hbox); have GW610 := aM_ ((by rw [hg]; exact (bZ_ HB.out) : w.heap.size ≤ gb610)); have GE610 := GW610; replace HB := aM_ (bT_ HB.out hb); clear hb hbox hg; have hcz7_0 : w6.cell? ⟨gb610, 0, none⟩ = some (.slice A0_0 l0_0.length c0_0) := (bC_ BK610.out 0).trans rfl; have hfz7_0 := bF_ BK610.out 0; have p611 : 0 ≤ (a1 : Int) := of_decide_eq_true (by (with_reducible assumption)); have q611 : a1 < (l0_0.length : Int) := of_decide_eq_true (by (with_reducible assumption)); obtain ⟨ad611, e611, hx611_0, hx611_1, hx611_2⟩ := at_T60 HR0_0.out a1 p611 q611; cases e611; replace hx611_0 := (HB.out.cell (wB_ w _ hx611_0)).trans hx611_0; replace hx611_1 := (HB.out.cell (wB_ w _ hx611_1)).trans hx611_1; replace hx611_2 := (HB.out.cell (wB_ w _ hx611_2)).trans hx611_2; replace p611 := eq_true p611; replace q611 := eq_true q611) | ((with_reducible refine gD_ (N := 5) rfl ?_); refine bE_ ?hg (N := 5) ?hd (cs := #[.string (⟨#[]⟩ : ByteArray), .int .i64 0, .bool false]) (t := 60) ?hr ?_; (case hd => rfl); (case hg => rfl); (case hr => (go_simp; done)); intro gb612 hg w8 hbox hb; have BK612 := aM_ (hbox); have GW612 := aM_ ((by rw [hg]; exact (bZ_ HB.out) : w.heap.size ≤ gb612)); have GE612 := GW612; replace HB := aM_ (bT_ HB.out hb); have NB610_612 := aM_ ((by rw [hg]; exact Nat.ne_of_lt (bL_ BK610.out) : gb610 ≠ gb612)); have NB612_610 := aM_ NB610_612.out.symm; replace BK610 := aM_ (bB_ BK610.out hb); clear hb hbox hg; have hnb9 := NB612_610.out; have hnc9 := NB610_612.out; have hcz10_0 : w8.cell? ⟨gb612, 0, none⟩ = some (.string (⟨#[]⟩ : ByteArray)) := (bC_ BK612.out 0).trans rfl; have hcz10_1 : w8.cell? ⟨gb612, 1, none⟩ = some (.int .i64 0) := (bC_ BK612.out 1).trans rfl; have hcz10_2 : w8.cell? ⟨gb612, 2, none⟩ = some (.bool false) := (bC_ BK612.out 2).trans rfl; have hfz10_0 := bF_ BK612.out 0; have hfz10_1 := bF_ BK612.out 1; have hfz10_2 := bF_ BK612.out 2) | ((with_reducible refine gD_ (N := 17) rfl ?_); refine Kd.R_lit Kd.string _ 9 ?hg (N := 17) ?hd (xs := ([] : List ByteArray)) (inner := []) (ok := fun _ => True) (okp := fun _ => True) ?hr ?hp (fun _ hk => hk) trivial (Below.refl _ _) (Nat.le_refl _) (by simp) ?_; (case hd => rfl); (case hg => rfl); (case hr => (go_simp; done)); (case hp => exact (Reps.none _ _)); intro v614 w11 ho12 hb hg_ hnew_; clear hg_ hnew_; (rw [← Ny613.out] at ho12); have HO615 := aM_ (k5_ ho12 (bZ_ (by repeat (first | (with_reducible first | exact HB.out | apply bA_ | apply bN_ | apply bD_ | refine bS_ ?_ GE610.out | refine bS_ ?_ GE612.out) | exact HB.out)))); replace BK610 := aM_ (bB_ (g := gb610) (o := .cells #[.slice (some ad611) l0_0.length c0_0] 30 (0, 0)) (by refine bR_ ?_ NB610_612.out _; refine bR_ ?_ NB610_612.out _; refine bR_ ?_ NB610_612.out _; exact BK610.out) hb); replace BK612 := aM_ (bB_ (g := gb612) (o := .cells #[.string ((rd_T60 l0_0 a1).f0), .int .i64 ((rd_T60 l0_0 a1).f1), .bool ((rd_T60 l0_0 a1).f2)] 60 (0, 0)) (by refine bP_ (cs := #[.string ((rd_T60 l0_0 a1).f0), .int .i64 ((rd_T60 l0_0 a1).f1), .bool false]) ?_ 2 _ rfl; refine bP_ (cs := #[.string ((rd_T60 l0_0 a1).f0), .int .i64 0, .bool false]) ?_ 1 _ rfl; refine bP_ (cs := #[.string (⟨#[]⟩ : ByteArray), .int .i64 0, .bool false]) ?_ 0 _ rfl; exact BK612.out) hb); replace HB := aM_ (bT_ (by repeat (first | (with_reducible first | exact HB.out | apply bA_ | apply bN_ | apply bD_ | refine bS_ ?_ GE610.out | refine bS_ ?_ GE612.out) | exact HB.out)) hb); clear hb ho12; have hcz13_0 : w11.cell? ⟨gb612, 0, none⟩ = some (.string ((rd_T60 l0_0 a1).f0)) := (bC_ BK612.out 0).trans rfl; have hcz13_1 : w11.cell? ⟨gb612, 1, none⟩ = some (.int .i64 ((rd_T60 l0_0 a1).f1)) := (bC_ BK612.out 1).trans rfl; have hcz13_2 : w11.cell? ⟨gb612, 2, none⟩ = some (.bool ((rd_T60 l0_0 a1).f2)) := (bC_ BK612.out 2).trans rfl; have hfz13_0 := bF_ BK612.out 0; have hfz13_1 := bF_ BK612.out 1; have hfz13_2 := bF_ BK612.out 2))
 (try simp only [Act.put, sA_, sB_, sC_])
 go_cut [6] (fun v6 wc => ∃ (kq : Nat) (x6_4 : ByteArray), v6 = .string x6_4 ∧ Aside0 (impl_Pressed_text.j0 kq a1 x6_4 y613 l0_0 = some r) ∧ Aside0 (kq ≤ k) ∧ Aside0 (Kd.R Kd.string 9 wc w.heap.size (fun _ => True) v614 y613) ∧ Aside0 (wc.heap[gb610]? = some (.cells #[(.slice (some ad611) l0_0.length c0_0)] 30 (0, 0))) ∧ Aside0 (wc.heap[gb612]? = some (.cells #[.string ((rd_T60 l0_0 a1).f0), .int .i64 ((rd_T60 l0_0 a1).f1), .bool ((rd_T60 l0_0 a1).f2)] 60 (0, 0))) ∧ Aside0 (Below w.heap.size w wc))
 case first =>
  have H := HC5.out
  clear HC5
  obtain ⟨bq14, hbq14⟩ : ∃ b_ : Bool, b_ = ((rd_T60 l0_0 a1).f2) := ⟨_, rfl⟩
  replace H : (if bq14 = true then (if ((rd_T60 l0_0 a1).f0).size + 1 ≤ 9223372036854775807 then (impl_Pressed_text.j0 k a1 (((rd_T60 l0_0 a1).f0) ++ (⟨#[46]⟩ : ByteArray)) y613 l0_0) else (none)) else (impl_Pressed_text.j0 k a1 ((rd_T60 l0_0 a1).f0) y613 l0_0)) = some r := by rw [← hbq14] at H; exact H
  have Nbq14 := aM_ hbq14
  clear hbq14
  (try rw [← Nbq14.out])
  by_cases c15 : bq14 = true
  ·
   subst c15
   rw [if_pos rfl] at H
   by_cases c16 : ((rd_T60 l0_0 a1).f0).size + 1 ≤ 9223372036854775807
   ·
    rw [if_pos c16] at H
    have c16b0 := eq_true c16
    have c16b1 := decide_eq_true c16
    try have c16b2 : (9223372036854775807 < ((rd_T60 l0_0 a1).f0).size + 1) = False := eq_false (Nat.not_lt.2 c16)
    have H' := aM_ H
    clear H
    go_wp2
    go_meet
    case rel => exact ⟨_, (((rd_T60 l0_0 a1).f0) ++ (⟨#[46]⟩ : ByteArray)), (by rfl), H', ⟨by omega⟩, ⟨HO615.out⟩, ⟨BK610.out⟩, ⟨BK612.out⟩, ⟨HB.out⟩⟩
   ·
    rw [if_neg c16] at H
    exact absurd H (by simp)
  ·
   replace c15 := Bool.eq_false_iff.mpr c15
   subst c15
   have H1 : (impl_Pressed_text.j0 k a1 ((rd_T60 l0_0 a1).f0) y613 l0_0) = some r := by rw [if_neg (show ¬ (false = true) by decide)] at H; exact H
   clear H
   have H := H1
   clear H1
   have H' := aM_ H
   clear H
   go_wp2
   go_meet
   case rel => exact ⟨_, ((rd_T60 l0_0 a1).f0), (by rfl), H', ⟨by omega⟩, ⟨HO615.out⟩, ⟨BK610.out⟩, ⟨BK612.out⟩, ⟨HB.out⟩⟩
 case rest =>
  clear HC5
  try clear q1
  try clear p2
  try clear c3b0
  try clear c4b0
  try clear p6
  try clear q6
  try clear hx6
  try clear q14
  try clear c16b0
  try clear c16b1
  try clear c16b2
  try clear hcz10_0
  try clear hcz10_1
  try clear hcz10_2
  try clear hcz13_0
  try clear hcz13_1
  try clear hcz13_2
  try clear hcz7_0
  try clear hfz10_0
  try clear hfz10_1
  try clear hfz10_2
  try clear hfz13_0
  try clear hfz13_1
  try clear hfz13_2
  try clear hfz7_0
  try clear hx611_0
  try clear hx611_1
  try clear hx611_2
  try clear p611
  try clear q611
  obtain ⟨kq, x6_4, rfl, HA, HJ4, HO_7, BK610, BK612, HB⟩ := hcut
  cases kq with
  | zero => exact absurd HA.out (by simp [impl_Pressed_text.j0])
  | succ kj4 =>
   have H := HA.out
   clear HA
   simp only [impl_Pressed_text.j0] at H
   have H' := aM_ H
   clear H
   have hnb17 := NB610_612.out
   have hnc17 := NB612_610.out
   have hcz18_0 : wc.cell? ⟨gb610, 0, none⟩ = some (.slice (some ad611) l0_0.length c0_0) := (bC_ BK610.out 0).trans rfl
   have hfz18_0 := bF_ BK610.out 0
   go_wp2
   go_loopg [7, 25] kj4 (fun kq v7 v25 w' => ∃ (x7_2 : List ByteArray) (x25_2 : Int), v25 = .int .i64 x25_2 ∧ Aside0 (impl_Pressed_text.l0 kq a1 x6_4 x7_2 l0_0 (l0_0.length : Int) x25_2 l0_0 = some r) ∧ Aside0 (kq ≤ kj4) ∧ Aside0 (Kd.R Kd.string 9 w' w.heap.size (fun _ => True) v7 x7_2) ∧ Aside0 (w'.heap[gb610]? = some (.cells #[(.slice (some ad611) l0_0.length c0_0)] 30 (0, 0))) ∧ Aside0 (w'.heap[gb612]? = some (.cells #[.string ((rd_T60 l0_0 a1).f0), .int .i64 ((rd_T60 l0_0 a1).f1), .bool ((rd_T60 l0_0 a1).f2)] 60 (0, 0))) ∧ Aside0 (Below w.heap.size w w'))
   case atStart => exact ⟨(y613), (0), (by rfl), H', ⟨Nat.le_refl _⟩, ⟨HO_7.out⟩, ⟨BK610.out⟩, ⟨BK612.out⟩, ⟨HB.out⟩⟩
   case round =>
    clear H'
    try clear q1
    try clear p2
    try clear c3b0
    try clear c4b0
    try clear p6
    try clear q6
    try clear hx6
    try clear q14
    try clear c16b0
    try clear c16b1
    try clear c16b2
    try clear hcz10_0
    try clear hcz10_1
    try clear hcz10_2
    try clear hcz13_0
    try clear hcz13_1
    try clear hcz13_2
    try clear hcz18_0
    try clear hcz7_0
    try clear hfz10_0
    try clear hfz10_1
    try clear hfz10_2
    try clear hfz13_0
    try clear hfz13_1
    try clear hfz13_2
    try clear hfz18_0
    try clear hfz7_0
    try clear hx611_0
    try clear hx611_1
    try clear hx611_2
    try clear p2
    try clear p6
    try clear p611
    try clear q1
    try clear q14
    try clear q6
    try clear q611
    obtain ⟨x7_2, x25_2, rfl, HA, HK2, HO_7, BK610, BK612, HB⟩ := hrel
    cases gk with
    | zero => exact absurd HA.out (by simp [impl_Pressed_text.l0])
    | succ k2 =>
     have H := HA.out
     clear HA
     simp only [impl_Pressed_text.l0] at H
     by_cases c19 : x25_2 < (l0_0.length : Int)
     ·
      rw [if_pos c19] at H
      have c19b0 := decide_eq_true c19
      clear c19
      by_cases c20 : 0 ≤ x25_2
      ·
       rw [if_pos c20] at H
       have c20b0 := decide_eq_true c20
       clear c20
       by_cases c21 : x25_2 < (l0_0.length : Int)
       ·
        rw [if_pos c21] at H
        have c21b0 := decide_eq_true c21
        clear c21
        by_cases c22 : ((rd_T60 l0_0 x25_2).f1) = a1
        ·
         rw [if_pos c22] at H
         have c22b0 : (((rd_T60 l0_0 x25_2).f1) == a1) = true := beq_iff_eq.mpr c22
         have c22b1 : (((rd_T60 l0_0 x25_2).f1) != a1) = false := bne_eq_false_iff_eq.mpr c22
         clear c22
         replace H := oB_.mp H
         obtain ⟨t618, A230, H⟩ := H
         try dsimp only at H
         have A23 := aM_ A230
         clear A230
         by_cases c24 : x7_2.length < 8796093022208
         ·
          rw [if_pos c24] at H
          have LMc24 := aM_ c24
          clear c24
          obtain ⟨y619, hy619⟩ : ∃ y_ : List ByteArray, y_ = (x7_2 ++ [t618]) := ⟨_, rfl⟩
          replace H : (impl_Pressed_text.l0 k2 a1 x6_4 y619 l0_0 (l0_0.length : Int) (wrap64 (x25_2 + 1)) l0_0) = some r := by first | (rw [hy619]; with_reducible exact H) | (have H2_ := (Option.bind_some _ _).symm.trans H; rw [hy619]; with_reducible exact H2_) | (have H2_ := (Option.bind_some _ _).symm.trans H; with_reducible exact H2_) | with_reducible exact H | (rw [hy619]; exact H) | exact H
          have Ny619 := aM_ hy619
          clear hy619
          have H' := aM_ H
          clear H
          have p616 : 0 ≤ (x25_2 : Int) := of_decide_eq_true (by (with_reducible assumption))
          have q616 : x25_2 < (l0_0.length : Int) := of_decide_eq_true (by (with_reducible assumption))
          obtain ⟨ad616, e616, hx616_0, hx616_1, hx616_2⟩ := at_T60 HR0_0.out x25_2 p616 q616
          obtain rfl : ad611 = ad616 := (by injection e616)
          replace hx616_0 := (HB.out.cell (wB_ w _ hx616_0)).trans hx616_0
          replace hx616_1 := (HB.out.cell (wB_ w _ hx616_1)).trans hx616_1
          replace hx616_2 := (HB.out.cell (wB_ w _ hx616_2)).trans hx616_2
          replace p616 := eq_true p616
          replace q616 := eq_true q616
          go_wp2_with (first | ((with_reducible refine gD_ (N := 9) rfl ?_); refine bE_ ?hg (N := 9) ?hd (cs := #[.string (⟨#[]⟩ : ByteArray), .int .i64 0, .bool false]) (t := 60) ?hr ?_; (case hd => rfl); (case hg => rfl); (case hr => (go_simp; done)); intro gb617 hg w25 hbox hb; replace HO_7 := aM_ (kB_ HO_7.out hb); have BK617 := aM_ (hbox); have GW617 := aM_ ((by rw [hg]; exact (bZ_ HB.out) : w.heap.size ≤ gb617)); have GE617 := GW617; replace HB := aM_ (bT_ HB.out hb); have NB610_617 := aM_ ((by rw [hg]; exact Nat.ne_of_lt (bL_ BK610.out) : gb610 ≠ gb617)); have NB617_610 := aM_ NB610_617.out.symm; replace BK610 := aM_ (bB_ BK610.out hb); have NB612_617 := aM_ ((by rw [hg]; exact Nat.ne_of_lt (bL_ BK612.out) : gb612 ≠ gb617)); have NB617_612 := aM_ NB612_617.out.symm; replace BK612 := aM_ (bB_ BK612.out hb); clear hb hbox hg; have hnb26 := NB617_610.out; have hnc26 := NB610_617.out; have hnb27 := NB617_612.out; have hnc27 := NB612_617.out; have hcz28_0 : w25.cell? ⟨gb617, 0, none⟩ = some (.string (⟨#[]⟩ : ByteArray)) := (bC_ BK617.out 0).trans rfl; have hcz28_1 : w25.cell? ⟨gb617, 1, none⟩ = some (.int .i64 0) := (bC_ BK617.out 1).trans rfl; have hcz28_2 : w25.cell? ⟨gb617, 2, none⟩ = some (.bool false) := (bC_ BK617.out 2).trans rfl; have hfz28_0 := bF_ BK617.out 0; have hfz28_1 := bF_ BK617.out 1; have hfz28_2 := bF_ BK617.out 2; have hnb29 := NB610_612.out; have hnc29 := NB612_610.out; have hcz30_0 : w25.cell? ⟨gb610, 0, none⟩ = some (.slice (some ad611) l0_0.length c0_0) := (bC_ BK610.out 0).trans rfl; have hfz30_0 := bF_ BK610.out 0) | ((with_reducible refine gC_ (f := 45) rfl ?_); refine goesL_ (some 37) rfl rfl Tryz.func45 (by kernel_rfl) rfl #[.agg #[.slice (some ad611) l0_0.length c0_0], .int .i64 x25_2] rfl (by (try simp only [sD_, sE_, sF_]); rfl) ?_; (with_reducible refine (ih k2 (by have := HJ4.out; have := HK2.out; omega) _ _ l0_0 x25_2 t618 _ ?side1 ?side2 A23.out).mono ?_); (case side1 => exact k4_ HR0_0.out (by repeat (first | (with_reducible first | exact HB.out | apply bA_ | apply bN_ | apply bD_ | refine bS_ ?_ GE610.out | refine bS_ ?_ GE612.out | refine bS_ ?_ GE617.out) | exact HB.out))); (case side2 => exact HC0_0.out); rintro e w31 ⟨rfl, hb⟩; refine ⟨_, rfl, ?_⟩; replace HO_7 := aM_ (kB_ (by exact (kM_ (kF_ (p := ⟨gb617, 2, none⟩) (kF_ (p := ⟨gb617, 1, none⟩) (kF_ (p := ⟨gb617, 0, none⟩) (kT_ HO_7.out BK617.out (by decide)) (fun _ hk => hk.2) (.string ((rd_T60 l0_0 x25_2).f0))) (fun _ hk => hk.2) (.int .i64 ((rd_T60 l0_0 x25_2).f1))) (fun _ hk => hk.2) (.bool ((rd_T60 l0_0 x25_2).f2))) (fun _ h_ => h_.1))) hb); replace BK610 := aM_ (bB_ (g := gb610) (o := .cells #[.slice (some ad611) l0_0.length c0_0] 30 (0, 0)) (by refine bR_ ?_ NB610_617.out _; refine bR_ ?_ NB610_617.out _; refine bR_ ?_ NB610_617.out _; exact BK610.out) hb); replace BK612 := aM_ (bB_ (g := gb612) (o := .cells #[.string ((rd_T60 l0_0 a1).f0), .int .i64 ((rd_T60 l0_0 a1).f1), .bool ((rd_T60 l0_0 a1).f2)] 60 (0, 0)) (by refine bR_ ?_ NB612_617.out _; refine bR_ ?_ NB612_617.out _; refine bR_ ?_ NB612_617.out _; exact BK612.out) hb); replace BK617 := aM_ (bB_ (g := gb617) (o := .cells #[.string ((rd_T60 l0_0 x25_2).f0), .int .i64 ((rd_T60 l0_0 x25_2).f1), .bool ((rd_T60 l0_0 x25_2).f2)] 60 (0, 0)) (by refine bP_ (cs := #[.string ((rd_T60 l0_0 x25_2).f0), .int .i64 ((rd_T60 l0_0 x25_2).f1), .bool false]) ?_ 2 _ rfl; refine bP_ (cs := #[.string ((rd_T60 l0_0 x25_2).f0), .int .i64 0, .bool false]) ?_ 1 _ rfl; refine bP_ (cs := #[.string (⟨#[]⟩ : ByteArray), .int .i64 0, .bool false]) ?_ 0 _ rfl; exact BK617.out) hb); replace HB := aM_ (bT_ (by repeat (first | (with_reducible first | exact HB.out | apply bA_ | apply bN_ | apply bD_ | refine bS_ ?_ GE610.out | refine bS_ ?_ GE612.out | refine bS_ ?_ GE617.out) | exact HB.out)) hb); (try clear hb)) | ((with_reducible refine gate_builtin (b := .append) (xs := #[.tmp 34, .tmp 38]) rfl ?_); at_builtin; refine Kd.R_append Kd.string (w0 := w) w.heap.size rfl (.tmp 34) (.tmp 38) 49 9 (.string ⟨#[]⟩) 16 rfl Tryz.underlying49 info9 rfl (by decide) (by omega) u7 x7_2 t618 [.string t618] (fun _ => True) (fun _ => False) rfl rfl ?aP (fun _ hk => hk.elim) ?aF ?aO ?aB ?aS ?aL ?_; (case aP => exact rfl); (case aB => exact HB.out); (case aF => exact (fun _ _ => trivial)); (case aO => exact HO_7.out); (case aS => exact (bZ_ HB.out)); (case aL => have := LMc24.out; omega); intro v620 w32 ho hb hg hat; rw [← Ny619.out] at ho; have n0_ := aM_ (blk_grown (g := gb610) (o := .cells #[.slice (some ad611) l0_0.length c0_0] 30 (0, 0)) BK610.out hg (k6_ HO_7.out BK610.out (by decide))); have n1_ := aM_ (blk_grown (g := gb612) (o := .cells #[.string ((rd_T60 l0_0 a1).f0), .int .i64 ((rd_T60 l0_0 a1).f1), .bool ((rd_T60 l0_0 a1).f2)] 60 (0, 0)) BK612.out hg (k6_ HO_7.out BK612.out (by decide))); have n2_ := aM_ (blk_grown (g := gb617) (o := .cells #[.string ((rd_T60 l0_0 x25_2).f0), .int .i64 ((rd_T60 l0_0 x25_2).f1), .bool ((rd_T60 l0_0 x25_2).f2)] 60 (0, 0)) BK617.out hg (k6_ HO_7.out BK617.out (by decide))); have n3_ := aM_ (hb); have n4_ := aM_ (ho); clear BK610; clear BK612; clear BK617; clear HB; clear HO_7; have BK610 := n0_; have BK612 := n1_; have BK617 := n2_; have HB := n3_; have HO621 := n4_; clear n0_ n1_ n2_ n3_ n4_; clear ho hb hg hat))
          go_roundg k2
          case measure => have := HJ4.out; have := HK2.out; omega
          case rel => exact ⟨(y619), (wrap64 (x25_2 + 1)), (by rfl), H', ⟨by have := HJ4.out; have := HK2.out; omega⟩, ⟨HO621.out⟩, ⟨BK610.out⟩, ⟨BK612.out⟩, ⟨HB.out⟩⟩
         ·
          rw [if_neg c24] at H
          exact absurd H (by simp)
        ·
         rw [if_neg c22] at H
         have c22b0 : (((rd_T60 l0_0 x25_2).f1) == a1) = false := beq_eq_false_iff_ne.mpr c22
         have c22b1 : (((rd_T60 l0_0 x25_2).f1) != a1) = true := bne_iff_ne.mpr c22
         have H' := aM_ H
         clear H
         have p616 : 0 ≤ (x25_2 : Int) := of_decide_eq_true (by (with_reducible assumption))
         have q616 : x25_2 < (l0_0.length : Int) := of_decide_eq_true (by (with_reducible assumption))
         obtain ⟨ad616, e616, hx616_0, hx616_1, hx616_2⟩ := at_T60 HR0_0.out x25_2 p616 q616
         obtain rfl : ad611 = ad616 := (by injection e616)
         replace hx616_0 := (HB.out.cell (wB_ w _ hx616_0)).trans hx616_0
         replace hx616_1 := (HB.out.cell (wB_ w _ hx616_1)).trans hx616_1
         replace hx616_2 := (HB.out.cell (wB_ w _ hx616_2)).trans hx616_2
         replace p616 := eq_true p616
         replace q616 := eq_true q616
         go_wp2_with (first | ((with_reducible refine gD_ (N := 9) rfl ?_); refine bE_ ?hg (N := 9) ?hd (cs := #[.string (⟨#[]⟩ : ByteArray), .int .i64 0, .bool false]) (t := 60) ?hr ?_; (case hd => rfl); (case hg => rfl); (case hr => (go_simp; done)); intro gb617 hg w33 hbox hb; replace HO_7 := aM_ (kB_ HO_7.out hb); have BK617 := aM_ (hbox); have GW617 := aM_ ((by rw [hg]; exact (bZ_ HB.out) : w.heap.size ≤ gb617)); have GE617 := GW617; replace HB := aM_ (bT_ HB.out hb); have NB610_617 := aM_ ((by rw [hg]; exact Nat.ne_of_lt (bL_ BK610.out) : gb610 ≠ gb617)); have NB617_610 := aM_ NB610_617.out.symm; replace BK610 := aM_ (bB_ BK610.out hb); have NB612_617 := aM_ ((by rw [hg]; exact Nat.ne_of_lt (bL_ BK612.out) : gb612 ≠ gb617)); have NB617_612 := aM_ NB612_617.out.symm; replace BK612 := aM_ (bB_ BK612.out hb); clear hb hbox hg; have hnb34 := NB617_610.out; have hnc34 := NB610_617.out; have hnb35 := NB617_612.out; have hnc35 := NB612_617.out; have hcz36_0 : w33.cell? ⟨gb617, 0, none⟩ = some (.string (⟨#[]⟩ : ByteArray)) := (bC_ BK617.out 0).trans rfl; have hcz36_1 : w33.cell? ⟨gb617, 1, none⟩ = some (.int .i64 0) := (bC_ BK617.out 1).trans rfl; have hcz36_2 : w33.cell? ⟨gb617, 2, none⟩ = some (.bool false) := (bC_ BK617.out 2).trans rfl; have hfz36_0 := bF_ BK617.out 0; have hfz36_1 := bF_ BK617.out 1; have hfz36_2 := bF_ BK617.out 2))
         go_roundg k2
         case measure => have := HJ4.out; have := HK2.out; omega
         case rel => exact ⟨(x7_2), (wrap64 (x25_2 + 1)), (by rfl), H', ⟨by have := HJ4.out; have := HK2.out; omega⟩, ⟨by exact kM_ (kF_ (p := ⟨gb617, 2, none⟩) (kF_ (p := ⟨gb617, 1, none⟩) (kF_ (p := ⟨gb617, 0, none⟩) (kT_ HO_7.out BK617.out (by decide)) (fun _ hk => hk.2) (.string ((rd_T60 l0_0 x25_2).f0))) (fun _ hk => hk.2) (.int .i64 ((rd_T60 l0_0 x25_2).f1))) (fun _ hk => hk.2) (.bool ((rd_T60 l0_0 x25_2).f2))) (fun _ hk => trivial)⟩, ⟨by refine bR_ ?_ NB610_617.out _; refine bR_ ?_ NB610_617.out _; refine bR_ ?_ NB610_617.out _; exact BK610.out⟩, ⟨by refine bR_ ?_ NB612_617.out _; refine bR_ ?_ NB612_617.out _; refine bR_ ?_ NB612_617.out _; exact BK612.out⟩, ⟨by repeat (first | (with_reducible first | exact HB.out | apply bA_ | apply bN_ | apply bD_ | refine bS_ ?_ GE610.out | refine bS_ ?_ GE612.out | refine bS_ ?_ GE617.out) | exact HB.out)⟩⟩
       ·
        rw [if_neg c21] at H
        exact absurd H (by simp)
      ·
       rw [if_neg c20] at H
       exact absurd H (by simp)
     ·
      rw [if_neg c19] at H
      have c19b0 := decide_eq_false c19
      clear c19
      by_cases c37 : (x7_2.length : Int) = 0
      ·
       rw [if_pos c37] at H
       have c37b0 : ((x7_2.length : Int) == 0) = true := beq_iff_eq.mpr c37
       have c37b1 : ((x7_2.length : Int) != 0) = false := bne_eq_false_iff_eq.mpr c37
       clear c37
       obtain rfl := Option.some.inj H
       obtain ⟨Ao38, co38, eo38⟩ := kS_ HO_7.out
       subst eo38
       go_wp2
       go_ret
       exact ⟨by rfl, by exact HB.out⟩
      ·
       rw [if_neg c37] at H
       have c37b0 : ((x7_2.length : Int) == 0) = false := beq_eq_false_iff_ne.mpr c37
       have c37b1 : ((x7_2.length : Int) != 0) = true := bne_iff_ne.mpr c37
       have c37b2 : ¬ (x7_2 = []) := fun h_ => c37 (by rw [h_]; rfl)
       by_cases c39 : x6_4.size + 1 ≤ 9223372036854775807
       ·
        rw [if_pos c39] at H
        have c39b0 := eq_true c39
        have c39b1 := decide_eq_true c39
        try have c39b2 : (9223372036854775807 < x6_4.size + 1) = False := eq_false (Nat.not_lt.2 c39)
        replace H := oB_.mp H
        obtain ⟨t622, A400, H⟩ := H
        try dsimp only at H
        have A40 := aM_ A400
        clear A400
        by_cases c41 : (x6_4 ++ (⟨#[40]⟩ : ByteArray)).size + t622.size ≤ 9223372036854775807
        ·
         rw [if_pos c41] at H
         have c41b0 := eq_true c41
         have c41b1 := decide_eq_true c41
         try have c41b2 : (9223372036854775807 < (x6_4 ++ (⟨#[40]⟩ : ByteArray)).size + t622.size) = False := eq_false (Nat.not_lt.2 c41)
         have c41n0 : x6_4.size + 1 + t622.size ≤ 9223372036854775807 := by have h_ := c41; simp only [ByteArray.size_append] at h_; exact h_
         have c41n1 := eq_true c41n0
         have c41n2 := decide_eq_true c41n0
         have c41n3 : (9223372036854775807 < x6_4.size + 1 + t622.size) = False := eq_false (Nat.not_lt.2 c41n0)
         by_cases c42 : ((x6_4 ++ (⟨#[40]⟩ : ByteArray)) ++ t622).size + 1 ≤ 9223372036854775807
         ·
          rw [if_pos c42] at H
          have c42b0 := eq_true c42
          have c42b1 := decide_eq_true c42
          try have c42b2 : (9223372036854775807 < ((x6_4 ++ (⟨#[40]⟩ : ByteArray)) ++ t622).size + 1) = False := eq_false (Nat.not_lt.2 c42)
          have c42n0 : x6_4.size + 1 + t622.size + 1 ≤ 9223372036854775807 := by have h_ := c42; simp only [ByteArray.size_append] at h_; exact h_
          have c42n1 := eq_true c42n0
          have c42n2 := decide_eq_true c42n0
          have c42n3 : (9223372036854775807 < x6_4.size + 1 + t622.size + 1) = False := eq_false (Nat.not_lt.2 c42n0)
          obtain rfl := Option.some.inj H
          obtain ⟨Ao43, co43, eo43⟩ := kS_ HO_7.out
          subst eo43
          go_wp2_with (first | ((with_reducible refine gC_ (f := 71) rfl ?_); refine goesL_ (some 48) rfl rfl Tryz.func71 (by kernel_rfl) rfl #[.slice Ao43 x7_2.length co43, .string (⟨#[44]⟩ : ByteArray)] rfl (by (try simp only [sD_, sE_, sF_]); rfl) ?_; (with_reducible refine (strings_Join.calls _ _ x7_2 (⟨#[44]⟩ : ByteArray) t622 _ ?side1 ?side2 A40.out).mono ?_); (case side1 => repeat (first | exact (kR_ HO_7.out).2.2 | (with_reducible refine Kd.C_alloc ?_ _) | (with_reducible refine Kd.C_drewN ?_ _) | (with_reducible refine Kd.C_drew ?_))); (case side2 => exact (kR_ HO_7.out).2.1); rintro e w44 ⟨rfl, hb⟩; refine ⟨_, rfl, ?_⟩; replace HO_7 := aM_ (kB_ HO_7.out hb); replace BK610 := aM_ (bB_ BK610.out hb); replace BK612 := aM_ (bB_ BK612.out hb); replace HB := aM_ (bT_ HB.out hb); (try clear hb)))
          go_ret
          exact ⟨by rfl, by exact HB.out⟩
         ·
          rw [if_neg c42] at H
          exact absurd H (by simp)
        ·
         rw [if_neg c41] at H
         exact absurd H (by simp)
       ·
        rw [if_neg c39] at H
        exact absurd H (by simp)
def impl_PressedText.f (k : Nat) (l0_0 : List (S60)) : Option (ByteArray × Bool) := (impl_IsPressed.f k l0_0).bind fun t624 => (if t624 = true then ((impl_Pressed_text.f k l0_0 0).bind fun t625 => (some (t625, true))) else (some ((⟨#[]⟩ : ByteArray), false)))
theorem impl_PressedText.mono : ∀ a0 k, LeO (impl_PressedText.f k a0) (impl_PressedText.f (k + 1) a0) := by
 intro a0 k
 unfold impl_PressedText.f
 repeat' first
   | (with_reducible exact impl_IsPressed.mono _ _)
   | (with_reducible exact impl_Pressed_text.mono _ _ _)
   | (with_reducible exact l3_ _)
   | (with_reducible exact l0_ _)
   | (with_reducible refine l2_ ?_ ?_)
   | (with_reducible refine l1_ ?_ (fun _ => ?_))
   | exact impl_IsPressed.mono _ _
   | exact impl_Pressed_text.mono _ _ _
   | exact l0_ _
   | refine l2_ ?_ ?_
   | refine l1_ ?_ (fun _ => ?_)
theorem impl_PressedText.calls (k : Nat) (A0_0 : Option Addr) (c0_0 : Nat) (l0_0 : List (S60)) (r1 : ByteArray) (r2 : Bool) (w : World) (hr0_0 : Kd.C k60 w A0_0 l0_0.length l0_0) (hc0_0 : l0_0.length ≤ c0_0) (h : impl_PressedText.f k l0_0 = some (r1, r2)) :
  Calls Tryz.prog 20 #[.agg #[.slice A0_0 l0_0.length c0_0]] w fun e w' => e = .returned (.tuple #[.string r1, .bool r2]) ∧ Below w.heap.size w w' := by
 have hu30 := Tryz.underlying30
 have HR0_0 := aM_ hr0_0
 have HC0_0 := aM_ hc0_0
 clear hr0_0 hc0_0
 have HB := aM_ (Below.refl w.heap.size w)
 have H : ((impl_IsPressed.f k l0_0).bind fun t624 => (if t624 = true then ((impl_Pressed_text.f k l0_0 0).bind fun t625 => (some (t625, true))) else (some ((⟨#[]⟩ : ByteArray), false)))) = some (r1, r2) := h
 clear h
 replace H := oB_.mp H
 obtain ⟨t624, A20, H⟩ := H
 try dsimp only at H
 have A2 := aM_ A20
 clear A20
 by_cases c3 : t624 = true
 ·
  subst c3
  rw [if_pos rfl] at H
  replace H := oB_.mp H
  obtain ⟨t625, A40, H⟩ := H
  try dsimp only at H
  have A4 := aM_ A40
  clear A40
  simp only [Option.some.injEq, Prod.mk.injEq] at H
  obtain ⟨rfl, rfl⟩ := H
  go_enter Tryz.func20, Tryz.ntmps20
  go_wp2_with (first | ((with_reducible refine gD_ (N := 1) rfl ?_); refine bE_ ?hg (N := 1) ?hd (cs := #[.slice A0_0 l0_0.length c0_0]) (t := 30) ?hr ?_; (case hd => rfl); (case hg => rfl); (case hr => (go_simp; done)); intro gb623 hg w5 hbox hb; have BK623 := aM_ (hbox); have GW623 := aM_ ((by rw [hg]; exact (bZ_ HB.out) : w.heap.size ≤ gb623)); have GE623 := GW623; replace HB := aM_ (bT_ HB.out hb); clear hb hbox hg; have hcz6_0 : w5.cell? ⟨gb623, 0, none⟩ = some (.slice A0_0 l0_0.length c0_0) := (bC_ BK623.out 0).trans rfl; have hfz6_0 := bF_ BK623.out 0) | ((with_reducible refine gC_ (f := 44) rfl ?_); refine goesL_ (some 5) rfl rfl Tryz.func44 (by kernel_rfl) rfl #[.agg #[.slice A0_0 l0_0.length c0_0]] rfl (by (try simp only [sD_, sE_, sF_]); rfl) ?_; (with_reducible refine (impl_IsPressed.calls k _ _ l0_0 true _ ?side1 ?side2 A2.out).mono ?_); (case side1 => repeat (first | exact (k4_ HR0_0.out HB.out) | (with_reducible refine Kd.C_alloc ?_ _) | (with_reducible refine Kd.C_drewN ?_ _) | (with_reducible refine Kd.C_drew ?_))); (case side2 => exact HC0_0.out); rintro e w7 ⟨rfl, hb⟩; refine ⟨_, rfl, ?_⟩; replace BK623 := aM_ (bB_ BK623.out hb); replace HB := aM_ (bT_ HB.out hb); (try clear hb); have hcz8_0 : w7.cell? ⟨gb623, 0, none⟩ = some (.slice A0_0 l0_0.length c0_0) := (bC_ BK623.out 0).trans rfl; have hfz8_0 := bF_ BK623.out 0) | ((with_reducible refine gC_ (f := 45) rfl ?_); refine goesL_ (some 8) rfl rfl Tryz.func45 (by kernel_rfl) rfl #[.agg #[.slice A0_0 l0_0.length c0_0], .int .i64 0] rfl (by (try simp only [sD_, sE_, sF_]); rfl) ?_; (with_reducible refine (impl_Pressed_text.calls k _ _ l0_0 0 t625 _ ?side1 ?side2 A4.out).mono ?_); (case side1 => repeat (first | exact (k4_ HR0_0.out HB.out) | (with_reducible refine Kd.C_alloc ?_ _) | (with_reducible refine Kd.C_drewN ?_ _) | (with_reducible refine Kd.C_drew ?_))); (case side2 => exact HC0_0.out); rintro e w9 ⟨rfl, hb⟩; refine ⟨_, rfl, ?_⟩; replace BK623 := aM_ (bB_ BK623.out hb); replace HB := aM_ (bT_ HB.out hb); (try clear hb)))
  go_ret2
  exact ⟨by rfl, by exact HB.out⟩
 ·
  replace c3 := Bool.eq_false_iff.mpr c3
  subst c3
  have H1 : (some ((⟨#[]⟩ : ByteArray), false)) = some (r1, r2) := by rw [if_neg (show ¬ (false = true) by decide)] at H; exact H
  clear H
  have H := H1
  clear H1
  simp only [Option.some.injEq, Prod.mk.injEq] at H
  obtain ⟨rfl, rfl⟩ := H
  go_enter Tryz.func20, Tryz.ntmps20
  go_wp2_with (first | ((with_reducible refine gD_ (N := 1) rfl ?_); refine bE_ ?hg (N := 1) ?hd (cs := #[.slice A0_0 l0_0.length c0_0]) (t := 30) ?hr ?_; (case hd => rfl); (case hg => rfl); (case hr => (go_simp; done)); intro gb623 hg w10 hbox hb; have BK623 := aM_ (hbox); have GW623 := aM_ ((by rw [hg]; exact (bZ_ HB.out) : w.heap.size ≤ gb623)); have GE623 := GW623; replace HB := aM_ (bT_ HB.out hb); clear hb hbox hg; have hcz11_0 : w10.cell? ⟨gb623, 0, none⟩ = some (.slice A0_0 l0_0.length c0_0) := (bC_ BK623.out 0).trans rfl; have hfz11_0 := bF_ BK623.out 0) | ((with_reducible refine gC_ (f := 44) rfl ?_); refine goesL_ (some 5) rfl rfl Tryz.func44 (by kernel_rfl) rfl #[.agg #[.slice A0_0 l0_0.length c0_0]] rfl (by (try simp only [sD_, sE_, sF_]); rfl) ?_; (with_reducible refine (impl_IsPressed.calls k _ _ l0_0 false _ ?side1 ?side2 A2.out).mono ?_); (case side1 => repeat (first | exact (k4_ HR0_0.out HB.out) | (with_reducible refine Kd.C_alloc ?_ _) | (with_reducible refine Kd.C_drewN ?_ _) | (with_reducible refine Kd.C_drew ?_))); (case side2 => exact HC0_0.out); rintro e w12 ⟨rfl, hb⟩; refine ⟨_, rfl, ?_⟩; replace BK623 := aM_ (bB_ BK623.out hb); replace HB := aM_ (bT_ HB.out hb); (try clear hb)))
  go_ret2
  exact ⟨by rfl, by exact HB.out⟩
def spec_PressedText.f (k : Nat) (l0_0 : List (S60)) : Option (ByteArray × Bool) := (spec_l4Open.f k l0_0).bind fun bt598 => (if bt598.2 = true then ((spec_l4Text.f k l0_0 0).bind fun t603 => (some (t603, true))) else (some ((⟨#[]⟩ : ByteArray), false)))
theorem spec_PressedText.mono : ∀ a0 k, LeO (spec_PressedText.f k a0) (spec_PressedText.f (k + 1) a0) := by
 intro a0 k
 unfold spec_PressedText.f
 repeat' first
   | (with_reducible exact spec_l4Open.mono _ _)
   | (with_reducible exact spec_l4Text.mono _ _ _)
   | (with_reducible exact l3_ _)
   | (with_reducible exact l0_ _)
   | (with_reducible refine l2_ ?_ ?_)
   | (with_reducible refine l1_ ?_ (fun _ => ?_))
   | exact spec_l4Open.mono _ _
   | exact spec_l4Text.mono _ _ _
   | exact l0_ _
   | refine l2_ ?_ ?_
   | refine l1_ ?_ (fun _ => ?_)
theorem spec_PressedText.calls (k : Nat) (A0_0 : Option Addr) (c0_0 : Nat) (l0_0 : List (S60)) (r1 : ByteArray) (r2 : Bool) (w : World) (hr0_0 : Kd.C k60 w A0_0 l0_0.length l0_0) (hc0_0 : l0_0.length ≤ c0_0) (h : spec_PressedText.f k l0_0 = some (r1, r2)) :
  Calls Tryz.prog 19 #[.agg #[.slice A0_0 l0_0.length c0_0]] w fun e w' => e = .returned (.tuple #[.string r1, .bool r2]) ∧ Below w.heap.size w w' := by
 have hu30 := Tryz.underlying30
 have hu36 := Tryz.underlying36
 have HR0_0 := aM_ hr0_0
 have HC0_0 := aM_ hc0_0
 clear hr0_0 hc0_0
 have HB := aM_ (Below.refl w.heap.size w)
 have H : ((spec_l4Open.f k l0_0).bind fun bt598 => (if bt598.2 = true then ((spec_l4Text.f k l0_0 0).bind fun t603 => (some (t603, true))) else (some ((⟨#[]⟩ : ByteArray), false)))) = some (r1, r2) := h
 clear h
 replace H := oB_.mp H
 obtain ⟨⟨t598, t601⟩, A20, H⟩ := H
 try dsimp only at H
 have A2 := aM_ A20
 clear A20
 by_cases c3 : t601 = true
 ·
  subst c3
  rw [if_pos rfl] at H
  replace H := oB_.mp H
  obtain ⟨t603, A40, H⟩ := H
  try dsimp only at H
  have A4 := aM_ A40
  clear A40
  simp only [Option.some.injEq, Prod.mk.injEq] at H
  obtain ⟨rfl, rfl⟩ := H
  go_enter Tryz.func19, Tryz.ntmps19
  go_wp2_with (first | ((with_reducible refine gD_ (N := 1) rfl ?_); refine bE_ ?hg (N := 1) ?hd (cs := #[.slice A0_0 l0_0.length c0_0]) (t := 30) ?hr ?_; (case hd => rfl); (case hg => rfl); (case hr => (go_simp; done)); intro gb597 hg w5 hbox hb; have BK597 := aM_ (hbox); have GW597 := aM_ ((by rw [hg]; exact (bZ_ HB.out) : w.heap.size ≤ gb597)); have GE597 := GW597; replace HB := aM_ (bT_ HB.out hb); clear hb hbox hg; have hcz6_0 : w5.cell? ⟨gb597, 0, none⟩ = some (.slice A0_0 l0_0.length c0_0) := (bC_ BK597.out 0).trans rfl; have hfz6_0 := bF_ BK597.out 0) | ((with_reducible refine gC_ (f := 27) rfl ?_); refine goesL_ (some 8) rfl rfl Tryz.func27 (by kernel_rfl) rfl #[.agg #[.slice A0_0 l0_0.length c0_0]] rfl (by (try simp only [sD_, sE_, sF_]); rfl) ?_; (with_reducible refine (spec_l4Open.calls k _ _ l0_0 t598 true _ ?side1 ?side2 A2.out).mono ?_); (case side1 => repeat (first | exact (k4_ HR0_0.out HB.out) | (with_reducible refine Kd.C_alloc ?_ _) | (with_reducible refine Kd.C_drewN ?_ _) | (with_reducible refine Kd.C_drew ?_))); (case side2 => exact HC0_0.out); rintro e w7 ⟨v599, rfl, ho0, hb⟩; refine ⟨_, rfl, ?_⟩; have HO600 := aM_ (k5_ ho0 (bZ_ HB.out)); replace BK597 := aM_ (bB_ BK597.out hb); replace HB := aM_ (bT_ HB.out hb); (try clear hb); (try clear ho0)) | ((with_reducible refine gD_ (N := 4) rfl ?_); refine bE_ ?hg (N := 4) ?hd (cs := #[.slice none 0 0]) (t := 36) ?hr ?_; (case hd => rfl); (case hg => rfl); (case hr => (go_simp; done)); intro gb602 hg w8 hbox hb; replace HO600 := aM_ (kB_ HO600.out hb); have BK602 := aM_ (hbox); have GW602 := aM_ ((by rw [hg]; exact (bZ_ HB.out) : w.heap.size ≤ gb602)); have GE602 := GW602; replace HB := aM_ (bT_ HB.out hb); have NB597_602 := aM_ ((by rw [hg]; exact Nat.ne_of_lt (bL_ BK597.out) : gb597 ≠ gb602)); have NB602_597 := aM_ NB597_602.out.symm; replace BK597 := aM_ (bB_ BK597.out hb); clear hb hbox hg; obtain ⟨Ao9, co9, eo9⟩ := kS_ HO600.out; subst eo9; have hnb10 := NB602_597.out; have hnc10 := NB597_602.out; have hcz11_0 : w8.cell? ⟨gb602, 0, none⟩ = some (.slice none 0 0) := (bC_ BK602.out 0).trans rfl; have hfz11_0 := bF_ BK602.out 0; have hcz12_0 : w8.cell? ⟨gb597, 0, none⟩ = some (.slice A0_0 l0_0.length c0_0) := (bC_ BK597.out 0).trans rfl; have hfz12_0 := bF_ BK597.out 0) | ((with_reducible refine gC_ (f := 43) rfl ?_); refine goesL_ (some 14) rfl rfl Tryz.func43 (by kernel_rfl) rfl #[.agg #[.slice A0_0 l0_0.length c0_0], .int .i64 0] rfl (by (try simp only [sD_, sE_, sF_]); rfl) ?_; (with_reducible refine (spec_l4Text.calls k _ _ l0_0 0 t603 _ ?side1 ?side2 A4.out).mono ?_); (case side1 => exact k4_ HR0_0.out (by repeat (first | (with_reducible first | exact HB.out | apply bA_ | apply bN_ | apply bD_ | refine bS_ ?_ GE597.out | refine bS_ ?_ GE602.out) | exact HB.out))); (case side2 => exact HC0_0.out); rintro e w13 ⟨rfl, hb⟩; refine ⟨_, rfl, ?_⟩; replace HO600 := aM_ (kB_ (by exact (kM_ (kF_ (p := ⟨gb602, 0, none⟩) (kT_ HO600.out BK602.out (by decide)) (fun _ hk => hk.2) (.slice Ao9 t598.length co9)) (fun _ h_ => h_.1))) hb); replace BK597 := aM_ (bB_ (g := gb597) (o := .cells #[.slice A0_0 l0_0.length c0_0] 30 (0, 0)) (by refine bR_ ?_ NB597_602.out _; exact BK597.out) hb); replace BK602 := aM_ (bB_ (g := gb602) (o := .cells #[.slice Ao9 t598.length co9] 36 (0, 0)) (by refine bP_ (cs := #[.slice none 0 0]) ?_ 0 _ rfl; exact BK602.out) hb); replace HB := aM_ (bT_ (by repeat (first | (with_reducible first | exact HB.out | apply bA_ | apply bN_ | apply bD_ | refine bS_ ?_ GE597.out | refine bS_ ?_ GE602.out) | exact HB.out)) hb); (try clear hb)))
  go_ret2
  exact ⟨by rfl, by exact HB.out⟩
 ·
  replace c3 := Bool.eq_false_iff.mpr c3
  subst c3
  have H1 : (some ((⟨#[]⟩ : ByteArray), false)) = some (r1, r2) := by rw [if_neg (show ¬ (false = true) by decide)] at H; exact H
  clear H
  have H := H1
  clear H1
  simp only [Option.some.injEq, Prod.mk.injEq] at H
  obtain ⟨rfl, rfl⟩ := H
  go_enter Tryz.func19, Tryz.ntmps19
  go_wp2_with (first | ((with_reducible refine gD_ (N := 1) rfl ?_); refine bE_ ?hg (N := 1) ?hd (cs := #[.slice A0_0 l0_0.length c0_0]) (t := 30) ?hr ?_; (case hd => rfl); (case hg => rfl); (case hr => (go_simp; done)); intro gb597 hg w14 hbox hb; have BK597 := aM_ (hbox); have GW597 := aM_ ((by rw [hg]; exact (bZ_ HB.out) : w.heap.size ≤ gb597)); have GE597 := GW597; replace HB := aM_ (bT_ HB.out hb); clear hb hbox hg; have hcz15_0 : w14.cell? ⟨gb597, 0, none⟩ = some (.slice A0_0 l0_0.length c0_0) := (bC_ BK597.out 0).trans rfl; have hfz15_0 := bF_ BK597.out 0) | ((with_reducible refine gC_ (f := 27) rfl ?_); refine goesL_ (some 8) rfl rfl Tryz.func27 (by kernel_rfl) rfl #[.agg #[.slice A0_0 l0_0.length c0_0]] rfl (by (try simp only [sD_, sE_, sF_]); rfl) ?_; (with_reducible refine (spec_l4Open.calls k _ _ l0_0 t598 false _ ?side1 ?side2 A2.out).mono ?_); (case side1 => repeat (first | exact (k4_ HR0_0.out HB.out) | (with_reducible refine Kd.C_alloc ?_ _) | (with_reducible refine Kd.C_drewN ?_ _) | (with_reducible refine Kd.C_drew ?_))); (case side2 => exact HC0_0.out); rintro e w16 ⟨v599, rfl, ho0, hb⟩; refine ⟨_, rfl, ?_⟩; have HO600 := aM_ (k5_ ho0 (bZ_ HB.out)); replace BK597 := aM_ (bB_ BK597.out hb); replace HB := aM_ (bT_ HB.out hb); (try clear hb); (try clear ho0)) | ((with_reducible refine gD_ (N := 4) rfl ?_); refine bE_ ?hg (N := 4) ?hd (cs := #[.slice none 0 0]) (t := 36) ?hr ?_; (case hd => rfl); (case hg => rfl); (case hr => (go_simp; done)); intro gb602 hg w17 hbox hb; replace HO600 := aM_ (kB_ HO600.out hb); have BK602 := aM_ (hbox); have GW602 := aM_ ((by rw [hg]; exact (bZ_ HB.out) : w.heap.size ≤ gb602)); have GE602 := GW602; replace HB := aM_ (bT_ HB.out hb); have NB597_602 := aM_ ((by rw [hg]; exact Nat.ne_of_lt (bL_ BK597.out) : gb597 ≠ gb602)); have NB602_597 := aM_ NB597_602.out.symm; replace BK597 := aM_ (bB_ BK597.out hb); clear hb hbox hg; obtain ⟨Ao18, co18, eo18⟩ := kS_ HO600.out; subst eo18; have hnb19 := NB602_597.out; have hnc19 := NB597_602.out; have hcz20_0 : w17.cell? ⟨gb602, 0, none⟩ = some (.slice none 0 0) := (bC_ BK602.out 0).trans rfl; have hfz20_0 := bF_ BK602.out 0))
  go_ret2
  exact ⟨by rfl, by repeat (first | (with_reducible first | exact HB.out | apply bA_ | apply bN_ | apply bD_ | refine bS_ ?_ GE597.out | refine bS_ ?_ GE602.out) | exact HB.out)⟩
def laws_FnExactPressedText.j0 : Nat → Bool → List (S71) → List (S60) → Option (Bool)
 | 0, _, _, _ => none
 | k + 1, x34, x627000, x637000 => if x34 = true then (some false) else ((laws_toPressed.f k x627000).bind fun t639 => ((laws_eqPressed.f k x637000 t639).bind fun t642 => (if t642 = true then (some true) else (some false))))
def laws_FnExactPressedText.f (k : Nat) (l0_0 : List (S71)) : Option (Bool) := (laws_szPressed.f k l0_0 1048576).bind fun t627 => (if t627 < 0 then (some true) else ((laws_toPressed.f k l0_0).bind fun t628 => ((spec_PressedText.f k t628).bind fun bt631 => ((laws_toPressed.f k l0_0).bind fun t633 => ((impl_PressedText.f k t633).bind fun bt637 => (if bt637.1.toList = bt631.1.toList then (laws_FnExactPressedText.j0 k (bt637.2 != bt631.2) l0_0 t633) else (laws_FnExactPressedText.j0 k true l0_0 t633)))))))
theorem laws_FnExactPressedText.mono_l : ∀ k, (∀ y0 y1 y2, LeO (laws_FnExactPressedText.j0 k y0 y1 y2) (laws_FnExactPressedText.j0 (k + 1) y0 y1 y2))
 | 0 => fun _ _ _ r h => by simp [laws_FnExactPressedText.j0] at h
 | k + 1 => by
  have ih0 := laws_FnExactPressedText.mono_l k
  ·
   intro y0 y1 y2
   unfold laws_FnExactPressedText.j0
   repeat' first
   | (with_reducible exact ih0 _ _ _)
   | (with_reducible exact impl_PressedText.mono _ _)
   | (with_reducible exact laws_eqPressed.mono _ _ _)
   | (with_reducible exact laws_szPressed.mono _ _ _)
   | (with_reducible exact laws_toPressed.mono _ _)
   | (with_reducible exact spec_PressedText.mono _ _)
   | (with_reducible exact l3_ _)
   | (with_reducible exact l0_ _)
   | (with_reducible refine l2_ ?_ ?_)
   | (with_reducible refine l1_ ?_ (fun _ => ?_))
   | exact ih0 _ _ _
   | exact impl_PressedText.mono _ _
   | exact laws_eqPressed.mono _ _ _
   | exact laws_szPressed.mono _ _ _
   | exact laws_toPressed.mono _ _
   | exact spec_PressedText.mono _ _
   | exact l0_ _
   | refine l2_ ?_ ?_
   | refine l1_ ?_ (fun _ => ?_)
theorem laws_FnExactPressedText.mono : ∀ a0 k, LeO (laws_FnExactPressedText.f k a0) (laws_FnExactPressedText.f (k + 1) a0) := by
 intro a0 k
 have ih0 := laws_FnExactPressedText.mono_l k
 unfold laws_FnExactPressedText.f
 repeat' first
   | (with_reducible exact ih0 _ _ _)
   | (with_reducible exact impl_PressedText.mono _ _)
   | (with_reducible exact laws_eqPressed.mono _ _ _)
   | (with_reducible exact laws_szPressed.mono _ _ _)
   | (with_reducible exact laws_toPressed.mono _ _)
   | (with_reducible exact spec_PressedText.mono _ _)
   | (with_reducible exact l3_ _)
   | (with_reducible exact l0_ _)
   | (with_reducible refine l2_ ?_ ?_)
   | (with_reducible refine l1_ ?_ (fun _ => ?_))
   | exact ih0 _ _ _
   | exact impl_PressedText.mono _ _
   | exact laws_eqPressed.mono _ _ _
   | exact laws_szPressed.mono _ _ _
   | exact laws_toPressed.mono _ _
   | exact spec_PressedText.mono _ _
   | exact l0_ _
   | refine l2_ ?_ ?_
   | refine l1_ ?_ (fun _ => ?_)
theorem laws_FnExactPressedText.calls (k : Nat) (A0_0 : Option Addr) (c0_0 : Nat) (l0_0 : List (S71)) (r : Bool) (w : World) (hr0_0 : Kd.C k71 w A0_0 l0_0.length l0_0) (hc0_0 : l0_0.length ≤ c0_0) (h : laws_FnExactPressedText.f k l0_0 = some r) :
  Calls Tryz.prog 5 #[.agg #[.slice A0_0 l0_0.length c0_0]] w fun e w' => e = .returned (.bool r) ∧ Below w.heap.size w w' := by
 have hu24 := Tryz.underlying24
 have hu30 := Tryz.underlying30
 have HR0_0 := aM_ hr0_0
 have HC0_0 := aM_ hc0_0
 clear hr0_0 hc0_0
 have HB := aM_ (Below.refl w.heap.size w)
 have H : ((laws_szPressed.f k l0_0 1048576).bind fun t627 => (if t627 < 0 then (some true) else ((laws_toPressed.f k l0_0).bind fun t628 => ((spec_PressedText.f k t628).bind fun bt631 => ((laws_toPressed.f k l0_0).bind fun t633 => ((impl_PressedText.f k t633).bind fun bt637 => (if bt637.1.toList = bt631.1.toList then (laws_FnExactPressedText.j0 k (bt637.2 != bt631.2) l0_0 t633) else (laws_FnExactPressedText.j0 k true l0_0 t633)))))))) = some r := h
 clear h
 replace H := oB_.mp H
 obtain ⟨t627, A20, H⟩ := H
 try dsimp only at H
 have A2 := aM_ A20
 clear A20
 by_cases c3 : t627 < 0
 ·
  rw [if_pos c3] at H
  have c3b0 := decide_eq_true c3
  clear c3
  obtain rfl := Option.some.inj H
  go_enter Tryz.func5, Tryz.ntmps5
  go_wp2_with (first | ((with_reducible refine gD_ (N := 1) rfl ?_); refine bE_ ?hg (N := 1) ?hd (cs := #[.slice A0_0 l0_0.length c0_0]) (t := 24) ?hr ?_; (case hd => rfl); (case hg => rfl); (case hr => (go_simp; done)); intro gb626 hg w4 hbox hb; have BK626 := aM_ (hbox); have GW626 := aM_ ((by rw [hg]; exact (bZ_ HB.out) : w.heap.size ≤ gb626)); have GE626 := GW626; replace HB := aM_ (bT_ HB.out hb); clear hb hbox hg; have hcz5_0 : w4.cell? ⟨gb626, 0, none⟩ = some (.slice A0_0 l0_0.length c0_0) := (bC_ BK626.out 0).trans rfl; have hfz5_0 := bF_ BK626.out 0) | ((with_reducible refine gC_ (f := 8) rfl ?_); refine goesL_ (some 11) rfl rfl Tryz.func8 (by kernel_rfl) rfl #[.agg #[.slice A0_0 l0_0.length c0_0], .int .i64 1048576] rfl (by (try simp only [sD_, sE_, sF_]); rfl) ?_; (with_reducible refine (laws_szPressed.calls k _ _ l0_0 1048576 t627 _ ?side1 ?side2 A2.out).mono ?_); (case side1 => repeat (first | exact (k4_ HR0_0.out HB.out) | (with_reducible refine Kd.C_alloc ?_ _) | (with_reducible refine Kd.C_drewN ?_ _) | (with_reducible refine Kd.C_drew ?_))); (case side2 => exact HC0_0.out); rintro e w6 ⟨rfl, hb⟩; refine ⟨_, rfl, ?_⟩; replace BK626 := aM_ (bB_ BK626.out hb); replace HB := aM_ (bT_ HB.out hb); (try clear hb)))
  go_ret
  exact ⟨by rfl, by exact HB.out⟩
 ·
  rw [if_neg c3] at H
  have c3b0 := decide_eq_false c3
  clear c3
  replace H := oB_.mp H
  obtain ⟨t628, A70, H⟩ := H
  try dsimp only at H
  have A7 := aM_ A70
  clear A70
  replace H := oB_.mp H
  obtain ⟨⟨t631, t632⟩, A80, H⟩ := H
  try dsimp only at H
  have A8 := aM_ A80
  clear A80
  replace H := oB_.mp H
  obtain ⟨t633, A90, H⟩ := H
  try dsimp only at H
  have A9 := aM_ A90
  clear A90
  replace H := oB_.mp H
  obtain ⟨⟨t637, t638⟩, A100, H⟩ := H
  try dsimp only at H
  have A10 := aM_ A100
  clear A100
  have HC11 := aM_ H
  clear H
  go_enter Tryz.func5, Tryz.ntmps5
  go_upto_region 8 with (first | ((with_reducible refine gD_ (N := 1) rfl ?_); refine bE_ ?hg (N := 1) ?hd (cs := #[.slice A0_0 l0_0.length c0_0]) (t := 24) ?hr ?_; (case hd => rfl); (case hg => rfl); (case hr => (go_simp; done)); intro gb626 hg w12 hbox hb; have BK626 := aM_ (hbox); have GW626 := aM_ ((by rw [hg]; exact (bZ_ HB.out) : w.heap.size ≤ gb626)); have GE626 := GW626; replace HB := aM_ (bT_ HB.out hb); clear hb hbox hg; have hcz13_0 : w12.cell? ⟨gb626, 0, none⟩ = some (.slice A0_0 l0_0.length c0_0) := (bC_ BK626.out 0).trans rfl; have hfz13_0 := bF_ BK626.out 0) | ((with_reducible refine gC_ (f := 8) rfl ?_); refine goesL_ (some 11) rfl rfl Tryz.func8 (by kernel_rfl) rfl #[.agg #[.slice A0_0 l0_0.length c0_0], .int .i64 1048576] rfl (by (try simp only [sD_, sE_, sF_]); rfl) ?_; (with_reducible refine (laws_szPressed.calls k _ _ l0_0 1048576 t627 _ ?side1 ?side2 A2.out).mono ?_); (case side1 => repeat (first | exact (k4_ HR0_0.out HB.out) | (with_reducible refine Kd.C_alloc ?_ _) | (with_reducible refine Kd.C_drewN ?_ _) | (with_reducible refine Kd.C_drew ?_))); (case side2 => exact HC0_0.out); rintro e w14 ⟨rfl, hb⟩; refine ⟨_, rfl, ?_⟩; replace BK626 := aM_ (bB_ BK626.out hb); replace HB := aM_ (bT_ HB.out hb); (try clear hb); have hcz15_0 : w14.cell? ⟨gb626, 0, none⟩ = some (.slice A0_0 l0_0.length c0_0) := (bC_ BK626.out 0).trans rfl; have hfz15_0 := bF_ BK626.out 0) | ((with_reducible refine gC_ (f := 10) rfl ?_); refine goesL_ (some 16) rfl rfl Tryz.func10 (by kernel_rfl) rfl #[.agg #[.slice A0_0 l0_0.length c0_0]] rfl (by (try simp only [sD_, sE_, sF_]); rfl) ?_; (with_reducible refine (laws_toPressed.calls k _ _ l0_0 t628 _ ?side1 ?side2 A7.out).mono ?_); (case side1 => repeat (first | exact (k4_ HR0_0.out HB.out) | (with_reducible refine Kd.C_alloc ?_ _) | (with_reducible refine Kd.C_drewN ?_ _) | (with_reducible refine Kd.C_drew ?_))); (case side2 => exact HC0_0.out); rintro e w16 ⟨v629, rfl, ho0, hb⟩; refine ⟨_, rfl, ?_⟩; have HO630 := aM_ (k5_ ho0 (bZ_ HB.out)); replace BK626 := aM_ (bB_ BK626.out hb); replace HB := aM_ (bT_ HB.out hb); (try clear hb); (try clear ho0); obtain ⟨Ao17, co17, eo17⟩ := kS_ HO630.out; subst eo17) | ((with_reducible refine gC_ (f := 19) rfl ?_); refine goesL_ (some 17) rfl rfl Tryz.func19 (by kernel_rfl) rfl #[.agg #[.slice Ao17 t628.length co17]] rfl (by (try simp only [sD_, sE_, sF_]); rfl) ?_; (with_reducible refine (spec_PressedText.calls k _ _ t628 t631 t632 _ ?side1 ?side2 A8.out).mono ?_); (case side1 => repeat (first | exact (kR_ HO630.out).2.2 | (with_reducible refine Kd.C_alloc ?_ _) | (with_reducible refine Kd.C_drewN ?_ _) | (with_reducible refine Kd.C_drew ?_))); (case side2 => exact (kR_ HO630.out).2.1); rintro e w18 ⟨rfl, hb⟩; refine ⟨_, rfl, ?_⟩; replace HO630 := aM_ (kB_ HO630.out hb); replace BK626 := aM_ (bB_ BK626.out hb); replace HB := aM_ (bT_ HB.out hb); (try clear hb); have hcz19_0 : w18.cell? ⟨gb626, 0, none⟩ = some (.slice A0_0 l0_0.length c0_0) := (bC_ BK626.out 0).trans rfl; have hfz19_0 := bF_ BK626.out 0) | ((with_reducible refine gC_ (f := 10) rfl ?_); refine goesL_ (some 21) rfl rfl Tryz.func10 (by kernel_rfl) rfl #[.agg #[.slice A0_0 l0_0.length c0_0]] rfl (by (try simp only [sD_, sE_, sF_]); rfl) ?_; (with_reducible refine (laws_toPressed.calls k _ _ l0_0 t633 _ ?side1 ?side2 A9.out).mono ?_); (case side1 => repeat (first | exact (k4_ HR0_0.out HB.out) | (with_reducible refine Kd.C_alloc ?_ _) | (with_reducible refine Kd.C_drewN ?_ _) | (with_reducible refine Kd.C_drew ?_))); (case side2 => exact HC0_0.out); rintro e w20 ⟨v634, rfl, ho0, hb⟩; refine ⟨_, rfl, ?_⟩; have HO635 := aM_ (k5_ (Kd.R_new' ho0 (Kd.R_lt HO630.out)) (bZ_ HB.out)); replace HO630 := aM_ (Kd.R_elder' HO630.out (Kd.R_base ho0) hb); replace BK626 := aM_ (bB_ BK626.out hb); replace HB := aM_ (bT_ HB.out hb); (try clear hb); (try clear ho0)) | ((with_reducible refine gD_ (N := 6) rfl ?_); refine bE_ ?hg (N := 6) ?hd (cs := #[.slice none 0 0]) (t := 30) ?hr ?_; (case hd => rfl); (case hg => rfl); (case hr => (go_simp; done)); intro gb636 hg w21 hbox hb; replace HO630 := aM_ (kB_ HO630.out hb); replace HO635 := aM_ (kB_ HO635.out hb); have BK636 := aM_ (hbox); have GW636 := aM_ ((by rw [hg]; exact (bZ_ HB.out) : w.heap.size ≤ gb636)); have GE636 := GW636; replace HB := aM_ (bT_ HB.out hb); have NB626_636 := aM_ ((by rw [hg]; exact Nat.ne_of_lt (bL_ BK626.out) : gb626 ≠ gb636)); have NB636_626 := aM_ NB626_636.out.symm; replace BK626 := aM_ (bB_ BK626.out hb); clear hb hbox hg; obtain ⟨Ao22, co22, eo22⟩ := kS_ HO635.out; subst eo22; have hnb23 := NB636_626.out; have hnc23 := NB626_636.out; have hcz24_0 : w21.cell? ⟨gb636, 0, none⟩ = some (.slice none 0 0) := (bC_ BK636.out 0).trans rfl; have hfz24_0 := bF_ BK636.out 0) | ((with_reducible refine gC_ (f := 20) rfl ?_); refine goesL_ (some 24) rfl rfl Tryz.func20 (by kernel_rfl) rfl #[.agg #[.slice Ao22 t633.length co22]] rfl (by (try simp only [sD_, sE_, sF_]); rfl) ?_; (with_reducible refine (impl_PressedText.calls k _ _ t633 t637 t638 _ ?side1 ?side2 A10.out).mono ?_); (case side1 => refine (kR_ (e := 60) (base := w.heap.size) (ok := fun k_ => (True ∧ some k_ ≠ (.slice Ao17 t628.length co17 : Value).ownBlock)) (n := t633.length) (c := co22) ?_).2.2; exact (by exact (kM_ (kF_ (p := ⟨gb636, 0, none⟩) (kT_ HO635.out BK636.out (by decide)) (fun _ hk => hk.2) (.slice Ao22 t633.length co22)) (fun _ h_ => h_.1)))); (case side2 => exact (kR_ HO635.out).2.1); rintro e w25 ⟨rfl, hb⟩; refine ⟨_, rfl, ?_⟩; replace HO630 := aM_ (kB_ (by exact (kM_ (kF_ (p := ⟨gb636, 0, none⟩) (kT_ HO630.out BK636.out (by decide)) (fun _ hk => hk.2) (.slice Ao22 t633.length co22)) (fun _ h_ => h_.1))) hb); replace HO635 := aM_ (kB_ (by exact (kM_ (kF_ (p := ⟨gb636, 0, none⟩) (kT_ HO635.out BK636.out (by decide)) (fun _ hk => hk.2) (.slice Ao22 t633.length co22)) (fun _ h_ => h_.1))) hb); replace BK626 := aM_ (bB_ (g := gb626) (o := .cells #[.slice A0_0 l0_0.length c0_0] 24 (0, 0)) (by refine bR_ ?_ NB626_636.out _; exact BK626.out) hb); replace BK636 := aM_ (bB_ (g := gb636) (o := .cells #[.slice Ao22 t633.length co22] 30 (0, 0)) (by refine bP_ (cs := #[.slice none 0 0]) ?_ 0 _ rfl; exact BK636.out) hb); replace HB := aM_ (bT_ (by repeat (first | (with_reducible first | exact HB.out | apply bA_ | apply bN_ | apply bD_ | refine bS_ ?_ GE626.out | refine bS_ ?_ GE636.out) | exact HB.out)) hb); (try clear hb)))
  (try simp only [Act.put, sA_, sB_, sC_])
  go_cut [34] (fun v34 wc => ∃ (kq : Nat) (x34_10 : Bool), v34 = .bool x34_10 ∧ Aside0 (laws_FnExactPressedText.j0 kq x34_10 l0_0 t633 = some r) ∧ Aside0 (kq ≤ k) ∧ Aside0 (Kd.R k60 60 wc w.heap.size (fun _ => True) (.slice Ao22 t633.length co22) t633) ∧ Aside0 (wc.heap[gb626]? = some (.cells #[(.slice A0_0 l0_0.length c0_0)] 24 (0, 0))) ∧ Aside0 (wc.heap[gb636]? = some (.cells #[(.slice Ao22 t633.length co22)] 30 (0, 0))) ∧ Aside0 (Below w.heap.size w wc))
  case first =>
   have H := HC11.out
   clear HC11
   by_cases c26 : t637.toList = t631.toList
   ·
    rw [if_pos c26] at H
    have c26b0 : (t637.toList == t631.toList) = true := beq_iff_eq.mpr c26
    have c26b1 : (t637.toList != t631.toList) = false := bne_eq_false_iff_eq.mpr c26
    clear c26
    (skip)
    have H' := aM_ H
    clear H
    go_wp2
    go_meet
    case rel => exact ⟨_, ((t638 != t632)), (by rfl), H', ⟨by omega⟩, ⟨by exact kM_ HO635.out (fun _ hk => trivial)⟩, ⟨BK626.out⟩, ⟨BK636.out⟩, ⟨HB.out⟩⟩
   ·
    rw [if_neg c26] at H
    have c26b0 : (t637.toList == t631.toList) = false := beq_eq_false_iff_ne.mpr c26
    have c26b1 : (t637.toList != t631.toList) = true := bne_iff_ne.mpr c26
    (skip)
    have H' := aM_ H
    clear H
    go_wp2
    go_meet
    case rel => exact ⟨_, (true), (by rfl), H', ⟨by omega⟩, ⟨by exact kM_ HO635.out (fun _ hk => trivial)⟩, ⟨BK626.out⟩, ⟨BK636.out⟩, ⟨HB.out⟩⟩
  case rest =>
   clear HC11
   try clear p2
   try clear c3b0
   try clear c26b0
   try clear c26b1
   try clear hcz13_0
   try clear hcz15_0
   try clear hcz19_0
   try clear hcz24_0
   try clear hcz5_0
   try clear hfz13_0
   try clear hfz15_0
   try clear hfz19_0
   try clear hfz24_0
   try clear hfz5_0
   obtain ⟨kq, x34_10, rfl, HA, HJ10, HO_637000, BK626, BK636, HB⟩ := hcut
   cases kq with
   | zero => exact absurd HA.out (by simp [laws_FnExactPressedText.j0])
   | succ kj10 =>
    have H := HA.out
    clear HA
    simp only [laws_FnExactPressedText.j0] at H
    by_cases c27 : x34_10 = true
    ·
     subst c27
     rw [if_pos rfl] at H
     obtain rfl := Option.some.inj H
     go_wp2
     go_ret
     exact ⟨by rfl, by exact HB.out⟩
    ·
     replace c27 := Bool.eq_false_iff.mpr c27
     subst c27
     have H1 : ((laws_toPressed.f kj10 l0_0).bind fun t639 => ((laws_eqPressed.f kj10 t633 t639).bind fun t642 => (if t642 = true then (some true) else (some false)))) = some r := by rw [if_neg (show ¬ (false = true) by decide)] at H; exact H
     clear H
     have H := H1
     clear H1
     replace H := oB_.mp H
     obtain ⟨t639, A280, H⟩ := H
     try dsimp only at H
     have A28 := aM_ A280
     clear A280
     replace H := oB_.mp H
     obtain ⟨t642, A290, H⟩ := H
     try dsimp only at H
     have A29 := aM_ A290
     clear A290
     by_cases c30 : t642 = true
     ·
      subst c30
      rw [if_pos rfl] at H
      obtain rfl := Option.some.inj H
      try go_wp2
      have n0_ := aM_ (k3_ HO_637000.out)
      have n1_ := aM_ (b1_ BK626.out)
      have n2_ := aM_ (b1_ BK636.out)
      have n3_ := aM_ (bD_ HB.out)
      clear HO_637000
      clear BK626
      clear BK636
      clear HB
      have HO_637000 := n0_
      have BK626 := n1_
      have BK636 := n2_
      have HB := n3_
      clear n0_ n1_ n2_ n3_
      refine start_ (n := 5) (S := fun w' => w'.cell? ⟨gb636, 0, none⟩ = some (.slice Ao22 t633.length co22) ∧ w'.cell? ⟨gb626, 0, none⟩ = some (.slice A0_0 l0_0.length c0_0)) (ds := []) #[fy, fy, fy, fy, fy] (by kernel_rfl) rfl rfl ⟨(bC_ BK636.out 0).trans rfl, (bC_ BK626.out 0).trans rfl⟩ (fun hHeld => ?_)
      generalize wc.drew = w31 at HO_637000 BK626 BK636 HB hHeld ⊢
      refine take_ (i := 0) (N := some 35) (v := ?_) (a' := ?_) #[ty, fy, fy, fy, fy] rfl rfl (by kernel_rfl) (fun _ _ _ h => h) (Or.inl ⟨by rfl, ?_⟩) hHeld ?_ ?_; rotate_left; (rintro w' ⟨s0, s1⟩; go_simp; with_reducible rfl); rotate_left; (simp only [Act.put, sA_, sB_, sC_, i6_, i3_]; rfl)
      refine take_ (i := 1) (N := some 36) (v := ?_) (a' := ?_) #[ty, ty, fy, fy, fy] rfl rfl (by kernel_rfl) (fun _ _ _ h => h) (Or.inl ⟨by rfl, ?_⟩) hHeld ?_ ?_; rotate_left; (rintro w' ⟨s0, s1⟩; go_simp; with_reducible rfl); rotate_left; (simp only [Act.put, sA_, sB_, sC_, i6_, i3_]; rfl)
      refine one_ (i := 2) (N := some 37) #[ty, ty, ty, fy, fy] rfl rfl (by kernel_rfl) (by decide) (fun K hK => ?_)
      refine goes_ Tryz.func10 (by kernel_rfl) rfl #[.agg #[.slice A0_0 l0_0.length c0_0]] (by rfl) rfl rfl (by (try simp only [sD_, sE_, sF_]); rfl) ?_
      with_reducible refine (laws_toPressed.calls kj10 _ _ l0_0 t639 _ ?side1 ?side2 A28.out).mono ?_
      (case side1 => repeat (first | exact (k4_ HR0_0.out HB.out) | (with_reducible refine Kd.C_alloc ?_ _) | (with_reducible refine Kd.C_drewN ?_ _) | (with_reducible refine Kd.C_drew ?_)))
      (case side2 => exact HC0_0.out)
      rintro e w32 ⟨v640, rfl, ho0, hb⟩
      refine ⟨_, rfl, ?_⟩
      have n0_ := aM_ (Kd.R_elder' HO_637000.out (Kd.R_base ho0) hb)
      have n1_ := aM_ (k5_ (Kd.R_new' ho0 (Kd.R_lt HO_637000.out)) (bZ_ HB.out))
      have n2_ := aM_ (bB_ BK626.out hb)
      have n3_ := aM_ (bB_ BK636.out hb)
      have n4_ := aM_ (bT_ HB.out hb)
      clear HO_637000
      clear BK626
      clear BK636
      clear HB
      have HO_637000 := n0_
      have HO641 := n1_
      have BK626 := n2_
      have BK636 := n3_
      have HB := n4_
      clear n0_ n1_ n2_ n3_ n4_
      (try clear hb)
      (try clear ho0)
      obtain ⟨Ao33, co33, eo33⟩ := kS_ HO641.out
      (subst eo33)
      refine hK.out _ _ ⟨(bC_ BK636.out 0).trans rfl, (bC_ BK626.out 0).trans rfl⟩ (fun hHeld => ?_)
      clear hK K
      refine norm_ (a' := ?_) ?_ ?_; rotate_left; (show Act.put _ (some 37) _ = _; simp only [Act.put, sA_, sB_, sC_, i6_, i3_]; rfl)
      refine one_ (i := 3) (N := some 38) #[ty, ty, ty, ty, fy] rfl rfl (by kernel_rfl) (by decide) (fun K hK => ?_)
      refine goes_ Tryz.func12 (by kernel_rfl) rfl #[.agg #[.slice Ao22 t633.length co22], .agg #[.slice Ao33 t639.length co33]] (by rfl) rfl rfl (by (try simp only [sD_, sE_, sF_]); rfl) ?_
      with_reducible refine (laws_eqPressed.calls kj10 _ _ t633 _ _ t639 true _ ?side1 ?side2 ?side3 ?side4 A29.out).mono ?_
      (case side1 => repeat (first | exact (kR_ HO_637000.out).2.2 | (with_reducible refine Kd.C_alloc ?_ _) | (with_reducible refine Kd.C_drewN ?_ _) | (with_reducible refine Kd.C_drew ?_)))
      (case side2 => exact (kR_ HO_637000.out).2.1)
      (case side3 => repeat (first | exact (kR_ HO641.out).2.2 | (with_reducible refine Kd.C_alloc ?_ _) | (with_reducible refine Kd.C_drewN ?_ _) | (with_reducible refine Kd.C_drew ?_)))
      (case side4 => exact (kR_ HO641.out).2.1)
      rintro e w34 ⟨rfl, hb⟩
      refine ⟨_, rfl, ?_⟩
      have n0_ := aM_ (kB_ HO_637000.out hb)
      have n1_ := aM_ (kB_ HO641.out hb)
      have n2_ := aM_ (bB_ BK626.out hb)
      have n3_ := aM_ (bB_ BK636.out hb)
      have n4_ := aM_ (bT_ HB.out hb)
      clear HO_637000
      clear HO641
      clear BK626
      clear BK636
      clear HB
      have HO_637000 := n0_
      have HO641 := n1_
      have BK626 := n2_
      have BK636 := n3_
      have HB := n4_
      clear n0_ n1_ n2_ n3_ n4_
      (try clear hb)
      refine hK.out _ _ ⟨(bC_ BK636.out 0).trans rfl, (bC_ BK626.out 0).trans rfl⟩ (fun hHeld => ?_)
      clear hK K
      refine norm_ (a' := ?_) ?_ ?_; rotate_left; (show Act.put _ (some 38) _ = _; simp only [Act.put, sA_, sB_, sC_, i6_, i3_]; rfl)
      refine pure_ (i := 4) (N := some 39) (v := ?_) (a' := ?_) #[ty, ty, ty, ty, ty] rfl rfl (by kernel_rfl) (fun _ _ _ h => h) (Or.inl ⟨by rfl, ?_⟩) ?_ ?_; rotate_left; (intro w'; go_simp; with_reducible rfl); rotate_left; (simp only [Act.put, sA_, sB_, sC_, i6_, i3_]; rfl)
      refine done_ (by kernel_rfl) ?_
      try go_wp2
      go_ret
      exact ⟨by rfl, by exact HB.out⟩
     ·
      replace c30 := Bool.eq_false_iff.mpr c30
      subst c30
      have H1 : (some false) = some r := by rw [if_neg (show ¬ (false = true) by decide)] at H; exact H
      clear H
      have H := H1
      clear H1
      obtain rfl := Option.some.inj H
      try go_wp2
      have n0_ := aM_ (k3_ HO_637000.out)
      have n1_ := aM_ (b1_ BK626.out)
      have n2_ := aM_ (b1_ BK636.out)
      have n3_ := aM_ (bD_ HB.out)
      clear HO_637000
      clear BK626
      clear BK636
      clear HB
      have HO_637000 := n0_
      have BK626 := n1_
      have BK636 := n2_
      have HB := n3_
      clear n0_ n1_ n2_ n3_
      refine start_ (n := 5) (S := fun w' => w'.cell? ⟨gb636, 0, none⟩ = some (.slice Ao22 t633.length co22) ∧ w'.cell? ⟨gb626, 0, none⟩ = some (.slice A0_0 l0_0.length c0_0)) (ds := []) #[fy, fy, fy, fy, fy] (by kernel_rfl) rfl rfl ⟨(bC_ BK636.out 0).trans rfl, (bC_ BK626.out 0).trans rfl⟩ (fun hHeld => ?_)
      generalize wc.drew = w35 at HO_637000 BK626 BK636 HB hHeld ⊢
      refine take_ (i := 0) (N := some 35) (v := ?_) (a' := ?_) #[ty, fy, fy, fy, fy] rfl rfl (by kernel_rfl) (fun _ _ _ h => h) (Or.inl ⟨by rfl, ?_⟩) hHeld ?_ ?_; rotate_left; (rintro w' ⟨s0, s1⟩; go_simp; with_reducible rfl); rotate_left; (simp only [Act.put, sA_, sB_, sC_, i6_, i3_]; rfl)
      refine take_ (i := 1) (N := some 36) (v := ?_) (a' := ?_) #[ty, ty, fy, fy, fy] rfl rfl (by kernel_rfl) (fun _ _ _ h => h) (Or.inl ⟨by rfl, ?_⟩) hHeld ?_ ?_; rotate_left; (rintro w' ⟨s0, s1⟩; go_simp; with_reducible rfl); rotate_left; (simp only [Act.put, sA_, sB_, sC_, i6_, i3_]; rfl)
      refine one_ (i := 2) (N := some 37) #[ty, ty, ty, fy, fy] rfl rfl (by kernel_rfl) (by decide) (fun K hK => ?_)
      refine goes_ Tryz.func10 (by kernel_rfl) rfl #[.agg #[.slice A0_0 l0_0.length c0_0]] (by rfl) rfl rfl (by (try simp only [sD_, sE_, sF_]); rfl) ?_
      with_reducible refine (laws_toPressed.calls kj10 _ _ l0_0 t639 _ ?side1 ?side2 A28.out).mono ?_
      (case side1 => repeat (first | exact (k4_ HR0_0.out HB.out) | (with_reducible refine Kd.C_alloc ?_ _) | (with_reducible refine Kd.C_drewN ?_ _) | (with_reducible refine Kd.C_drew ?_)))
      (case side2 => exact HC0_0.out)
      rintro e w36 ⟨v640, rfl, ho0, hb⟩
      refine ⟨_, rfl, ?_⟩
      have n0_ := aM_ (Kd.R_elder' HO_637000.out (Kd.R_base ho0) hb)
      have n1_ := aM_ (k5_ (Kd.R_new' ho0 (Kd.R_lt HO_637000.out)) (bZ_ HB.out))
      have n2_ := aM_ (bB_ BK626.out hb)
      have n3_ := aM_ (bB_ BK636.out hb)
      have n4_ := aM_ (bT_ HB.out hb)
      clear HO_637000
      clear BK626
      clear BK636
      clear HB
      have HO_637000 := n0_
      have HO641 := n1_
      have BK626 := n2_
      have BK636 := n3_
      have HB := n4_
      clear n0_ n1_ n2_ n3_ n4_
      (try clear hb)
      (try clear ho0)
      obtain ⟨Ao37, co37, eo37⟩ := kS_ HO641.out
      (subst eo37)
      refine hK.out _ _ ⟨(bC_ BK636.out 0).trans rfl, (bC_ BK626.out 0).trans rfl⟩ (fun hHeld => ?_)
      clear hK K
      refine norm_ (a' := ?_) ?_ ?_; rotate_left; (show Act.put _ (some 37) _ = _; simp only [Act.put, sA_, sB_, sC_, i6_, i3_]; rfl)
      refine one_ (i := 3) (N := some 38) #[ty, ty, ty, ty, fy] rfl rfl (by kernel_rfl) (by decide) (fun K hK => ?_)
      refine goes_ Tryz.func12 (by kernel_rfl) rfl #[.agg #[.slice Ao22 t633.length co22], .agg #[.slice Ao37 t639.length co37]] (by rfl) rfl rfl (by (try simp only [sD_, sE_, sF_]); rfl) ?_
      with_reducible refine (laws_eqPressed.calls kj10 _ _ t633 _ _ t639 false _ ?side1 ?side2 ?side3 ?side4 A29.out).mono ?_
      (case side1 => repeat (first | exact (kR_ HO_637000.out).2.2 | (with_reducible refine Kd.C_alloc ?_ _) | (with_reducible refine Kd.C_drewN ?_ _) | (with_reducible refine Kd.C_drew ?_)))
      (case side2 => exact (kR_ HO_637000.out).2.1)
      (case side3 => repeat (first | exact (kR_ HO641.out).2.2 | (with_reducible refine Kd.C_alloc ?_ _) | (with_reducible refine Kd.C_drewN ?_ _) | (with_reducible refine Kd.C_drew ?_)))
      (case side4 => exact (kR_ HO641.out).2.1)
      rintro e w38 ⟨rfl, hb⟩
      refine ⟨_, rfl, ?_⟩
      have n0_ := aM_ (kB_ HO_637000.out hb)
      have n1_ := aM_ (kB_ HO641.out hb)
      have n2_ := aM_ (bB_ BK626.out hb)
      have n3_ := aM_ (bB_ BK636.out hb)
      have n4_ := aM_ (bT_ HB.out hb)
      clear HO_637000
      clear HO641
      clear BK626
      clear BK636
      clear HB
      have HO_637000 := n0_
      have HO641 := n1_
      have BK626 := n2_
      have BK636 := n3_
      have HB := n4_
      clear n0_ n1_ n2_ n3_ n4_
      (try clear hb)
      refine hK.out _ _ ⟨(bC_ BK636.out 0).trans rfl, (bC_ BK626.out 0).trans rfl⟩ (fun hHeld => ?_)
      clear hK K
      refine norm_ (a' := ?_) ?_ ?_; rotate_left; (show Act.put _ (some 38) _ = _; simp only [Act.put, sA_, sB_, sC_, i6_, i3_]; rfl)
      refine pure_ (i := 4) (N := some 39) (v := ?_) (a' := ?_) #[ty, ty, ty, ty, ty] rfl rfl (by kernel_rfl) (fun _ _ _ h => h) (Or.inl ⟨by rfl, ?_⟩) ?_ ?_; rotate_left; (intro w'; go_simp; with_reducible rfl); rotate_left; (simp only [Act.put, sA_, sB_, sC_, i6_, i3_]; rfl)
      refine done_ (by kernel_rfl) ?_
      try go_wp2
      go_ret
      exact ⟨by rfl, by exact HB.out⟩
def laws_FnExactPressedText.Pure : Prop := ∀ (l0_0 : List S71), l0_0.length ≤ 9223372036854775807 → (∀ x ∈ l0_0, x.f0.size ≤ 9223372036854775807) → ∃ k, laws_FnExactPressedText.f k l0_0 = some true
theorem laws_FnExactPressedText.walk (P : laws_FnExactPressedText.Pure) (w : World) (A0 : Option Addr) (c0 : Nat) (l0_0 : List S71) (hr0 : Kd.C k71 w A0 l0_0.length l0_0) (hc0 : l0_0.length ≤ c0) (hs0 : ∀ x ∈ l0_0, x.f0.size ≤ 9223372036854775807) :
  Calls Tryz.prog 5 #[.agg #[.slice A0 l0_0.length c0]] w fun e w' => e = .returned (.bool true) ∧ Below w.heap.size w w' := by
 obtain ⟨k, h⟩ := P l0_0 hr0.2.1 hs0
 refine (laws_FnExactPressedText.calls k _ _ l0_0 true w hr0 hc0 h).mono ?_
 rintro e w' ⟨rfl, hd⟩
 exact ⟨rfl, hd⟩
end Go.Proofs.YtfhffcefpnkllaaGreatDoor.P
namespace Go.Proofs.YtfhffcefpnkllaaGreatDoor.M
def sumL (f : Txt → Nat) : List Txt → Nat
 | [] => 0
 | x :: r => f x + sumL f r
theorem sumL_congr {f g : Txt → Nat} : ∀ {l : List Txt}, (∀ x ∈ l, f x = g x) → sumL f l = sumL g l
 | [], _ => rfl
 | x :: r, h => by rw [sumL, sumL, h x (by simp), sumL_congr fun y hy => h y (List.mem_cons_of_mem _ hy)]
theorem sumL_zero {f : Txt → Nat} : ∀ {l : List Txt}, (∀ x ∈ l, f x = 0) → sumL f l = 0
 | [], _ => rfl
 | x :: r, h => by rw [sumL, h x (by simp), sumL_zero fun y hy => h y (List.mem_cons_of_mem _ hy)]
theorem sumL_add (f g : Txt → Nat) : ∀ l : List Txt, sumL (fun x => f x + g x) l = sumL f l + sumL g l
 | [] => rfl
 | x :: r => by rw [sumL, sumL, sumL, sumL_add f g r]; omega
theorem sumL_le (f : Txt → Nat) (b : Nat) : ∀ l : List Txt, (∀ x ∈ l, f x ≤ b) → sumL f l ≤ b * l.length
 | [], _ => by simp [sumL]
 | x :: r, h => by
  have h1 := h x (by simp)
  have h2 := sumL_le f b r fun y hy => h y (List.mem_cons_of_mem _ hy)
  rw [sumL, List.length_cons, Nat.mul_succ]; omega
theorem sumL_one {Q : List Txt} (hQ : Asc Q) (a : Txt) (F : Txt → Nat) : a ∈ Q → sumL (fun p => if p = a then F p else 0) Q = F a := by
 induction Q with
 | nil => intro h; simp at h
 | cons x r ih =>
  intro h
  unfold Asc at hQ
  rw [List.pairwise_cons] at hQ
  by_cases e : x = a
  ·
   subst e
   rw [sumL, if_pos rfl, sumL_zero fun y hy => if_neg fun e => ?_]
   ·
    omega
   ·
    subst e; exact txt_irrefl _ (hQ.1 _ hy)
  ·
   rw [sumL, if_neg e, ih hQ.2 ((List.mem_cons.1 h).resolve_left fun q => e q.symm)]
   omega
end Go.Proofs.YtfhffcefpnkllaaGreatDoor.M
namespace Go.Proofs.YtfhffcefpnkllaaGreatDoor.Pure
open Go.RowKit Go.Proofs.YtfhffcefpnkllaaGreatDoor.P Go.Proofs.YtfhffcefpnkllaaGreatDoor.M Go.Proofs.YtfhffcefpnkllaaGreatDoorW.PrintWords Go.Proofs.YtfhffcefpnkllaaGreatDoorW.PrintLast Go.Proofs.YtfhffcefpnkllaaGreatDoorW.PrintMore
open Go.Proofs.YtfhffcefpnkllaaGreatDoor.L
namespace PressedText
def isKid (P ws : List Txt) (p q : Txt) : Bool := decide (q ≠ [] ∧ upL P ws q = p)
def kidsQ (P ws : List Txt) (p : Txt) : List Txt := (stayQ P ws).filter (isKid P ws p)
def tx (P ws : List Txt) : Nat → Txt → Txt
 | 0, _ => []
 | n + 1, p => if kidsQ P ws p = [] then (brL P ws p).1 ++ (if p ∈ ws then [46] else []) else (brL P ws p).1 ++ (if p ∈ ws then [46] else []) ++ [40] ++ Lib.join ((kidsQ P ws p).map (tx P ws n)) [44] ++ [41]
theorem sumL_mono {f g : Txt → Nat} : ∀ {l : List Txt}, (∀ x ∈ l, f x ≤ g x) → sumL f l ≤ sumL g l
 | [], _ => Nat.le_refl _
 | x :: r, h => Nat.add_le_add (h x List.mem_cons_self) (sumL_mono fun y hy => h y (List.mem_cons_of_mem _ hy))
theorem sumL_swap (f : Txt → Txt → Nat) : ∀ l m : List Txt, sumL (fun x => sumL (fun y => f x y) m) l = sumL (fun y => sumL (fun x => f x y) l) m
 | [], m => by rw [sumL]; exact (sumL_zero fun _ _ => rfl).symm
 | x :: r, m => by
  rw [sumL, sumL_swap f r m, ← sumL_add]
  rfl
theorem sumL_most (r : Txt → Prop) [DecidablePred r] : ∀ {l : List Txt}, Asc l → (∀ x ∈ l, ∀ y ∈ l, r x → r y → x = y) → sumL (fun x => if r x then 1 else 0) l ≤ 1
 | [], _, _ => Nat.zero_le _
 | x :: l, hA, h => by
  obtain ⟨a1, a2⟩ := List.pairwise_cons.1 hA
  rw [sumL]
  by_cases hx : r x
  ·
   rw [if_pos hx, sumL_zero]
   ·
    exact Nat.le_refl _
   ·
    intro y hy
    rw [if_neg]
    intro hr
    have := h x List.mem_cons_self y (List.mem_cons_of_mem _ hy) hx hr
    subst this
    exact txt_irrefl _ (a1 _ hy)
  ·
   rw [if_neg hx, Nat.zero_add]
   exact sumL_most r a2 fun a ha b hb => h a (List.mem_cons_of_mem _ ha) b (List.mem_cons_of_mem _ hb)
def sub (P ws : List Txt) (p : Txt) : Nat := sumL (fun q => if p <+: q then 1 else 0) (stayQ P ws)
theorem kid_facts {P : List Txt} (ws : List Txt) (hC : Clo P) {p k : Txt} (hk : k ∈ kidsQ P ws p) : k ∈ stayQ P ws ∧ k ≠ [] ∧ p <+: k ∧ p.length < k.length ∧ upL P ws k = p := by
 unfold kidsQ at hk
 obtain ⟨h1, h2⟩ := List.mem_filter.1 hk
 obtain ⟨h3, h4⟩ := of_decide_eq_true h2
 obtain ⟨u1, u2, _, _⟩ := upL_spec ws hC (mem_stayQ.1 h1).1 h3
 rw [h4] at u1 u2
 exact ⟨h1, h3, u1, u2, h4⟩
theorem pre_pre {a b q : Txt} (ha : a <+: q) (hb : b <+: q) (hl : a.length ≤ b.length) : a <+: b := List.prefix_of_prefix_length_le ha hb hl
theorem sub_kids {P : List Txt} (ws : List Txt) (hA : Asc P) (hC : Clo P) {p : Txt} (hp : p ∈ stayQ P ws) : sumL (sub P ws) (kidsQ P ws p) + 1 ≤ sub P ws p := by
 have hQ := asc_stayQ ws hA
 have hK : Asc (kidsQ P ws p) := hQ.filter _
 have h1 : sumL (fun q => if q = p then 1 else 0) (stayQ P ws) = 1 := sumL_one hQ p (fun _ => 1) hp
 have h2 : sumL (sub P ws) (kidsQ P ws p) = sumL (fun q => sumL (fun k => if k <+: q then 1 else 0) (kidsQ P ws p)) (stayQ P ws) := sumL_swap (fun k q => if k <+: q then 1 else 0) _ _
 have h3 := sumL_add (fun q => sumL (fun k => if k <+: q then 1 else 0) (kidsQ P ws p)) (fun q => if q = p then 1 else 0) (stayQ P ws)
 rw [h1] at h3
 rw [h2, ← h3]
 refine sumL_mono fun q hq => ?_
 by_cases e : q = p
 ·
  rw [if_pos e, if_pos (e ▸ List.prefix_refl q), sumL_zero]
  ·
   exact Nat.le_refl _
  ·
   intro k hk
   obtain ⟨_, _, _, k4, _⟩ := kid_facts ws hC hk
   rw [if_neg]
   intro h
   have := h.length_le
   rw [e] at this
   omega
 ·
  rw [if_neg e, Nat.add_zero]
  by_cases hpq : p <+: q
  ·
   rw [if_pos hpq]
   refine sumL_most (fun k => k <+: q) hK fun a ha b hb ra rb => ?_
   obtain ⟨a1, a2, a3, a4, a5⟩ := kid_facts ws hC ha
   obtain ⟨b1, b2, b3, b4, b5⟩ := kid_facts ws hC hb
   have key : ∀ x y : Txt, x ∈ stayQ P ws → p.length < x.length → upL P ws y = p → x <+: y → x = y := by
    intro x y hx hxl hy hxy
    by_cases exy : x = y
    ·
     exact exy
    ·
     have := (upL_above ws hxy exy (mem_stayQ.1 hx).2).length_le
     rw [hy] at this
     omega
   rcases Nat.le_total a.length b.length with hl | hl
   ·
    exact key a b a1 a4 b5 (pre_pre ra rb hl)
   ·
    exact (key b a b1 b4 a5 (pre_pre rb ra hl)).symm
  ·
   rw [if_neg hpq, sumL_zero]
   ·
    exact Nat.le_refl _
   ·
    intro k hk
    obtain ⟨_, _, k3, _, _⟩ := kid_facts ws hC hk
    rw [if_neg fun h => hpq (k3.trans h)]
theorem joinTail_len (sep : UInt8) : ∀ r : List Txt, (Lib.joinTail [sep] r).length = sumL (fun x => x.length + 1) r
 | [] => rfl
 | x :: r => by
  have := joinTail_len sep r
  unfold Lib.joinTail at this ⊢
  rw [List.map_cons, List.flatten_cons, List.length_append, this, sumL]
  simp
theorem join_len (sep : UInt8) (xs : List Txt) : (Lib.join xs [sep]).length ≤ sumL (fun x => x.length + 1) xs := by
 cases xs with
 | nil => exact Nat.zero_le _
 | cons x r =>
  rw [Lib.join_cons, List.length_append, joinTail_len, sumL]
  omega
theorem sumL_map (f : Txt → Nat) (g : Txt → Txt) : ∀ l : List Txt, sumL f (l.map g) = sumL (fun x => f (g x)) l
 | [] => rfl
 | x :: r => by rw [List.map_cons, sumL, sumL, sumL_map f g r]
theorem sumL_times (c : Nat) (f : Txt → Nat) : ∀ l : List Txt, sumL (fun x => c * f x) l = c * sumL f l
 | [] => rfl
 | x :: r => by rw [sumL, sumL, sumL_times c f r, Nat.mul_add]
theorem ltr_len {P ws : List Txt} (hW : ∀ p ∈ P, wordL p = true) {p : Txt} (hp : p ∈ P) : (brL P ws p).1.length ≤ 12 := by
 have := (wordL_iff.1 (hW p hp)).2
 unfold brL
 dsimp only
 split
 ·
  simp
 ·
  rw [List.length_drop]; omega
theorem tx_len {P : List Txt} (ws : List Txt) (hA : Asc P) (hC : Clo P) (hW : ∀ p ∈ P, wordL p = true) : ∀ (n : Nat) (p : Txt), p ∈ stayQ P ws → (tx P ws n p).length + 1 ≤ 16 * sub P ws p
 | 0, p, hp => by
  have := sub_kids ws hA hC hp
  rw [tx]
  show 0 + 1 ≤ _
  omega
 | n + 1, p, hp => by
  have h1 := sub_kids ws hA hC hp
  have h2 := ltr_len (ws := ws) hW (mem_stayQ.1 hp).1
  have h3 : (if p ∈ ws then [46] else ([] : Txt)).length ≤ 1 := by split <;> simp
  have h4 := join_len 44 ((kidsQ P ws p).map (tx P ws n))
  rw [sumL_map] at h4
  have h5 : sumL (fun x => (tx P ws n x).length + 1) (kidsQ P ws p) ≤ sumL (fun x => 16 * sub P ws x) (kidsQ P ws p) := sumL_mono fun x hx => tx_len ws hA hC hW n x (kid_facts ws hC hx).1
  rw [sumL_times] at h5
  rw [tx]
  split
  ·
   rw [List.length_append]; omega
  ·
   simp only [List.length_append, List.length_singleton]
   omega
theorem sub_le (P ws : List Txt) (p : Txt) : sub P ws p ≤ (stayQ P ws).length := by
 have := sumL_le (fun q => if p <+: q then 1 else 0) 1 (stayQ P ws) fun x _ => by split <;> omega
 unfold sub
 omega
theorem join_snoc (xs : List Txt) (y : Txt) (sep : Txt) : Lib.join (xs ++ [y]) sep = if xs = [] then y else Lib.join xs sep ++ sep ++ y := by
 cases xs with
 | nil => rw [List.nil_append, if_pos rfl]; exact Lib.join_one y sep
 | cons x r =>
  rw [if_neg (by simp), List.cons_append, Lib.join_cons, Lib.join_cons]
  unfold Lib.joinTail
  simp
theorem join_ne {xs : List Txt} (h : xs ≠ []) (hx : ∀ x ∈ xs, x ≠ []) (sep : Txt) : Lib.join xs sep ≠ [] := by
 cases xs with
 | nil => exact absurd rfl h
 | cons x r =>
  rw [Lib.join_cons]
  intro e
  exact hx x List.mem_cons_self (List.append_eq_nil_iff.1 e).1
theorem tx_ne {P : List Txt} (ws : List Txt) (hC : Clo P) {n : Nat} {p : Txt} (hp : p ∈ P) (hne : p ≠ []) : tx P ws (n + 1) p ≠ [] := by
 have h : (brL P ws p).1 ≠ [] := by
  unfold brL
  dsimp only
  rw [if_neg hne]
  exact drop_ne ws hC hp hne
 rw [tx]
 split
 ·
  intro e; exact h (List.append_eq_nil_iff.1 e).1
 ·
  simp
theorem f1_kid {P : List Txt} (ws : List Txt) (hC : Clo P) {i : Nat} (hi : i < (stayQ P ws).length) {p : Txt} (hp : p ∈ stayQ P ws) : (rd_T60 (brs P ws) (i : Int)).f1 = ((placeL (stayQ P ws) p : Nat) : Int) ↔ isKid P ws p ((stayQ P ws).getD i []) = true := by
 rw [rdBr P ws i hi]
 unfold brN brL isKid
 dsimp only
 rw [decide_eq_true_eq]
 have hm := getD_mem hi
 by_cases h0 : (stayQ P ws).getD i [] = []
 ·
  rw [if_pos h0]
  exact ⟨fun e => by omega, fun h => absurd h0 h.1⟩
 ·
  rw [if_neg h0]
  constructor
  ·
   intro e
   refine ⟨h0, ?_⟩
   have e2 : placeL (stayQ P ws) (upL P ws ((stayQ P ws).getD i [])) = placeL (stayQ P ws) p := by omega
   have h1 := (placeL_mem (up_stayQ ws hC hm h0)).2
   rw [e2, (placeL_mem hp).2] at h1
   exact h1.symm
  ·
   rintro ⟨_, e⟩
   rw [e]
def kt (P ws : List Txt) (n : Nat) (p : Txt) (i : Nat) : List Txt := (((stayQ P ws).take i).filter (isKid P ws p)).map (tx P ws n)
theorem kt_succ {P ws : List Txt} (n : Nat) (p : Txt) {i : Nat} (hi : i < (stayQ P ws).length) : kt P ws n p (i + 1) = kt P ws n p i ++ (if isKid P ws p ((stayQ P ws).getD i []) = true then [tx P ws n ((stayQ P ws).getD i [])] else []) := by
 unfold kt
 rw [filter_take_succ _ hi, List.map_append]
 congr 1
 split <;> rfl
theorem kt_all (P ws : List Txt) (n : Nat) (p : Txt) : kt P ws n p (stayQ P ws).length = (kidsQ P ws p).map (tx P ws n) := by
 unfold kt kidsQ
 rw [List.take_length]
theorem kt_mem {P : List Txt} {ws : List Txt} {n : Nat} {p : Txt} {i : Nat} {x : Txt} (h : x ∈ kt P ws n p i) : ∃ q ∈ kidsQ P ws p, x = tx P ws n q := by
 unfold kt at h
 obtain ⟨q, hq, rfl⟩ := List.mem_map.1 h
 obtain ⟨h1, h2⟩ := List.mem_filter.1 hq
 exact ⟨q, List.mem_filter.2 ⟨List.mem_of_mem_take h1, h2⟩, rfl⟩
theorem kt_len_le (P ws : List Txt) (n : Nat) (p : Txt) (i : Nat) : (kt P ws n p i).length ≤ (stayQ P ws).length := by
 unfold kt
 rw [List.length_map]
 exact Nat.le_trans (List.length_filter_le _ _) (List.length_take_le' _ _)
theorem kt_sum {P : List Txt} (ws : List Txt) (hA : Asc P) (hC : Clo P) (hW : ∀ p ∈ P, wordL p = true) (n : Nat) {p : Txt} (hp : p ∈ stayQ P ws) (i : Nat) : sumL (fun x => x.length + 1) (kt P ws n p i) + 16 ≤ 16 * sub P ws p := by
 have h1 := sub_kids ws hA hC hp
 have sumL_app : ∀ (f : Txt → Nat) (l m : List Txt), sumL f (l ++ m) = sumL f l + sumL f m := fun f l m => by
  induction l with
  | nil => rw [List.nil_append, sumL, Nat.zero_add]
  | cons x r ih => rw [List.cons_append, sumL, sumL, ih, Nat.add_assoc]
 have h2 : sumL (fun x => x.length + 1) (kt P ws n p i) ≤ sumL (fun x => x.length + 1) ((kidsQ P ws p).map (tx P ws n)) := by
  have : (kidsQ P ws p).map (tx P ws n) = kt P ws n p i ++ (((stayQ P ws).drop i).filter (isKid P ws p)).map (tx P ws n) := by
   unfold kt kidsQ
   rw [← List.map_append, ← List.filter_append, List.take_append_drop]
  rw [this, sumL_app]
  omega
 rw [sumL_map] at h2
 have h5 : sumL (fun x => (tx P ws n x).length + 1) (kidsQ P ws p) ≤ sumL (fun x => 16 * sub P ws x) (kidsQ P ws p) := sumL_mono fun x hx => tx_len ws hA hC hW n x (kid_facts ws hC hx).1
 rw [sumL_times] at h5
 omega
theorem out_rd {P : List Txt} (ws : List Txt) {i : Nat} (hi : i < (stayQ P ws).length) : (rd_T60 (brs P ws) (i : Int)).f0 = B (brL P ws ((stayQ P ws).getD i [])).1 ∧ (rd_T60 (brs P ws) (i : Int)).f2 = decide ((stayQ P ws).getD i [] ∈ ws) := by
 rw [rdBr P ws i hi]
 exact ⟨rfl, rfl⟩
def outT (P ws : List Txt) (p : Txt) : Txt := (brL P ws p).1 ++ (if p ∈ ws then [46] else [])
theorem tx_fin (P ws : List Txt) (n : Nat) (p : Txt) : tx P ws (n + 1) p = if kidsQ P ws p = [] then outT P ws p else outT P ws p ++ [40] ++ Lib.join ((kidsQ P ws p).map (tx P ws n)) [44] ++ [41] := rfl
theorem outT_len {P ws : List Txt} (hW : ∀ p ∈ P, wordL p = true) {p : Txt} (hp : p ∈ P) : (outT P ws p).length ≤ 13 := by
 have h2 := ltr_len (ws := ws) hW hp
 unfold outT
 rw [List.length_append]
 have h3 : (if p ∈ ws then [46] else ([] : Txt)).length ≤ 1 := by split <;> simp
 omega
theorem both_text {ws : List Txt} (h : OkW ws) (hl : (stayQ (preL ws) ws).length ≤ 81) : ∀ (n : Nat) (p : Txt), p ∈ stayQ (preL ws) ws → 13 ≤ n + p.length →
  Ev (fun k => impl_Pressed_text.f k (brs (preL ws) ws) ((placeL (stayQ (preL ws) ws) p : Nat) : Int)) (B (tx (preL ws) ws n p)) ∧ Ev (fun k => spec_l4Text.f k (brs (preL ws) ws) ((placeL (stayQ (preL ws) ws) p : Nat) : Int)) (B (tx (preL ws) ws n p)) := by
 have hA := asc_preL ws
 have hC := clo_preL ws
 have hW : ∀ p ∈ preL ws, wordL p = true := fun p hp => preL_word h.word hp
 intro n
 induction n with
 | zero =>
  intro p hp hn
  have := (wordL_iff.1 (hW p (mem_stayQ.1 hp).1)).2
  omega
 | succ n ih =>
  intro p hp hn
  obtain ⟨z1, z2⟩ := placeL_mem hp
  obtain ⟨o1, o2⟩ := out_rd (P := preL ws) ws z1
  rw [z2] at o1 o2
  have hol := outT_len (ws := ws) hW (mem_stayQ.1 hp).1
  have hsub := sub_le (preL ws) ws p
  have kids : ∀ i, i < (stayQ (preL ws) ws).length → isKid (preL ws) ws p ((stayQ (preL ws) ws).getD i []) = true →
    Ev (fun k => impl_Pressed_text.f k (brs (preL ws) ws) (i : Int)) (B (tx (preL ws) ws n ((stayQ (preL ws) ws).getD i []))) ∧ Ev (fun k => spec_l4Text.f k (brs (preL ws) ws) (i : Int)) (B (tx (preL ws) ws n ((stayQ (preL ws) ws).getD i []))) := by
   intro i hi hk
   have hm := getD_mem hi
   obtain ⟨_, _, _, k4, _⟩ := kid_facts ws hC (p := p) (List.mem_filter.2 ⟨hm, hk⟩)
   have := ih _ hm (by omega)
   rwa [placeL_get (asc_stayQ ws hA) hi] at this
  have hjl : ∀ i, (Lib.join (kt (preL ws) ws n p i) [44]).length ≤ 1296 := fun i => by
   have h1 := join_len 44 (kt (preL ws) ws n p i)
   have h2 := kt_sum ws hA hC hW n hp i
   omega
  have htl : ∀ i, i < (stayQ (preL ws) ws).length → (tx (preL ws) ws n ((stayQ (preL ws) ws).getD i [])).length ≤ 1296 := fun i hi => by
   have h1 := tx_len ws hA hC hW n _ (getD_mem hi)
   have h2 := sub_le (preL ws) ws ((stayQ (preL ws) ws).getD i [])
   omega
  have hktn : ∀ i, ∀ x ∈ kt (preL ws) ws n p i, x ≠ [] := fun i x hx => by
   obtain ⟨q, hq, rfl⟩ := kt_mem hx
   obtain ⟨k1, k2, _, k4, _⟩ := kid_facts ws hC hq
   have := (wordL_iff.1 (hW q (mem_stayQ.1 k1).1)).2
   obtain ⟨m, hm⟩ : ∃ m, n = m + 1 := ⟨n - 1, by omega⟩
   rw [hm]
   exact tx_ne ws hC (mem_stayQ.1 k1).1 k2
  constructor
  ·
   have loop : ∀ d i, i + d = (stayQ (preL ws) ws).length → Ev (fun k => impl_Pressed_text.l0 k ((placeL (stayQ (preL ws) ws) p : Nat) : Int) (B (outT (preL ws) ws p)) ((kt (preL ws) ws n p i).map B) (brs (preL ws) ws) ((brs (preL ws) ws).length : Int) (i : Int) (brs (preL ws) ws)) (B (tx (preL ws) ws (n + 1) p)) := by
    intro d
    induction d with
    | zero =>
     intro i hi
     obtain rfl : i = (stayQ (preL ws) ws).length := by omega
     have hj := hjl (stayQ (preL ws) ws).length
     rw [kt_all] at hj ⊢
     refine Ev.step (fun k => impl_Pressed_text.l0.eq_2 ..) (Ev.ifF (by rw [brs_length]; omega) ?_)
     rw [tx_fin]
     by_cases hk : kidsQ (preL ws) ws p = []
     ·
      rw [if_pos hk, hk]
      exact Ev.ifT rfl (Ev.now _)
     ·
      have hkl := List.length_pos_iff.2 hk
      have hle : ((kidsQ (preL ws) ws p).map (tx (preL ws) ws n)).length ≤ 81 := by
       rw [List.length_map]
       exact Nat.le_trans (List.length_filter_le _ _) hl
      rw [if_neg hk]
      have hJ : strings_Join.f (((kidsQ (preL ws) ws p).map (tx (preL ws) ws n)).map B) (⟨#[44]⟩ : ByteArray) = some (B (Lib.join ((kidsQ (preL ws) ws p).map (tx (preL ws) ws n)) [44])) := by
       unfold strings_Join.f
       have e1 : (((kidsQ (preL ws) ws p).map (tx (preL ws) ws n)).map B).map (fun x => x.data.toList) = (kidsQ (preL ws) ws p).map (tx (preL ws) ws n) := map_data _
       rw [e1, if_pos ⟨by rw [List.length_map]; omega, by show (Lib.join _ [44]).length ≤ _; omega⟩]
       rfl
      refine Ev.ifF (by rw [List.length_map, List.length_map]; omega) (Ev.ifT (by rw [size_B]; omega) ?_)
      rw [hJ]
      refine Ev.some_bind ?_
      rw [show (⟨#[40]⟩ : ByteArray) = B [40] from rfl, show (⟨#[41]⟩ : ByteArray) = B [41] from rfl, append_B, append_B, append_B, size_B, size_B, size_B]
      exact Ev.ifT (by simp only [List.length_append, List.length_singleton]; omega) (Ev.ifT (by simp only [List.length_append, List.length_singleton]; omega) (Ev.now _))
    | succ d ihd =>
     intro i hi
     have hil : i < (stayQ (preL ws) ws).length := by omega
     have hnext := ihd (i + 1) (by omega)
     have hkl := kt_len_le (preL ws) ws n p i
     rw [kt_succ n p hil] at hnext
     refine Ev.step (fun k => impl_Pressed_text.l0.eq_2 ..) (Ev.ifT (by rw [brs_length]; omega) (Ev.ifT (by omega) (Ev.ifT (by rw [brs_length]; omega) ?_)))
     rw [wrap64_succ i (by omega)]
     by_cases hk : isKid (preL ws) ws p ((stayQ (preL ws) ws).getD i []) = true
     ·
      rw [if_pos hk, List.map_append, List.map_singleton] at hnext
      exact Ev.ifT ((f1_kid ws hC hil hp).2 hk) (Ev.bind (kids i hil hk).1 (Ev.ifT (by rw [List.length_map]; omega) hnext))
     ·
      rw [if_neg hk, List.append_nil] at hnext
      exact Ev.ifF (fun e => hk ((f1_kid ws hC hil hp).1 e)) hnext
   have h0 := loop (stayQ (preL ws) ws).length 0 (by omega)
   have hk0 : kt (preL ws) ws n p 0 = [] := rfl
   rw [hk0, List.map_nil] at h0
   refine Ev.step (fun k => impl_Pressed_text.f.eq_2 ..) (Ev.ifT (by omega) (Ev.ifT (by rw [brs_length]; omega) (Ev.some_bind ?_)))
   rw [o1, o2]
   unfold outT at h0 hol
   by_cases hm : p ∈ ws
   ·
    rw [if_pos hm] at h0
    refine Ev.ifT (decide_eq_true hm) (Ev.ifT (by rw [size_B]; have := ltr_len (ws := ws) hW (mem_stayQ.1 hp).1; omega) ?_)
    rw [show (⟨#[46]⟩ : ByteArray) = B [46] from rfl, append_B]
    exact Ev.step (fun k => impl_Pressed_text.j0.eq_2 ..) h0
   ·
    rw [if_neg hm, List.append_nil] at h0
    exact Ev.ifF (by rw [decide_eq_false hm]; exact Bool.false_ne_true) (Ev.step (fun k => impl_Pressed_text.j0.eq_2 ..) h0)
  ·
   have loop : ∀ d i, i + d = (stayQ (preL ws) ws).length → Ev (fun k => spec_l4Text.l0 k ((placeL (stayQ (preL ws) ws) p : Nat) : Int) (B (outT (preL ws) ws p)) (B (Lib.join (kt (preL ws) ws n p i) [44])) (i : Int) (brs (preL ws) ws)) (B (tx (preL ws) ws (n + 1) p)) := by
    intro d
    induction d with
    | zero =>
     intro i hi
     obtain rfl : i = (stayQ (preL ws) ws).length := by omega
     have hj := hjl (stayQ (preL ws) ws).length
     have hnn := hktn (stayQ (preL ws) ws).length
     rw [kt_all] at hj hnn ⊢
     refine Ev.step (fun k => spec_l4Text.l0.eq_2 ..) (Ev.ifF (by rw [brs_length]; omega) ?_)
     rw [tx_fin, toList_B]
     by_cases hk : kidsQ (preL ws) ws p = []
     ·
      rw [if_pos hk, hk]
      exact Ev.ifT rfl (Ev.now _)
     ·
      rw [if_neg hk]
      refine Ev.ifF (join_ne (by simpa using hk) hnn _) (Ev.ifT (by rw [size_B]; omega) ?_)
      rw [show (⟨#[40]⟩ : ByteArray) = B [40] from rfl, show (⟨#[41]⟩ : ByteArray) = B [41] from rfl, append_B, append_B, append_B, size_B, size_B, size_B]
      exact Ev.ifT (by simp only [List.length_append, List.length_singleton]; omega) (Ev.ifT (by simp only [List.length_append, List.length_singleton]; omega) (Ev.now _))
    | succ d ihd =>
     intro i hi
     have hil : i < (stayQ (preL ws) ws).length := by omega
     have hnext := ihd (i + 1) (by omega)
     have hj := hjl i
     have ht := htl i hil
     rw [kt_succ n p hil] at hnext
     refine Ev.step (fun k => spec_l4Text.l0.eq_2 ..) (Ev.ifT (by rw [brs_length]; omega) (Ev.ifT (by omega) ?_))
     rw [wrap64_succ i (by omega), toList_B]
     by_cases hk : isKid (preL ws) ws p ((stayQ (preL ws) ws).getD i []) = true
     ·
      rw [if_pos hk, join_snoc] at hnext
      refine Ev.ifT ((f1_kid ws hC hil hp).2 hk) ?_
      by_cases hkt : kt (preL ws) ws n p i = []
      ·
       rw [if_pos hkt] at hnext
       rw [hkt]
       refine Ev.ifT rfl (Ev.bind (kids i hil hk).2 ?_)
       rw [show Lib.join ([] : List Txt) [44] = [] from rfl, append_B, List.nil_append, size_B, size_B]
       exact Ev.ifT (by simp only [List.length_nil]; omega) hnext
      ·
       rw [if_neg hkt] at hnext
       refine Ev.ifF (join_ne hkt (hktn i) _) (Ev.ifT (by rw [size_B]; omega) (Ev.bind (kids i hil hk).2 ?_))
       rw [show (⟨#[44]⟩ : ByteArray) = B [44] from rfl, append_B, append_B, size_B, size_B]
       exact Ev.ifT (by simp only [List.length_append, List.length_singleton]; omega) hnext
     ·
      rw [if_neg hk, List.append_nil] at hnext
      exact Ev.ifF (fun e => hk ((f1_kid ws hC hil hp).1 e)) hnext
   have hk0 : kt (preL ws) ws n p (placeL (stayQ (preL ws) ws) p + 1) = [] := by
    unfold kt
    rw [List.filter_eq_nil_iff.2, List.map_nil]
    intro q hq hk
    obtain ⟨j, hj, rfl⟩ := List.getElem_of_mem hq
    rw [List.length_take] at hj
    rw [List.getElem_take] at hk
    have hjl : j < (stayQ (preL ws) ws).length := by omega
    obtain ⟨h3, h4⟩ := of_decide_eq_true hk
    have hj0 : 0 < j := by
     rcases Nat.eq_zero_or_pos j with e | e
     ·
      subst e
      have := (stayQ_zero ws hA hC).2
      rw [getD_lt [] hjl] at this
      exact absurd this h3
     ·
      exact e
    have := (stayQ_parent ws hA hC hjl hj0).1
    rw [getD_lt [] hjl, h4] at this
    omega
   have h0 := loop ((stayQ (preL ws) ws).length - (placeL (stayQ (preL ws) ws) p + 1)) (placeL (stayQ (preL ws) ws) p + 1) (by omega)
   rw [hk0, show Lib.join ([] : List Txt) [44] = [] from rfl] at h0
   refine Ev.step (fun k => spec_l4Text.f.eq_2 ..) (Ev.ifT (by omega) (Ev.ifT (by rw [brs_length]; omega) ?_))
   rw [o1, o2]
   unfold outT at h0 hol
   have hws := wrap64_succ (placeL (stayQ (preL ws) ws) p) (by omega)
   by_cases hm : p ∈ ws
   ·
    rw [if_pos hm] at h0
    refine Ev.ifT (decide_eq_true hm) (Ev.ifT (by rw [size_B]; have := ltr_len (ws := ws) hW (mem_stayQ.1 hp).1; omega) ?_)
    rw [show (⟨#[46]⟩ : ByteArray) = B [46] from rfl, append_B]
    refine Ev.step (fun k => spec_l4Text.j0.eq_2 ..) ?_
    rw [hws]
    exact h0
   ·
    rw [if_neg hm, List.append_nil] at h0
    refine Ev.ifF (by rw [decide_eq_false hm]; exact Bool.false_ne_true) (Ev.step (fun k => spec_l4Text.j0.eq_2 ..) ?_)
    rw [hws]
    exact h0
theorem both (N : List Bd) (hb : ∀ b ∈ N, b.f0.size ≤ 1000000000) : ∃ r : ByteArray × Bool, Ev (fun k => spec_PressedText.f k N) r ∧ Ev (fun k => impl_PressedText.f k N) r := by
 unfold spec_PressedText.f impl_PressedText.f impl_IsPressed.f
 rcases open_both N hb with ⟨ws, h, rfl, hl, e1, e2⟩ | ⟨e1, e2⟩
 ·
  obtain ⟨q1, q2⟩ := stayQ_zero ws (asc_preL ws) (clo_preL ws)
  have h0 : placeL (stayQ (preL ws) ws) [] = 0 := by have := placeL_get (asc_stayQ ws (asc_preL ws)) q1; rwa [q2] at this
  obtain ⟨t1, t2⟩ := both_text h hl 13 [] (nil_stayQ ws (clo_preL ws)) (by simp)
  rw [h0] at t1 t2
  exact ⟨(B (tx (preL ws) ws 13 []), true), Ev.bind e1 (Ev.ifT rfl (Ev.bind t2 (Ev.now _))), Ev.bind (Ev.bind e2 (Ev.now _)) (Ev.ifT rfl (Ev.bind t1 (Ev.now _)))⟩
 ·
  exact ⟨(⟨#[]⟩, false), Ev.bind e1 (Ev.ifF Bool.false_ne_true (Ev.now _)), Ev.bind (Ev.bind e2 (Ev.now _)) (Ev.ifF Bool.false_ne_true (Ev.now _))⟩
end PressedText
theorem FnExactPressedText : laws_FnExactPressedText.Pure := by
 intro l hl hs
 obtain ⟨v, v1, v2⟩ := szP_ev l hl hs
 refine Ev.rounds ?_
 unfold laws_FnExactPressedText.f
 refine Ev.bind v1 ?_
 by_cases h0 : v < 0
 ·
  exact Ev.ifT h0 (Ev.now _)
 ·
  obtain ⟨hlen, hsm⟩ := v2 (by omega)
  obtain ⟨r, h1, h2⟩ := PressedText.both (toB l) (toB_small hsm)
  have he := eqPressed_ev (toB l) (by rw [toB_length]; omega)
  refine Ev.ifF h0 (Ev.bind (toPressed_ev l hlen) (Ev.bind h1 (Ev.bind (toPressed_ev l hlen) (Ev.bind h2 ?_))))
  exact Ev.ifT rfl (Ev.step (fun k => laws_FnExactPressedText.j0.eq_2 ..) (Ev.ifF (by simp) (Ev.bind (toPressed_ev l hlen) (Ev.bind he (Ev.ifT rfl (Ev.now _))))))
end Go.Proofs.YtfhffcefpnkllaaGreatDoor.Pure
namespace Go.Proofs.YtfhffcefpnkllaaGreatDoor.fnExactPressedText
open Go.ChangeShapes Go.WideShapes Go.ChangeAt Go.RowKit Go.Proofs.YtfhffcefpnkllaaGreatDoor.P
open Go.ChangeMaps (open_string shut_string)
def laidL : List (String × DataW Unit) := [("unicode/utf8.acceptRanges", Rows.laid_unicode_utf8_acceptRanges), ("unicode/utf8.first", Rows.laid_unicode_utf8_first)]
theorem own : ownKnob Tryz.prog.godebug = none := by kernel_rfl
theorem laidOut : laidOutB Tryz.prog = true := by kernel_rfl
theorem lifted (os : Os) (started : os.Started) (H : Type) (enc : TypeId × Value → H) :
    ReturnsInHanded {} Tryz.checked os 5 .any (fun w args => (Rows.fnExactPressedTextSpec.pre enc Tryz.prog Tryz.f5 [] false w args ∧ laidMetH Tryz.prog laidL w) ∧ sizedMet enc Tryz.prog Tryz.f5 (OpenSpec.ofChange Rows.fnExactPressedTextSpec) false w args) (Rows.fnExactPressedTextSpec.post enc Tryz.prog Tryz.f5 false true false false) := by
  refine returnsInHanded_of_change_and (C := Tryz.checked) (X := fun w _ => laidMetH Tryz.prog laidL w) (fun _ _ _ hh h => h.of_heap hh) own started (by kernel_rfl) Tryz.func5
    (ChangeSpec.witness_shaped (enc := enc) (C := Tryz.checked) (os := os) (X := fun w _ => laidMetH Tryz.prog laidL w) false (World.laidAll Tryz.prog os laidL) #[.agg #[.slice none 0 0]] 8 (World.laidAll_os _ _ _) (World.shaped_of_ZipB (by kernel_rfl) (by kernel_rfl)) (by kernel_rfl) (by kernel_rfl) (by kernel_rfl)
      (by rw [MakeChecks.laidMetH_plain _ _ _ (by kernel_rfl)]; exact laidMet_laidAll _ (by kernel_rfl) (by kernel_rfl))) ?_
  intro W base args ds gs before hval0 hW hcnd hsz0 hL_ _
  have hsz : (DataW.weightsEach Tryz.prog (Tryz.f5.params.toList ++ Rows.fnExactPressedTextSpec.plain.varTypes Tryz.prog) (ds ++ gs)).all (· ≤ reachBytes) = true := hsz0
  have hval : ∀ (j : Nat) t v, Tryz.f5.params[j]? = some t → args[j]? = some v → Value.okWide Tryz.prog W .any base t v := hval0
  have hW' := hW
  obtain ⟨p, q, hA0, hV, rfl, hfz, hnd⟩ := hW
  have hA : DataW.TrodAll enc Tryz.prog W 0 (fun _ => true) true Tryz.f5.params.toList args.toList ds p := hA0
  rw [Tryz.params5] at hA hval hsz
  obtain ⟨v0, vs0, d0, ds0, p0, q0, hargs, rfl, rfl, h0, r0⟩ := trodAll_cons hA
  obtain ⟨rfl, rfl, rfl⟩ := trodAll_nil r0
  obtain rfl : args = #[v0] := by cases args; simp_all
  obtain ⟨rfl, rfl⟩ := trodVars_none hV
  have k0 := h0
  have lt0 : ∀ x ∈ p0, x.block < W.heap.size := by obtain ⟨m, hm⟩ := k0; exact DataW.trod_lt m _ _ _ hm
  obtain ⟨A0, c0, l0, ev0, hc0, hr0, hs0⟩ := OPr.pressed (hval 0 24 v0 rfl rfl) h0
  subst ev0
  clear hA0 hval0 hsz0 hsz
  refine (laws_FnExactPressedText.walk Pure.FnExactPressedText W A0 c0 l0 hr0 hc0 hs0).mono fun e W' ⟨he, bel⟩ => ?_
  subst he
  exact ⟨_, rfl, _, _, _, [], _, [], hW', trodAll_mk1 (shut_bool Tryz.underlying4 _), (trodAll_cons_mk (Below.trod laidOut (by kernel_rfl) (of_decide_eq_true (by kernel_rfl)) k0 bel lt0) trodAll_mk0), rfl, bel.frame _, fun h => by cases h⟩
theorem over : Rows.fnExactPressedTextRow.holds Tryz.pinned (OpenSpec.ofChange Rows.fnExactPressedTextSpec) :=
  OpenClaim.holds_of_wide 5 Tryz.f5 rfl rfl rfl rfl rfl rfl rfl ⟨rfl, rfl, rfl, rfl, rfl⟩ rfl rfl rfl rfl rfl (by kernel_rfl) Tryz.func5 (by kernel_rfl)
    (of_decide_eq_true (by kernel_rfl)) (by unfold Func.isWrapper; first | (rw [if_pos (by decide +kernel)]; kernel_rfl) | (rw [if_neg (by decide +kernel)]; exact ⟨rfl, rfl⟩))
    (fun os started H enc _ => lifted os started H enc)
theorem proved : Rows.FnExactPressedTextSaid := over
end Go.Proofs.YtfhffcefpnkllaaGreatDoor.fnExactPressedText
namespace Go.Proofs.YtfhffcefpnkllaaGreatDoor
theorem fnExactPressedText_holds : Rows.FnExactPressedTextSaid := fnExactPressedText.proved
theorem fnExactPressedText_card : Rows.FnExactPressedTextCardSaid :=
  Claim7.holds_tied_plain_at .later [] [.data, .pinned] true (true, "89e9aeddae24cd2275e11d4f31cafb8a5f0d0d61960544b8b9d0c6dec95f84d4") false
    fnExactPressedText_holds (fun _ h => by cases h) (by kernel_rfl) (fun _ h => by cases h) fnExactPressedText_row_tie rfl ⟨rfl, rfl⟩ (by kernel_rfl) rfl
    (fun f fn hf hfn => by
      obtain rfl : f = 5 := Option.some.inj ((show Tryz.prog.funcNamed "loop.example/g01243/laws.FnExactPressedText" = some 5 by kernel_rfl).symm.trans hf) |>.symm
      obtain rfl : fn = Tryz.f5 := (Option.some.inj (Tryz.func5.symm.trans hfn)).symm
      exact ⟨by kernel_rfl, fun j t ht => by
        rw [Tryz.params5] at ht
        have hm : t ∈ [24] := by simpa using Array.mem_of_getElem? ht
        have hall : ([24].all fun u => !Tryz.prog.wantsStandIn u) = true := by kernel_rfl
        exact (show Tryz.prog.wantsStandIn t = false by simpa using List.all_eq_true.1 hall t hm)⟩)
    (by kernel_rfl)
end Go.Proofs.YtfhffcefpnkllaaGreatDoor
