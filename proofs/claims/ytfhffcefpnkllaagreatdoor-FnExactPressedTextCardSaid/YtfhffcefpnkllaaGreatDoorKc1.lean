/-
  Part 2 of what several laws reach in common: functions of the program, each with its contract, and plain lemmas.
  Conditions: those of the given statement, no others.
-/
import Derived.Test.YtfhffcefpnkllaaGreatDoorKcW0
import Derived.Test.YtfhffcefpnkllaaGreatDoorKc0
set_option linter.unusedVariables false
set_option linter.unusedSimpArgs false
set_option maxHeartbeats 8000000
set_option maxRecDepth 100000
namespace Go.Proofs.YtfhffcefpnkllaaGreatDoor.P
open Go.RowKit Go.Proofs.YtfhffcefpnkllaaGreatDoorW.PrintWords Go.Proofs.YtfhffcefpnkllaaGreatDoorW.PrintLast Go.Proofs.YtfhffcefpnkllaaGreatDoorW.PrintMore
open Go.Proofs.YtfhffcefpnkllaaGreatDoorW.PrintWords renaming blk_frozen → bF_, blk_cell → bC_, below_set → bS_, blk_below → bB_, below_step → bT_, pw_below_drewN → bN_, below_size → bZ_, below_drew1 → bD_, below_alloc → bA_, blk_far → bR_, gate_callee → gC_, gate_dst → gD_, box_event → bE_, blk_drew → b1_, blk_put → bP_, blk_drewN → b2_, blk_alloc → b3_, blk_lt → bL_, cell_far → cF_
open Go.Proofs.YtfhffcefpnkllaaGreatDoorW.PrintLast renaming any_of → aO_, i64_w → i6_, i32_w → i3_, take_ofW → tW_
open Go.Proofs.YtfhffcefpnkllaaGreatDoorW.PrintWords.Kd renaming R_below → kB_, R_mono → kM_, R_far → kF_, R_reads' → kR_, R_types → kT_, R_slice → kS_, R_celln → kC_, R_alloc → k1_, R_drewN → k2_, R_drew → k3_, C_below → k4_, R_lower → k5_, R_ne → k6_, own_blk → k7_
open Go.Proofs.YtfhffcefpnkllaaGreatDoorW.PrintWords.LeO renaming none → l0_, bind → l1_, ite → l2_, refl → l3_
open World renaming block_lt_of_cell? → wB_
open _root_.Option renaming bind_eq_some_iff → oB_
open _root_.ByteArray renaming empty → eB_
open List renaming setIfInBounds_toArray → sA_, set_cons_zero → sB_, set_cons_succ → sC_, map_toArray → sD_, map_cons → sE_, map_nil → sF_, length_drop → sG_, length_take → sH_
open Bool renaming true → ty, false → fy
open Aside0 renaming mk → aM_
attribute [local go_sem] max2_int min2_int max_two min_two max_three min_three max_four min_four
def impl_ofWords.f (k : Nat) (l0 : List ByteArray) : Option ((List (S76)) × Bool) := (impl_set.f l0).bind fun t356 => (if (t356.length : Int) > 40 then (some (([] : List (S76)), false)) else ((impl_trieOf.f k t356).bind fun t359 => (some (t359, true))))
theorem impl_ofWords.mono : ∀ a0 k, LeO (impl_ofWords.f k a0) (impl_ofWords.f (k + 1) a0) := by
 intro a0 k
 unfold impl_ofWords.f
 repeat' first
   | (with_reducible exact impl_trieOf.mono _ _)
   | (with_reducible exact l3_ _)
   | (with_reducible exact l0_ _)
   | (with_reducible refine l2_ ?_ ?_)
   | (with_reducible refine l1_ ?_ (fun _ => ?_))
   | exact impl_trieOf.mono _ _
   | exact l0_ _
   | refine l2_ ?_ ?_
   | refine l1_ ?_ (fun _ => ?_)
theorem impl_ofWords.calls (k : Nat) (A0 : Option Addr) (c0 : Nat) (l0 : List ByteArray) (r1 : List (S76)) (r2 : Bool) (w : World) (hr0 : Kd.C Kd.string w A0 l0.length l0) (hc0 : l0.length ≤ c0) (h : impl_ofWords.f k l0 = some (r1, r2)) :
  Calls Tryz.prog 61 #[.slice A0 l0.length c0] w fun e w' => ∃ v0_ : Value, e = .returned (.tuple #[.agg #[v0_], .bool r2]) ∧ Kd.R k76 76 w' w.heap.size (fun _ => True) v0_ r1 ∧ Below w.heap.size w w' := by
 have hu36 := Tryz.underlying36
 have HR0 := aM_ hr0
 have HC0 := aM_ hc0
 clear hr0 hc0
 have HB := aM_ (Below.refl w.heap.size w)
 have H : ((impl_set.f l0).bind fun t356 => (if (t356.length : Int) > 40 then (some (([] : List (S76)), false)) else ((impl_trieOf.f k t356).bind fun t359 => (some (t359, true))))) = some (r1, r2) := h
 clear h
 replace H := oB_.mp H
 obtain ⟨t356, A20, H⟩ := H
 try dsimp only at H
 have A2 := aM_ A20
 clear A20
 by_cases c3 : (t356.length : Int) > 40
 ·
  rw [if_pos c3] at H
  have c3b0 := decide_eq_true c3
  have c3b1 : decide (40 < t356.length) = true := decide_eq_true (by omega)
  clear c3
  simp only [Option.some.injEq, Prod.mk.injEq] at H
  obtain ⟨rfl, rfl⟩ := H
  go_enter Tryz.func61, Tryz.ntmps61
  go_wp2_with (first | ((with_reducible refine gD_ (N := 2) rfl ?_); refine bE_ ?hg (N := 2) ?hd (cs := #[.slice none 0 0]) (t := 36) ?hr ?_; (case hd => rfl); (case hg => rfl); (case hr => (go_simp; done)); intro gb355 hg w4 hbox hb; have BK355 := aM_ (hbox); have GW355 := aM_ ((by rw [hg]; exact (bZ_ HB.out) : w.heap.size ≤ gb355)); have GE355 := GW355; replace HB := aM_ (bT_ HB.out hb); clear hb hbox hg) | ((with_reducible refine gC_ (f := 82) rfl ?_); refine goesL_ (some 6) rfl rfl Tryz.func82 (by kernel_rfl) rfl #[.slice A0 l0.length c0] rfl (by (try simp only [sD_, sE_, sF_]); rfl) ?_; (with_reducible refine (impl_set.calls _ _ l0 t356 _ ?side1 ?side2 A2.out).mono ?_); (case side1 => repeat (first | exact (k4_ HR0.out HB.out) | (with_reducible refine Kd.C_alloc ?_ _) | (with_reducible refine Kd.C_drewN ?_ _) | (with_reducible refine Kd.C_drew ?_))); (case side2 => exact HC0.out); rintro e w5 ⟨v357, rfl, ho0, hb⟩; refine ⟨_, rfl, ?_⟩; have HO358 := aM_ (k5_ ho0 (bZ_ HB.out)); replace BK355 := aM_ (bB_ BK355.out hb); replace HB := aM_ (bT_ HB.out hb); (try clear hb); (try clear ho0); obtain ⟨Ao6, co6, eo6⟩ := kS_ HO358.out; subst eo6; have hcz7_0 : w5.cell? ⟨gb355, 0, none⟩ = some (.slice none 0 0) := (bC_ BK355.out 0).trans rfl; have hfz7_0 := bF_ BK355.out 0))
  refine bodyPost_ret (results_ct rfl _ _ gb355 36 #[.slice none 0 0] (0, 0) _ rfl (by refine bP_ (cs := #[.slice none 0 0]) ?_ 0 _ rfl; exact BK355.out) Tryz.underlying36 rfl (by kernel_rfl)) rfl ?_
  exact ⟨_, by rfl, by exact Kd.R_nil _ _ _ _ _, by repeat (first | (with_reducible first | exact HB.out | apply bA_ | apply bN_ | apply bD_ | refine bS_ ?_ GE355.out) | exact HB.out)⟩
 ·
  rw [if_neg c3] at H
  have c3b0 := decide_eq_false c3
  have c3b1 : decide (40 < t356.length) = false := decide_eq_false (by omega)
  clear c3
  replace H := oB_.mp H
  obtain ⟨t359, A80, H⟩ := H
  try dsimp only at H
  have A8 := aM_ A80
  clear A80
  simp only [Option.some.injEq, Prod.mk.injEq] at H
  obtain ⟨rfl, rfl⟩ := H
  go_enter Tryz.func61, Tryz.ntmps61
  go_wp2_with (first | ((with_reducible refine gD_ (N := 2) rfl ?_); refine bE_ ?hg (N := 2) ?hd (cs := #[.slice none 0 0]) (t := 36) ?hr ?_; (case hd => rfl); (case hg => rfl); (case hr => (go_simp; done)); intro gb355 hg w9 hbox hb; have BK355 := aM_ (hbox); have GW355 := aM_ ((by rw [hg]; exact (bZ_ HB.out) : w.heap.size ≤ gb355)); have GE355 := GW355; replace HB := aM_ (bT_ HB.out hb); clear hb hbox hg) | ((with_reducible refine gC_ (f := 82) rfl ?_); refine goesL_ (some 6) rfl rfl Tryz.func82 (by kernel_rfl) rfl #[.slice A0 l0.length c0] rfl (by (try simp only [sD_, sE_, sF_]); rfl) ?_; (with_reducible refine (impl_set.calls _ _ l0 t356 _ ?side1 ?side2 A2.out).mono ?_); (case side1 => repeat (first | exact (k4_ HR0.out HB.out) | (with_reducible refine Kd.C_alloc ?_ _) | (with_reducible refine Kd.C_drewN ?_ _) | (with_reducible refine Kd.C_drew ?_))); (case side2 => exact HC0.out); rintro e w10 ⟨v357, rfl, ho0, hb⟩; refine ⟨_, rfl, ?_⟩; have HO358 := aM_ (k5_ ho0 (bZ_ HB.out)); replace BK355 := aM_ (bB_ BK355.out hb); replace HB := aM_ (bT_ HB.out hb); (try clear hb); (try clear ho0); obtain ⟨Ao11, co11, eo11⟩ := kS_ HO358.out; subst eo11) | ((with_reducible refine gC_ (f := 79) rfl ?_); refine goesL_ (some 12) rfl rfl Tryz.func79 (by kernel_rfl) rfl #[.slice Ao11 t356.length co11] rfl (by (try simp only [sD_, sE_, sF_]); rfl) ?_; (with_reducible refine (impl_trieOf.calls k _ _ t356 t359 _ ?side1 ?side2 A8.out).mono ?_); (case side1 => repeat (first | exact (kR_ HO358.out).2.2 | (with_reducible refine Kd.C_alloc ?_ _) | (with_reducible refine Kd.C_drewN ?_ _) | (with_reducible refine Kd.C_drew ?_))); (case side2 => exact (kR_ HO358.out).2.1); rintro e w12 ⟨v360, rfl, ho0, hb⟩; refine ⟨_, rfl, ?_⟩; replace HO358 := aM_ (kB_ HO358.out hb); have HO361 := aM_ (k5_ ho0 (bZ_ HB.out)); replace BK355 := aM_ (bB_ BK355.out hb); replace HB := aM_ (bT_ HB.out hb); (try clear hb); (try clear ho0); obtain ⟨Ao13, co13, eo13⟩ := kS_ HO361.out; subst eo13; have hcz14_0 : w12.cell? ⟨gb355, 0, none⟩ = some (.slice none 0 0) := (bC_ BK355.out 0).trans rfl; have hfz14_0 := bF_ BK355.out 0))
  refine bodyPost_ret (results_ct rfl _ _ gb355 36 #[.slice Ao13 t359.length co13] (0, 0) _ rfl (by refine bP_ (cs := #[.slice none 0 0]) ?_ 0 _ rfl; exact BK355.out) Tryz.underlying36 rfl (by kernel_rfl)) rfl ?_
  exact ⟨_, by rfl, by exact kM_ (kF_ (p := ⟨gb355, 0, none⟩) (kT_ HO361.out BK355.out (by decide)) (fun _ hk => hk.2) (.slice Ao13 t359.length co13)) (fun _ hk => trivial), by repeat (first | (with_reducible first | exact HB.out | apply bA_ | apply bN_ | apply bD_ | refine bS_ ?_ GE355.out) | exact HB.out)⟩
end Go.Proofs.YtfhffcefpnkllaaGreatDoor.P
namespace Go.Proofs.YtfhffcefpnkllaaGreatDoor.P
open Go.RowKit Go.Proofs.YtfhffcefpnkllaaGreatDoorW.PrintWords Go.Proofs.YtfhffcefpnkllaaGreatDoorW.PrintLast Go.Proofs.YtfhffcefpnkllaaGreatDoorW.PrintMore
attribute [local go_sem] max2_int min2_int max_two min_two max_three min_three max_four min_four
theorem eqA60 (d : Nat) (w : World) (x0 y0 : ByteArray) (x1 y1 : Int) (x2 y2 : Bool) :
    (Op.equalIn (d + 2) 60 (.agg #[.string x0, .int .i64 x1, .bool x2]) (.agg #[.string y0, .int .i64 y1, .bool y2])).run Tryz.prog w = .ok (x0.toList == y0.toList && (x1 == y1 && (x2 == y2))) w := by
  refine eqA_of Tryz.underlying60 (by kernel_rfl) ?_
  refine eqf_cons (by rfl) (by go_simp; rfl) (by go_simp; rfl) (by go_simp) ?_
  refine eqf_cons (by rfl) (by go_simp; rfl) (by go_simp; rfl) (by go_simp) ?_
  exact eqf_last (by rfl) (by go_simp; rfl) (by go_simp; rfl) (by go_simp)
end Go.Proofs.YtfhffcefpnkllaaGreatDoor.P
namespace Go.Proofs.YtfhffcefpnkllaaGreatDoor.P
open Go.RowKit Go.Proofs.YtfhffcefpnkllaaGreatDoorW.PrintWords Go.Proofs.YtfhffcefpnkllaaGreatDoorW.PrintLast Go.Proofs.YtfhffcefpnkllaaGreatDoorW.PrintMore
open Go.Proofs.YtfhffcefpnkllaaGreatDoorW.PrintWords renaming blk_frozen → bF_, blk_cell → bC_, below_set → bS_, blk_below → bB_, below_step → bT_, pw_below_drewN → bN_, below_size → bZ_, below_drew1 → bD_, below_alloc → bA_, blk_far → bR_, gate_callee → gC_, gate_dst → gD_, box_event → bE_, blk_drew → b1_, blk_put → bP_, blk_drewN → b2_, blk_alloc → b3_, blk_lt → bL_, cell_far → cF_
open Go.Proofs.YtfhffcefpnkllaaGreatDoorW.PrintLast renaming any_of → aO_, i64_w → i6_, i32_w → i3_, take_ofW → tW_
open Go.Proofs.YtfhffcefpnkllaaGreatDoorW.PrintWords.Kd renaming R_below → kB_, R_mono → kM_, R_far → kF_, R_reads' → kR_, R_types → kT_, R_slice → kS_, R_celln → kC_, R_alloc → k1_, R_drewN → k2_, R_drew → k3_, C_below → k4_, R_lower → k5_, R_ne → k6_, own_blk → k7_
open Go.Proofs.YtfhffcefpnkllaaGreatDoorW.PrintWords.LeO renaming none → l0_, bind → l1_, ite → l2_, refl → l3_
open World renaming block_lt_of_cell? → wB_
open _root_.Option renaming bind_eq_some_iff → oB_
open _root_.ByteArray renaming empty → eB_
open List renaming setIfInBounds_toArray → sA_, set_cons_zero → sB_, set_cons_succ → sC_, map_toArray → sD_, map_cons → sE_, map_nil → sF_, length_drop → sG_, length_take → sH_
open Bool renaming true → ty, false → fy
open Aside0 renaming mk → aM_
attribute [local go_sem] max2_int min2_int max_two min_two max_three min_three max_four min_four
attribute [local go_sem high] eqA60
def impl_Branch.l0 : Nat → List (S60) → List (S60) → Int → Int → Option (Bool)
 | 0, _, _, _, _ => none
 | k + 1, x0, x1, x12, x13 => if x13 < x12 then (if 0 ≤ x13 then (if x13 < (x0.length : Int) then (if x13 < (x1.length : Int) then (if (!((((rd_T60 x0 x13).f0).toList) == (((rd_T60 x1 x13).f0).toList)) || (!(((rd_T60 x0 x13).f1) == ((rd_T60 x1 x13).f1)) || (!(((rd_T60 x0 x13).f2) == ((rd_T60 x1 x13).f2))))) = true then (some false) else (impl_Branch.l0 k x0 x1 x12 (wrap64 (x13 + 1)))) else (none)) else (none)) else (none)) else (some true)
def impl_Branch.f (k : Nat) (l0 : List (S60)) (l1 : List (S60)) : Option (Bool) := if (l0.length : Int) = (l1.length : Int) then (impl_Branch.l0 k l0 l1 (l0.length : Int) 0) else (some false)
theorem impl_Branch.mono_l : ∀ k, (∀ y0 y1 y2 y3, LeO (impl_Branch.l0 k y0 y1 y2 y3) (impl_Branch.l0 (k + 1) y0 y1 y2 y3))
 | 0 => fun _ _ _ _ r h => by simp [impl_Branch.l0] at h
 | k + 1 => by
  have ih0 := impl_Branch.mono_l k
  ·
   intro y0 y1 y2 y3
   unfold impl_Branch.l0
   repeat' first
   | (with_reducible exact ih0 _ _ _ _)
   | (with_reducible exact l3_ _)
   | (with_reducible exact l0_ _)
   | (with_reducible refine l2_ ?_ ?_)
   | (with_reducible refine l1_ ?_ (fun _ => ?_))
   | exact ih0 _ _ _ _
   | exact l0_ _
   | refine l2_ ?_ ?_
   | refine l1_ ?_ (fun _ => ?_)
theorem impl_Branch.mono : ∀ a0 a1 k, LeO (impl_Branch.f k a0 a1) (impl_Branch.f (k + 1) a0 a1) := by
 intro a0 a1 k
 have ih0 := impl_Branch.mono_l k
 unfold impl_Branch.f
 repeat' first
   | (with_reducible exact ih0 _ _ _ _)
   | (with_reducible exact l3_ _)
   | (with_reducible exact l0_ _)
   | (with_reducible refine l2_ ?_ ?_)
   | (with_reducible refine l1_ ?_ (fun _ => ?_))
   | exact ih0 _ _ _ _
   | exact l0_ _
   | refine l2_ ?_ ?_
   | refine l1_ ?_ (fun _ => ?_)
theorem impl_Branch.calls (k : Nat) (A0 : Option Addr) (c0 : Nat) (l0 : List (S60)) (A1 : Option Addr) (c1 : Nat) (l1 : List (S60)) (r : Bool) (w : World) (hr0 : Kd.C k60 w A0 l0.length l0) (hc0 : l0.length ≤ c0) (hr1 : Kd.C k60 w A1 l1.length l1) (hc1 : l1.length ≤ c1) (h : impl_Branch.f k l0 l1 = some r) :
  Calls Tryz.prog 62 #[.slice A0 l0.length c0, .slice A1 l1.length c1] w fun e w' => e = .returned (.bool r) ∧ Drawn0 w w' := by
 have hu60 := Tryz.underlying60
 have HR0 := aM_ hr0
 have HC0 := aM_ hc0
 clear hr0 hc0
 have HR1 := aM_ hr1
 have HC1 := aM_ hc1
 clear hr1 hc1
 have H : (if (l0.length : Int) = (l1.length : Int) then (impl_Branch.l0 k l0 l1 (l0.length : Int) 0) else (some false)) = some r := h
 clear h
 by_cases c3 : (l0.length : Int) = (l1.length : Int)
 ·
  rw [if_pos c3] at H
  have c3b0 : ((l0.length : Int) == (l1.length : Int)) = true := beq_iff_eq.mpr c3
  have c3b1 : ((l0.length : Int) != (l1.length : Int)) = false := bne_eq_false_iff_eq.mpr c3
  have c3b2 : (l0.length == l1.length) = true := by first | simpa using c3 | (simp at c3 ⊢; omega)
  clear c3
  have H' := aM_ H
  clear H
  go_enter Tryz.func62, Tryz.ntmps62
  go_wp2
  repeat (go_quiet (fail); try go_wp2)
  go_loopg [13] k (fun kq v13 w' => ∃ (x13_1 : Int), v13 = .int .i64 x13_1 ∧ Aside0 (impl_Branch.l0 kq l0 l1 (l0.length : Int) x13_1 = some r) ∧ Aside0 (kq ≤ k) ∧ Drawn0 w w')
  case atStart => exact ⟨(0), (by rfl), H', ⟨Nat.le_refl _⟩, by repeat (first | exact Drawn0.refl _ | apply Drawn0.step)⟩
  case round =>
   clear H'
   try clear p2
   try clear c3b0
   try clear c3b1
   try clear c3b2
   obtain ⟨x13_1, rfl, HA, HK1, ⟨m1, rfl⟩⟩ := hrel
   cases gk with
   | zero => exact absurd HA.out (by simp [impl_Branch.l0])
   | succ k1 =>
    have H := HA.out
    clear HA
    simp only [impl_Branch.l0] at H
    by_cases c4 : x13_1 < (l0.length : Int)
    ·
     rw [if_pos c4] at H
     have c4b0 := decide_eq_true c4
     clear c4
     by_cases c5 : 0 ≤ x13_1
     ·
      rw [if_pos c5] at H
      have c5b0 := decide_eq_true c5
      clear c5
      by_cases c6 : x13_1 < (l0.length : Int)
      ·
       rw [if_pos c6] at H
       have c6b0 := decide_eq_true c6
       clear c6
       by_cases c7 : x13_1 < (l1.length : Int)
       ·
        rw [if_pos c7] at H
        have c7b0 := decide_eq_true c7
        clear c7
        by_cases c8 : (!((((rd_T60 l0 x13_1).f0).toList) == (((rd_T60 l1 x13_1).f0).toList)) || (!(((rd_T60 l0 x13_1).f1) == ((rd_T60 l1 x13_1).f1)) || (!(((rd_T60 l0 x13_1).f2) == ((rd_T60 l1 x13_1).f2))))) = true
        ·
         rw [if_pos c8] at H
         have c8b0 : (!((((rd_T60 l0 x13_1).f0).toList) == (((rd_T60 l1 x13_1).f0).toList)) || (!(((rd_T60 l0 x13_1).f1) == ((rd_T60 l1 x13_1).f1)) || (!(((rd_T60 l0 x13_1).f2) == ((rd_T60 l1 x13_1).f2))))) = true := c8
         clear c8
         obtain rfl := Option.some.inj H
         have p362 : 0 ≤ (x13_1 : Int) := of_decide_eq_true (by (with_reducible assumption))
         have q362 : x13_1 < (l0.length : Int) := of_decide_eq_true (by (with_reducible assumption))
         obtain ⟨ad362, e362, hx362_0, hx362_1, hx362_2⟩ := at_T60 HR0.out x13_1 p362 q362
         cases e362
         replace p362 := eq_true p362
         replace q362 := eq_true q362
         have p363 : 0 ≤ (x13_1 : Int) := of_decide_eq_true (by (with_reducible assumption))
         have q363 : x13_1 < (l1.length : Int) := of_decide_eq_true (by (with_reducible assumption))
         obtain ⟨ad363, e363, hx363_0, hx363_1, hx363_2⟩ := at_T60 HR1.out x13_1 p363 q363
         cases e363
         replace p363 := eq_true p363
         replace q363 := eq_true q363
         go_wp2
         repeat (go_quiet (fail); try go_wp2)
         go_ret
         exact ⟨by rfl, by repeat (first | exact Drawn0.refl _ | apply Drawn0.step)⟩
        ·
         rw [if_neg c8] at H
         have c8b0 : (!((((rd_T60 l0 x13_1).f0).toList) == (((rd_T60 l1 x13_1).f0).toList)) || (!(((rd_T60 l0 x13_1).f1) == ((rd_T60 l1 x13_1).f1)) || (!(((rd_T60 l0 x13_1).f2) == ((rd_T60 l1 x13_1).f2))))) = false := by simpa using c8
         clear c8
         have H' := aM_ H
         clear H
         have p362 : 0 ≤ (x13_1 : Int) := of_decide_eq_true (by (with_reducible assumption))
         have q362 : x13_1 < (l0.length : Int) := of_decide_eq_true (by (with_reducible assumption))
         obtain ⟨ad362, e362, hx362_0, hx362_1, hx362_2⟩ := at_T60 HR0.out x13_1 p362 q362
         cases e362
         replace p362 := eq_true p362
         replace q362 := eq_true q362
         have p363 : 0 ≤ (x13_1 : Int) := of_decide_eq_true (by (with_reducible assumption))
         have q363 : x13_1 < (l1.length : Int) := of_decide_eq_true (by (with_reducible assumption))
         obtain ⟨ad363, e363, hx363_0, hx363_1, hx363_2⟩ := at_T60 HR1.out x13_1 p363 q363
         cases e363
         replace p363 := eq_true p363
         replace q363 := eq_true q363
         go_wp2
         repeat (go_quiet (fail); try go_wp2)
         go_roundg k1
         case measure => have := HK1.out; omega
         case rel => exact ⟨(wrap64 (x13_1 + 1)), (by rfl), H', ⟨by have := HK1.out; omega⟩, by repeat (first | exact Drawn0.refl _ | apply Drawn0.step)⟩
       ·
        rw [if_neg c7] at H
        exact absurd H (by simp)
      ·
       rw [if_neg c6] at H
       exact absurd H (by simp)
     ·
      rw [if_neg c5] at H
      exact absurd H (by simp)
    ·
     rw [if_neg c4] at H
     have c4b0 := decide_eq_false c4
     clear c4
     obtain rfl := Option.some.inj H
     go_wp2
     repeat (go_quiet (fail); try go_wp2)
     go_ret
     exact ⟨by rfl, by repeat (first | exact Drawn0.refl _ | apply Drawn0.step)⟩
 ·
  rw [if_neg c3] at H
  have c3b0 : ((l0.length : Int) == (l1.length : Int)) = false := beq_eq_false_iff_ne.mpr c3
  have c3b1 : ((l0.length : Int) != (l1.length : Int)) = true := bne_iff_ne.mpr c3
  have c3b2 : (l0.length == l1.length) = false := by first | simpa using c3 | (simp at c3 ⊢; omega)
  obtain rfl := Option.some.inj H
  go_enter Tryz.func62, Tryz.ntmps62
  go_wp2
  repeat (go_quiet (fail); try go_wp2)
  go_ret
  exact ⟨by rfl, by repeat (first | exact Drawn0.refl _ | apply Drawn0.step)⟩
end Go.Proofs.YtfhffcefpnkllaaGreatDoor.P
namespace Go.Proofs.YtfhffcefpnkllaaGreatDoor.P
open Go.RowKit Go.Proofs.YtfhffcefpnkllaaGreatDoorW.PrintWords Go.Proofs.YtfhffcefpnkllaaGreatDoorW.PrintLast Go.Proofs.YtfhffcefpnkllaaGreatDoorW.PrintMore
open Go.Proofs.YtfhffcefpnkllaaGreatDoorW.PrintWords renaming blk_frozen → bF_, blk_cell → bC_, below_set → bS_, blk_below → bB_, below_step → bT_, pw_below_drewN → bN_, below_size → bZ_, below_drew1 → bD_, below_alloc → bA_, blk_far → bR_, gate_callee → gC_, gate_dst → gD_, box_event → bE_, blk_drew → b1_, blk_put → bP_, blk_drewN → b2_, blk_alloc → b3_, blk_lt → bL_, cell_far → cF_
open Go.Proofs.YtfhffcefpnkllaaGreatDoorW.PrintLast renaming any_of → aO_, i64_w → i6_, i32_w → i3_, take_ofW → tW_
open Go.Proofs.YtfhffcefpnkllaaGreatDoorW.PrintWords.Kd renaming R_below → kB_, R_mono → kM_, R_far → kF_, R_reads' → kR_, R_types → kT_, R_slice → kS_, R_celln → kC_, R_alloc → k1_, R_drewN → k2_, R_drew → k3_, C_below → k4_, R_lower → k5_, R_ne → k6_, own_blk → k7_
open Go.Proofs.YtfhffcefpnkllaaGreatDoorW.PrintWords.LeO renaming none → l0_, bind → l1_, ite → l2_, refl → l3_
open World renaming block_lt_of_cell? → wB_
open _root_.Option renaming bind_eq_some_iff → oB_
open _root_.ByteArray renaming empty → eB_
open List renaming setIfInBounds_toArray → sA_, set_cons_zero → sB_, set_cons_succ → sC_, map_toArray → sD_, map_cons → sE_, map_nil → sF_, length_drop → sG_, length_take → sH_
open Bool renaming true → ty, false → fy
open Aside0 renaming mk → aM_
attribute [local go_sem] max2_int min2_int max_two min_two max_three min_three max_four min_four
def impl_letter.f (a0 : Int) : Option (ByteArray) := some (strOfNums (([(wrap64 (97 + a0)) % 256] : List Int)))
theorem impl_letter.calls (a0 : Int) (r : ByteArray) (w : World) (h : impl_letter.f a0 = some r) :
  Calls Tryz.prog 98 #[.int .i64 a0] w fun e w' => e = .returned (.string r) ∧ Below w.heap.size w w' := by
 have HB := aM_ (Below.refl w.heap.size w)
 have H : (some (strOfNums (([(wrap64 (97 + a0)) % 256] : List Int)))) = some r := h
 clear h
 obtain ⟨y364, hy364⟩ : ∃ y_ : List Int, y_ = (([(wrap64 (97 + a0)) % 256] : List Int)) := ⟨_, rfl⟩
 replace H : (some (strOfNums y364)) = some r := by first | (rw [hy364]; with_reducible exact H) | (have H2_ := (Option.bind_some _ _).symm.trans H; rw [hy364]; with_reducible exact H2_) | (have H2_ := (Option.bind_some _ _).symm.trans H; with_reducible exact H2_) | with_reducible exact H | (rw [hy364]; exact H) | exact H
 have Ny364 := aM_ hy364
 clear hy364
 obtain rfl := Option.some.inj H
 go_enter Tryz.func98, Tryz.ntmps98
 go_wp2_with (first | ((with_reducible refine gD_ (N := 6) rfl ?_); refine Kd.R_lit (Kd.int .u8) _ 5 ?hg (N := 6) ?hd (xs := ([(wrap64 (97 + a0)) % 256] : List Int)) (inner := [.int .u8 ((wrap64 (97 + a0)) % 256)]) (ok := fun _ => True) (okp := fun _ => True) ?hr ?hp (fun _ hk => hk) trivial (Below.refl _ _) (Nat.le_refl _) (by simp) ?_; (case hd => rfl); (case hg => rfl); (case hr => (go_simp; done)); (case hp => exact (Reps.one (show Kd.M (Kd.int .u8) _ _ _ ((wrap64 (97 + a0)) % 256) [.int .u8 ((wrap64 (97 + a0)) % 256)] from rfl) (Reps.none _ _))); intro v365 w2 ho3 hb hg_ hnew_; clear hg_ hnew_; (rw [← Ny364.out] at ho3); have HO366 := aM_ (k5_ ho3 (bZ_ HB.out)); replace HB := aM_ (bT_ HB.out hb); clear hb ho3; have hcv4 := own_string (P := Tryz.prog) Tryz.underlying93 Tryz.underlying5 Tryz.underlying9 (Kd.own_of_R HO366.out)))
 go_ret
 exact ⟨by rfl, by exact HB.out⟩
def impl_Trie_prefixes.l0 : Nat → List ByteArray → List (S76) → Int → Int → Option (List ByteArray × Bool)
 | 0, _, _, _, _ => none
 | k + 1, x4, x15, x16, x17 => if x17 < x16 then (if 0 ≤ x17 then (if x17 < (x15.length : Int) then ((impl_in.f ((rd_T76 x15 x17).f1) 0 x17).bind fun t378 => (if t378 = true then ((impl_in.f ((rd_T76 x15 x17).f0) 0 25).bind fun t379 => (if t379 = true then (if 0 ≤ ((rd_T76 x15 x17).f1) then (if ((rd_T76 x15 x17).f1) < (x4.length : Int) then ((impl_letter.f ((rd_T76 x15 x17).f0)).bind fun t381 => (if (rdOf eB_ x4 ((rd_T76 x15 x17).f1)).size + t381.size ≤ 9223372036854775807 then (if x4.length < 8796093022208 then (impl_Trie_prefixes.l0 k (x4 ++ [(rdOf eB_ x4 ((rd_T76 x15 x17).f1)) ++ t381]) x15 x16 (wrap64 (x17 + 1))) else (none)) else (none))) else (none)) else (none)) else (some (([] : List ByteArray), false)))) else (some (([] : List ByteArray), false)))) else (none)) else (none)) else (some (x4, true))
def impl_Trie_prefixes.f (k : Nat) (l0_0 : List (S76)) : Option (List ByteArray × Bool) := (impl_in.f (l0_0.length : Int) 1 481).bind fun t371 => (if t371 = true then (if 1 ≤ (l0_0.length : Int) then ((some (l0_0.drop 1 : List (S76))).bind fun y372 => (impl_Trie_prefixes.l0 k (([(⟨#[]⟩ : ByteArray)] : List ByteArray)) y372 (y372.length : Int) 0)) else (none)) else (some (([] : List ByteArray), false)))
theorem impl_Trie_prefixes.mono_l : ∀ k, (∀ y0 y1 y2 y3, LeO (impl_Trie_prefixes.l0 k y0 y1 y2 y3) (impl_Trie_prefixes.l0 (k + 1) y0 y1 y2 y3))
 | 0 => fun _ _ _ _ r h => by simp [impl_Trie_prefixes.l0] at h
 | k + 1 => by
  have ih0 := impl_Trie_prefixes.mono_l k
  ·
   intro y0 y1 y2 y3
   unfold impl_Trie_prefixes.l0
   repeat' first
   | (with_reducible exact ih0 _ _ _ _)
   | (with_reducible exact l3_ _)
   | (with_reducible exact l0_ _)
   | (with_reducible refine l2_ ?_ ?_)
   | (with_reducible refine l1_ ?_ (fun _ => ?_))
   | exact ih0 _ _ _ _
   | exact l0_ _
   | refine l2_ ?_ ?_
   | refine l1_ ?_ (fun _ => ?_)
theorem impl_Trie_prefixes.mono : ∀ a0 k, LeO (impl_Trie_prefixes.f k a0) (impl_Trie_prefixes.f (k + 1) a0) := by
 intro a0 k
 have ih0 := impl_Trie_prefixes.mono_l k
 unfold impl_Trie_prefixes.f
 repeat' first
   | (with_reducible exact ih0 _ _ _ _)
   | (with_reducible exact l3_ _)
   | (with_reducible exact l0_ _)
   | (with_reducible refine l2_ ?_ ?_)
   | (with_reducible refine l1_ ?_ (fun _ => ?_))
   | exact ih0 _ _ _ _
   | exact l0_ _
   | refine l2_ ?_ ?_
   | refine l1_ ?_ (fun _ => ?_)
def impl_Trie_prefixes.T9 : Bool × List (List Nat × List Nat) := (true, [([], []), ([], []), ([], []), ([2], [2]), ([1, 3], [1, 3]), ([4], [4]), ([], []), ([6], [6]), ([7], [7]), ([5, 8], [5, 8]), ([9], [9]), ([0, 10, 8], [0, 10]), ([11, 11, 0, 1, 2, 3, 4, 5, 6, 7, 8, 9, 10, 11], [0, 1, 11])])
def impl_Trie_prefixes.B9 : List Nat := [0, 0, 0, 4, 14, 30, 0, 64, 192, 510, 1022, 2047, 4095]
theorem impl_Trie_prefixes.tab9 : rtab .any (opsOf Tryz.f83 9) = impl_Trie_prefixes.T9 := by kernel_rfl
theorem impl_Trie_prefixes.bits9 : waitsOk impl_Trie_prefixes.T9.2 impl_Trie_prefixes.B9 = true := by kernel_rfl
theorem impl_Trie_prefixes.calls (k : Nat) (A0_0 : Option Addr) (c0_0 : Nat) (l0_0 : List (S76)) (r1 : List ByteArray) (r2 : Bool) (w : World) (hr0_0 : Kd.C k76 w A0_0 l0_0.length l0_0) (hc0_0 : l0_0.length ≤ c0_0) (h : impl_Trie_prefixes.f k l0_0 = some (r1, r2)) :
  Calls Tryz.prog 83 #[.agg #[.slice A0_0 l0_0.length c0_0]] w fun e w' => ∃ v0_ : Value, e = .returned (.tuple #[v0_, .bool r2]) ∧ Kd.R Kd.string 9 w' w.heap.size (fun _ => True) v0_ r1 ∧ Below w.heap.size w w' := by
 have hu36 := Tryz.underlying36
 have hu76 := Tryz.underlying76
 have HR0_0 := aM_ hr0_0
 have HC0_0 := aM_ hc0_0
 clear hr0_0 hc0_0
 have HB := aM_ (Below.refl w.heap.size w)
 have H : ((impl_in.f (l0_0.length : Int) 1 481).bind fun t371 => (if t371 = true then (if 1 ≤ (l0_0.length : Int) then ((some (l0_0.drop 1 : List (S76))).bind fun y372 => (impl_Trie_prefixes.l0 k (([(⟨#[]⟩ : ByteArray)] : List ByteArray)) y372 (y372.length : Int) 0)) else (none)) else (some (([] : List ByteArray), false)))) = some (r1, r2) := h
 clear h
 obtain ⟨y368, hy368⟩ : ∃ y_ : List ByteArray, y_ = (([(⟨#[]⟩ : ByteArray)] : List ByteArray)) := ⟨_, rfl⟩
 replace H : ((impl_in.f (l0_0.length : Int) 1 481).bind fun t371 => (if t371 = true then (if 1 ≤ (l0_0.length : Int) then ((some (l0_0.drop 1 : List (S76))).bind fun y372 => (impl_Trie_prefixes.l0 k y368 y372 (y372.length : Int) 0)) else (none)) else (some (([] : List ByteArray), false)))) = some (r1, r2) := by first | (rw [hy368]; with_reducible exact H) | (have H2_ := (Option.bind_some _ _).symm.trans H; rw [hy368]; with_reducible exact H2_) | (have H2_ := (Option.bind_some _ _).symm.trans H; with_reducible exact H2_) | with_reducible exact H | (rw [hy368]; exact H) | exact H
 have Ny368 := aM_ hy368
 clear hy368
 replace H := oB_.mp H
 obtain ⟨t371, A20, H⟩ := H
 try dsimp only at H
 have A2 := aM_ A20
 clear A20
 by_cases c3 : t371 = true
 ·
  subst c3
  rw [if_pos rfl] at H
  by_cases c4 : 1 ≤ (l0_0.length : Int)
  rotate_left
  ·
   rw [if_neg c4] at H
   exact absurd H (by simp)
  rw [if_pos c4] at H
  have c4b0 := eq_true c4
  have c4b1 := decide_eq_true c4
  clear c4
  obtain ⟨y372, hy372⟩ : ∃ y_ : List (S76), y_ = (l0_0.drop 1) := ⟨_, rfl⟩
  replace H : (impl_Trie_prefixes.l0 k y368 y372 (y372.length : Int) 0) = some (r1, r2) := by first | (rw [hy372]; with_reducible exact H) | (have H2_ := (Option.bind_some _ _).symm.trans H; rw [hy372]; with_reducible exact H2_) | (have H2_ := (Option.bind_some _ _).symm.trans H; with_reducible exact H2_) | with_reducible exact H | (rw [hy372]; exact H) | exact H
  have Ny372 := aM_ hy372
  clear hy372
  have H' := aM_ H
  clear H
  go_enter Tryz.func83, Tryz.ntmps83
  go_wp2_with (first | ((with_reducible refine gD_ (N := 1) rfl ?_); refine bE_ ?hg (N := 1) ?hd (cs := #[.slice A0_0 l0_0.length c0_0]) (t := 36) ?hr ?_; (case hd => rfl); (case hg => rfl); (case hr => (go_simp; done)); intro gb367 hg w5 hbox hb; have BK367 := aM_ (hbox); have GW367 := aM_ ((by rw [hg]; exact (bZ_ HB.out) : w.heap.size ≤ gb367)); have GE367 := GW367; replace HB := aM_ (bT_ HB.out hb); clear hb hbox hg) | ((with_reducible refine gD_ (N := 7) rfl ?_); refine Kd.R_lit Kd.string _ 9 ?hg (N := 7) ?hd (xs := ([(⟨#[]⟩ : ByteArray)] : List ByteArray)) (inner := [.string (⟨#[]⟩ : ByteArray)]) (ok := fun _ => True) (okp := fun _ => True) ?hr ?hp (fun _ hk => hk) trivial (Below.refl _ _) (Nat.le_refl _) (by simp) ?_; (case hd => rfl); (case hg => rfl); (case hr => (go_simp; done)); (case hp => exact (Reps.one (show Kd.M Kd.string _ _ _ (⟨#[]⟩ : ByteArray) [.string (⟨#[]⟩ : ByteArray)] from rfl) (Reps.none _ _))); intro v369 w6 ho7 hb hg_ hnew_; clear hg_ hnew_; (rw [← Ny368.out] at ho7); have HO370 := aM_ (k5_ ho7 (bZ_ HB.out)); replace BK367 := aM_ (bB_ BK367.out hb); replace HB := aM_ (bT_ HB.out hb); clear hb ho7; have hcz8_0 : w6.cell? ⟨gb367, 0, none⟩ = some (.slice A0_0 l0_0.length c0_0) := (bC_ BK367.out 0).trans rfl; have hfz8_0 := bF_ BK367.out 0) | ((with_reducible refine gC_ (f := 67) rfl ?_); refine goesL_ (some 11) rfl rfl Tryz.func67 (by kernel_rfl) rfl #[.int .i64 (l0_0.length : Int), .int .i64 1, .int .i64 481] rfl (by (try simp only [sD_, sE_, sF_]); rfl) ?_; (with_reducible refine (impl_in.calls (l0_0.length : Int) 1 481 true _ A2.out).mono ?_); rintro e w' ⟨rfl, ⟨nd, rfl⟩⟩; refine ⟨_, rfl, ?_⟩; have q9 : (1 : Int) ≤ ((l0_0.length : Int) : Int) := of_decide_eq_true (by (with_reducible assumption)); obtain ⟨i09, hi09, _, hsz9, _⟩ := info_parts info76; have hroom9 : l0_0.length ≤ c0_0 := HC0_0.out; have hC9 : Kd.C k76 _ A0_0 l0_0.length l0_0 := HR0_0.out; have hcut9 := cut_from (P := Tryz.prog) 34 76 .i64 Tryz.underlying34 hi09 3 hsz9 A0_0 l0_0.length c0_0 1 (by omega) q9; have hr9 := Kd.C_drop (m := (1 : Int).toNat) (c := c0_0) hC9 (by omega) hroom9; obtain ⟨A9, hA9⟩ : ∃ A1, A1 = (if c0_0 = (1 : Int).toNat then A0_0 else (A0_0 : Option Addr).map (·.add ((1 : Int).toNat * 3))) := ⟨_, rfl⟩; obtain ⟨c9, hc9⟩ : ∃ c1, c1 = c0_0 - (1 : Int).toNat := ⟨_, rfl⟩; have hy9 : y372.length = l0_0.length - (1 : Int).toNat := (by rw [Ny372.out, List.length_drop] <;> omega); rw [show (l0_0).drop (1 : Int).toNat = y372 from Ny372.out.symm] at hr9; replace hr9 : Kd.C k76 _ A9 y372.length y372 := (by rw [hA9]; exact hr9); rw [← hy9, ← hA9, ← hc9] at hcut9; have HR375 := aM_ hr9; have HC375 := aM_ (show y372.length ≤ c9 from by rw [hy9, hc9]; exact Nat.sub_le_sub_right hroom9 _); clear hr9 hC9 hroom9 hi09 hsz9 hc9; have KY9 := aM_ hy9; have KA9 := aM_ hA9; clear hy9 hA9; replace q9 := eq_true q9))
  go_loopg [4, 17] k (fun kq v4 v17 w' => ∃ (x4_1 : List ByteArray) (x17_1 : Int), v17 = .int .i64 x17_1 ∧ Aside0 (impl_Trie_prefixes.l0 kq x4_1 y372 (y372.length : Int) x17_1 = some (r1, r2)) ∧ Aside0 (kq ≤ k) ∧ Aside0 (Kd.R Kd.string 9 w' w.heap.size (fun _ => True) v4 x4_1) ∧ Aside0 (w'.heap[gb367]? = some (.cells #[(.slice A0_0 l0_0.length c0_0)] 36 (0, 0))) ∧ Aside0 (Below w.heap.size w w'))
  case atStart => exact ⟨(y368), (0), (by rfl), H', ⟨Nat.le_refl _⟩, ⟨by (with_reducible repeat (first | apply k1_ | apply k2_ | apply k3_)); exact HO370.out⟩, ⟨by (with_reducible repeat (first | refine b2_ ?_ _ | refine b1_ ?_ | refine b3_ ?_ _)); exact BK367.out⟩, ⟨by repeat (first | (with_reducible first | exact HB.out | apply bA_ | apply bN_ | apply bD_ | refine bS_ ?_ GE367.out) | exact HB.out)⟩⟩
  case round =>
   clear H'
   try clear p2
   try clear c4b0
   try clear c4b1
   try clear q9
   try clear hcz8_0
   try clear hfz8_0
   try clear q9
   obtain ⟨x4_1, x17_1, rfl, HA, HK1, HO_4, BK367, HB⟩ := hrel
   cases gk with
   | zero => exact absurd HA.out (by simp [impl_Trie_prefixes.l0])
   | succ k1 =>
    have H := HA.out
    clear HA
    simp only [impl_Trie_prefixes.l0] at H
    by_cases c10 : x17_1 < (y372.length : Int)
    ·
     rw [if_pos c10] at H
     have c10b0 := decide_eq_true c10
     clear c10
     by_cases c11 : 0 ≤ x17_1
     ·
      rw [if_pos c11] at H
      have c11b0 := decide_eq_true c11
      clear c11
      by_cases c12 : x17_1 < (y372.length : Int)
      ·
       rw [if_pos c12] at H
       have c12b0 := decide_eq_true c12
       clear c12
       replace H := oB_.mp H
       obtain ⟨t378, A130, H⟩ := H
       try dsimp only at H
       have A13 := aM_ A130
       clear A130
       by_cases c14 : t378 = true
       ·
        subst c14
        rw [if_pos rfl] at H
        replace H := oB_.mp H
        obtain ⟨t379, A150, H⟩ := H
        try dsimp only at H
        have A15 := aM_ A150
        clear A150
        by_cases c16 : t379 = true
        ·
         subst c16
         rw [if_pos rfl] at H
         by_cases c17 : 0 ≤ ((rd_T76 y372 x17_1).f1)
         ·
          rw [if_pos c17] at H
          have c17b0 := decide_eq_true c17
          clear c17
          by_cases c18 : ((rd_T76 y372 x17_1).f1) < (x4_1.length : Int)
          ·
           rw [if_pos c18] at H
           have c18b0 := decide_eq_true c18
           clear c18
           replace H := oB_.mp H
           obtain ⟨t381, A190, H⟩ := H
           try dsimp only at H
           have A19 := aM_ A190
           clear A190
           by_cases c20 : (rdOf eB_ x4_1 ((rd_T76 y372 x17_1).f1)).size + t381.size ≤ 9223372036854775807
           ·
            rw [if_pos c20] at H
            have c20b0 := eq_true c20
            have c20b1 := decide_eq_true c20
            try have c20b2 : (9223372036854775807 < (rdOf eB_ x4_1 ((rd_T76 y372 x17_1).f1)).size + t381.size) = False := eq_false (Nat.not_lt.2 c20)
            by_cases c21 : x4_1.length < 8796093022208
            ·
             rw [if_pos c21] at H
             have LMc21 := aM_ c21
             clear c21
             obtain ⟨y382, hy382⟩ : ∃ y_ : List ByteArray, y_ = (x4_1 ++ [(rdOf eB_ x4_1 ((rd_T76 y372 x17_1).f1)) ++ t381]) := ⟨_, rfl⟩
             replace H : (impl_Trie_prefixes.l0 k1 y382 y372 (y372.length : Int) (wrap64 (x17_1 + 1))) = some (r1, r2) := by first | (rw [hy382]; with_reducible exact H) | (have H2_ := (Option.bind_some _ _).symm.trans H; rw [hy382]; with_reducible exact H2_) | (have H2_ := (Option.bind_some _ _).symm.trans H; with_reducible exact H2_) | with_reducible exact H | (rw [hy382]; exact H) | exact H
             have Ny382 := aM_ hy382
             clear hy382
             have H' := aM_ H
             clear H
             have p376 : 0 ≤ (x17_1 : Int) := of_decide_eq_true (by (with_reducible assumption))
             have q376 : x17_1 < (y372.length : Int) := of_decide_eq_true (by (with_reducible assumption))
             obtain ⟨ad376, e376, hx376_0, hx376_1, hx376_2⟩ := at_T76 HR375.out x17_1 p376 q376
             cases e376
             replace hx376_0 := (HB.out.cell (wB_ w _ hx376_0)).trans hx376_0
             replace hx376_1 := (HB.out.cell (wB_ w _ hx376_1)).trans hx376_1
             replace hx376_2 := (HB.out.cell (wB_ w _ hx376_2)).trans hx376_2
             replace p376 := eq_true p376
             replace q376 := eq_true q376
             try go_wp2_with (first | ((with_reducible refine gD_ (N := 6) rfl ?_); refine bE_ ?hg (N := 6) ?hd (cs := #[.int .i64 0, .int .i64 0, .bool false]) (t := 76) ?hr ?_; (case hd => rfl); (case hg => rfl); (case hr => (go_simp; done)); intro gb377 hg w22 hbox hb; replace HO_4 := aM_ (kB_ HO_4.out hb); have BK377 := aM_ (hbox); have GW377 := aM_ ((by rw [hg]; exact (bZ_ HB.out) : w.heap.size ≤ gb377)); have GE377 := GW377; replace HB := aM_ (bT_ HB.out hb); have NB367_377 := aM_ ((by rw [hg]; exact Nat.ne_of_lt (bL_ BK367.out) : gb367 ≠ gb377)); have NB377_367 := aM_ NB367_377.out.symm; replace BK367 := aM_ (bB_ BK367.out hb); clear hb hbox hg; have hnb23 := NB377_367.out; have hnc23 := NB367_377.out; have hcz24_0 : w22.cell? ⟨gb377, 0, none⟩ = some (.int .i64 0) := (bC_ BK377.out 0).trans rfl; have hcz24_1 : w22.cell? ⟨gb377, 1, none⟩ = some (.int .i64 0) := (bC_ BK377.out 1).trans rfl; have hcz24_2 : w22.cell? ⟨gb377, 2, none⟩ = some (.bool false) := (bC_ BK377.out 2).trans rfl; have hfz24_0 := bF_ BK377.out 0; have hfz24_1 := bF_ BK377.out 1; have hfz24_2 := bF_ BK377.out 2) | ((with_reducible refine gC_ (f := 67) rfl ?_); refine goesL_ (some 25) rfl rfl Tryz.func67 (by kernel_rfl) rfl #[.int .i64 ((rd_T76 y372 x17_1).f1), .int .i64 0, .int .i64 x17_1] rfl (by (try simp only [sD_, sE_, sF_]); rfl) ?_; (with_reducible refine (impl_in.calls ((rd_T76 y372 x17_1).f1) 0 x17_1 true _ A13.out).mono ?_); rintro e w' ⟨rfl, ⟨nd, rfl⟩⟩; refine ⟨_, rfl, ?_⟩) | (go_at_call 67; (with_reducible refine (impl_in.calls ((rd_T76 y372 x17_1).f0) 0 25 true _ A15.out).mono ?_); rintro e w' ⟨rfl, ⟨nd, rfl⟩⟩))
             have n0_ : Aside0 (Kd.R Kd.string 9 (((w22.setCell ⟨gb377, 0, none⟩ (.int .i64 ((rd_T76 y372 x17_1).f0))).setCell ⟨gb377, 1, none⟩ (.int .i64 ((rd_T76 y372 x17_1).f1))).setCell ⟨gb377, 2, none⟩ (.bool ((rd_T76 y372 x17_1).f2))) w.heap.size (fun _ => True) u4 x4_1) := ⟨by exact kM_ (kF_ (p := ⟨gb377, 2, none⟩) (kF_ (p := ⟨gb377, 1, none⟩) (kF_ (p := ⟨gb377, 0, none⟩) (kT_ HO_4.out BK377.out (by decide)) (fun _ hk => hk.2) (.int .i64 ((rd_T76 y372 x17_1).f0))) (fun _ hk => hk.2) (.int .i64 ((rd_T76 y372 x17_1).f1))) (fun _ hk => hk.2) (.bool ((rd_T76 y372 x17_1).f2))) (fun _ hk => trivial)⟩
             have n1_ : Aside0 ((((w22.setCell ⟨gb377, 0, none⟩ (.int .i64 ((rd_T76 y372 x17_1).f0))).setCell ⟨gb377, 1, none⟩ (.int .i64 ((rd_T76 y372 x17_1).f1))).setCell ⟨gb377, 2, none⟩ (.bool ((rd_T76 y372 x17_1).f2))).heap[gb367]? = some (.cells #[.slice A0_0 l0_0.length c0_0] 36 (0, 0))) := ⟨by refine bR_ ?_ NB367_377.out _; refine bR_ ?_ NB367_377.out _; refine bR_ ?_ NB367_377.out _; exact BK367.out⟩
             have n2_ : Aside0 ((((w22.setCell ⟨gb377, 0, none⟩ (.int .i64 ((rd_T76 y372 x17_1).f0))).setCell ⟨gb377, 1, none⟩ (.int .i64 ((rd_T76 y372 x17_1).f1))).setCell ⟨gb377, 2, none⟩ (.bool ((rd_T76 y372 x17_1).f2))).heap[gb377]? = some (.cells #[.int .i64 ((rd_T76 y372 x17_1).f0), .int .i64 ((rd_T76 y372 x17_1).f1), .bool ((rd_T76 y372 x17_1).f2)] 76 (0, 0))) := ⟨by refine bP_ (cs := #[.int .i64 ((rd_T76 y372 x17_1).f0), .int .i64 ((rd_T76 y372 x17_1).f1), .bool false]) ?_ 2 _ rfl; refine bP_ (cs := #[.int .i64 ((rd_T76 y372 x17_1).f0), .int .i64 0, .bool false]) ?_ 1 _ rfl; refine bP_ (cs := #[.int .i64 0, .int .i64 0, .bool false]) ?_ 0 _ rfl; exact BK377.out⟩
             have n3_ : Aside0 (Below w.heap.size w (((w22.setCell ⟨gb377, 0, none⟩ (.int .i64 ((rd_T76 y372 x17_1).f0))).setCell ⟨gb377, 1, none⟩ (.int .i64 ((rd_T76 y372 x17_1).f1))).setCell ⟨gb377, 2, none⟩ (.bool ((rd_T76 y372 x17_1).f2)))) := ⟨by repeat (first | (with_reducible first | exact HB.out | apply bA_ | apply bN_ | apply bD_ | refine bS_ ?_ GE367.out | refine bS_ ?_ GE377.out) | exact HB.out)⟩
             (try clear HO_4)
             (try clear BK367)
             (try clear BK377)
             (try clear HB)
             generalize (((w22.setCell ⟨gb377, 0, none⟩ (.int .i64 ((rd_T76 y372 x17_1).f0))).setCell ⟨gb377, 1, none⟩ (.int .i64 ((rd_T76 y372 x17_1).f1))).setCell ⟨gb377, 2, none⟩ (.bool ((rd_T76 y372 x17_1).f2))) = w25 at n0_ n1_ n2_ n3_ ⊢
             have HO_4 := n0_
             have BK367 := n1_
             have BK377 := n2_
             have HB := n3_
             clear n0_ n1_ n2_ n3_
             (try (rw [drewN_self w25]; generalize hq_ : World.drewN w25 _ = w25; have n0_ : Aside0 (Kd.R Kd.string 9 w25 w.heap.size (fun _ => True) u4 x4_1) := ⟨by rw [← hq_]; exact (by (with_reducible repeat (first | apply k1_ | apply k2_ | apply k3_)); exact HO_4.out)⟩; have n1_ : Aside0 (w25.heap[gb367]? = some (.cells #[.slice A0_0 l0_0.length c0_0] 36 (0, 0))) := ⟨by rw [← hq_]; exact (by (with_reducible repeat (first | refine b2_ ?_ _ | refine b1_ ?_ | refine b3_ ?_ _)); exact BK367.out)⟩; have n2_ : Aside0 (w25.heap[gb377]? = some (.cells #[.int .i64 ((rd_T76 y372 x17_1).f0), .int .i64 ((rd_T76 y372 x17_1).f1), .bool ((rd_T76 y372 x17_1).f2)] 76 (0, 0))) := ⟨by rw [← hq_]; exact (by (with_reducible repeat (first | refine b2_ ?_ _ | refine b1_ ?_ | refine b3_ ?_ _)); exact BK377.out)⟩; have n3_ : Aside0 (Below w.heap.size w w25) := ⟨by rw [← hq_]; exact (by repeat (first | (with_reducible first | exact HB.out | apply bA_ | apply bN_ | apply bD_ | refine bS_ ?_ GE367.out | refine bS_ ?_ GE377.out) | exact HB.out))⟩; clear HO_4 BK367 BK377 HB hq_; have HO_4 := n0_; have BK367 := n1_; have BK377 := n2_; have HB := n3_; clear n0_ n1_ n2_ n3_))
             have n0_ := aM_ (k3_ HO_4.out)
             have n1_ := aM_ (b1_ BK367.out)
             have n2_ := aM_ (b1_ BK377.out)
             have n3_ := aM_ (bD_ HB.out)
             clear HO_4
             clear BK367
             clear BK377
             clear HB
             have HO_4 := n0_
             have BK367 := n1_
             have BK377 := n2_
             have HB := n3_
             clear n0_ n1_ n2_ n3_
             obtain ⟨Ao27, co27, eo27⟩ := kS_ HO_4.out
             (subst eo27)
             have p380 : 0 ≤ (((rd_T76 y372 x17_1).f1) : Int) := of_decide_eq_true (by (with_reducible assumption))
             have q380 : ((rd_T76 y372 x17_1).f1) < (x4_1.length : Int) := of_decide_eq_true (by (with_reducible assumption))
             obtain ⟨ad380, e380, hx380_0⟩ := Kd.at_string (kR_ HO_4.out).2.2 ((rd_T76 y372 x17_1).f1) p380 q380
             cases e380
             replace p380 := eq_true p380
             replace q380 := eq_true q380
             refine start_ (n := 13) (S := fun w' => w'.cell? ⟨gb377, 0, none⟩ = some (.int .i64 ((rd_T76 y372 x17_1).f0)) ∧ w'.cell? ⟨gb377, 1, none⟩ = some (.int .i64 ((rd_T76 y372 x17_1).f1)) ∧ w'.cell? ⟨gb377, 2, none⟩ = some (.bool ((rd_T76 y372 x17_1).f2)) ∧ w'.cell? (ad380.add (((rd_T76 y372 x17_1).f1)).toNat) = some (.string (rdOf eB_ x4_1 ((rd_T76 y372 x17_1).f1)))) (ds := [10, 11]) #[fy, fy, fy, fy, fy, fy, fy, fy, fy, fy, fy, fy, fy] (by kernel_rfl) rfl rfl ⟨(bC_ BK377.out 0).trans rfl, (bC_ BK377.out 1).trans rfl, (bC_ BK377.out 2).trans rfl, hx380_0⟩ (fun hHeld => ?_); refine with_tabW impl_Trie_prefixes.tab9 impl_Trie_prefixes.bits9 (fun HT_ HW_ => ?_)
             generalize w25.drew = w26 at HO_4 BK367 BK377 HB hx380_0 hHeld ⊢
             refine pure_ (i := 0) (N := some 33) (v := ?_) (a' := ?_) #[ty, fy, fy, fy, fy, fy, fy, fy, fy, fy, fy, fy, fy] rfl rfl (aO_ HT_.out (by kernel_rfl)) (fun _ _ _ h => h) (Or.inl ⟨by rfl, ?_⟩) ?_ ?_; rotate_left; (intro w'; go_simp; with_reducible rfl); rotate_left; (simp only [Act.put, sA_, sB_, sC_, i6_, i3_]; rfl)
             refine pure_ (i := 1) (N := some 34) (v := ?_) (a' := ?_) #[ty, ty, fy, fy, fy, fy, fy, fy, fy, fy, fy, fy, fy] rfl rfl (aO_ HT_.out (by kernel_rfl)) (fun _ _ _ h => h) (Or.inl ⟨by rfl, ?_⟩) ?_ ?_; rotate_left; (intro w'; go_simp; with_reducible rfl); rotate_left; (simp only [Act.put, sA_, sB_, sC_, i6_, i3_]; rfl)
             refine pure_ (i := 2) (N := some 35) (v := ?_) (a' := ?_) #[ty, ty, ty, fy, fy, fy, fy, fy, fy, fy, fy, fy, fy] rfl rfl (aO_ HT_.out (by kernel_rfl)) (fun _ _ _ h => h) (Or.inl ⟨by rfl, ?_⟩) ?_ ?_; rotate_left; (intro w'; go_simp; with_reducible rfl); rotate_left; (simp only [Act.put, sA_, sB_, sC_, i6_, i3_]; rfl)
             refine pure_ (i := 6) (N := some 39) (v := ?_) (a' := ?_) #[ty, ty, ty, fy, fy, fy, ty, fy, fy, fy, fy, fy, fy] rfl rfl (aO_ HT_.out (by kernel_rfl)) (fun _ _ _ h => h) (Or.inl ⟨by rfl, ?_⟩) ?_ ?_; rotate_left; (intro w'; go_simp; with_reducible rfl); rotate_left; (simp only [Act.put, sA_, sB_, sC_, i6_, i3_]; rfl)
             refine take_ (i := 3) (N := some 36) (v := ?_) (a' := ?_) #[ty, ty, ty, ty, fy, fy, ty, fy, fy, fy, fy, fy, fy] rfl rfl (tW_ HT_.out HW_.out (by kernel_rfl)) (fun _ _ _ h => h) (Or.inl ⟨by rfl, ?_⟩) hHeld ?_ ?_; rotate_left; (rintro w' ⟨s0, s1, s2, s3⟩; go_simp; with_reducible rfl); rotate_left; (simp only [Act.put, sA_, sB_, sC_, i6_, i3_]; rfl)
             refine pure_ (i := 4) (N := some 37) (v := ?_) (a' := ?_) #[ty, ty, ty, ty, ty, fy, ty, fy, fy, fy, fy, fy, fy] rfl rfl (aO_ HT_.out (by kernel_rfl)) (fun _ _ _ h => h) (Or.inl ⟨by rfl, ?_⟩) ?_ ?_; rotate_left; (intro w'; go_simp; with_reducible rfl); rotate_left; (simp only [Act.put, sA_, sB_, sC_, i6_, i3_]; rfl)
             refine take_ (i := 5) (N := some 38) (v := ?_) (a' := ?_) #[ty, ty, ty, ty, ty, ty, ty, fy, fy, fy, fy, fy, fy] rfl rfl (tW_ HT_.out HW_.out (by kernel_rfl)) (fun _ _ _ h => h) (Or.inl ⟨by rfl, ?_⟩) hHeld ?_ ?_; rotate_left; (rintro w' ⟨s0, s1, s2, s3⟩; go_simp; with_reducible rfl); rotate_left; (simp only [Act.put, sA_, sB_, sC_, i6_, i3_]; rfl)
             refine take_ (i := 7) (N := some 40) (v := ?_) (a' := ?_) #[ty, ty, ty, ty, ty, ty, ty, ty, fy, fy, fy, fy, fy] rfl rfl (tW_ HT_.out HW_.out (by kernel_rfl)) (fun _ _ _ h => h) (Or.inl ⟨by rfl, ?_⟩) hHeld ?_ ?_; rotate_left; (rintro w' ⟨s0, s1, s2, s3⟩; go_simp; with_reducible rfl); rotate_left; (simp only [Act.put, sA_, sB_, sC_, i6_, i3_]; rfl)
             refine one_ (i := 8) (N := some 41) #[ty, ty, ty, ty, ty, ty, ty, ty, ty, fy, fy, fy, fy] rfl rfl (one_of HT_.out (by kernel_rfl)) (by decide) (fun K hK => ?_)
             refine goes_ Tryz.func98 (by kernel_rfl) rfl #[.int .i64 ((rd_T76 y372 x17_1).f0)] (by rfl) rfl rfl (by (try simp only [sD_, sE_, sF_]); rfl) ?_
             with_reducible refine (impl_letter.calls ((rd_T76 y372 x17_1).f0) t381 _ A19.out).mono ?_
             rintro e w28 ⟨rfl, hb⟩
             have HS3_ := (hb.cell (wB_ _ _ (hHeld.2.2.2))).trans (hHeld.2.2.2)
             refine ⟨_, rfl, ?_⟩
             have n0_ := aM_ (kB_ HO_4.out hb)
             have n1_ := aM_ (bB_ BK367.out hb)
             have n2_ := aM_ (bB_ BK377.out hb)
             have n3_ := aM_ (bT_ HB.out hb)
             clear HO_4
             clear BK367
             clear BK377
             clear HB
             have HO_4 := n0_
             have BK367 := n1_
             have BK377 := n2_
             have HB := n3_
             clear n0_ n1_ n2_ n3_
             (try clear hb)
             refine hK.out _ _ ⟨(bC_ BK377.out 0).trans rfl, (bC_ BK377.out 1).trans rfl, (bC_ BK377.out 2).trans rfl, HS3_⟩ (fun hHeld => ?_)
             clear hK K
             refine norm_ (a' := ?_) ?_ ?_; rotate_left; (show Act.put _ (some 41) _ = _; simp only [Act.put, sA_, sB_, sC_, i6_, i3_]; rfl)
             refine pure_ (i := 9) (N := some 42) (v := ?_) (a' := ?_) #[ty, ty, ty, ty, ty, ty, ty, ty, ty, ty, fy, fy, fy] rfl rfl (aO_ HT_.out (by kernel_rfl)) (fun _ _ _ h => h) (Or.inl ⟨by rfl, ?_⟩) ?_ ?_; rotate_left; (intro w'; go_simp; with_reducible rfl); rotate_left; (simp only [Act.put, sA_, sB_, sC_, i6_, i3_]; rfl)
             refine last_ (i := 10) (N := some 43) #[ty, ty, ty, ty, ty, ty, ty, ty, ty, ty, ty, fy, fy] rfl rfl (one_of HT_.out (by kernel_rfl)) (by decide) (fun K hK => ?_)
             refine value_ (w1 := ?_) (v := ?_) (by rfl) rfl ?_ ?_
             rotate_left 2
             ·
              go_simp
              constructor
              ·
               rfl
              ·
               rfl
             refine hK.out _ _ ?_
             clear hK K
             refine norm_ (a' := ?_) ?_ ?_; rotate_left; (show Act.put _ (some 43) _ = _; simp only [Act.put, sA_, sB_, sC_, i6_, i3_]; rfl)
             refine last_ (i := 11) (N := some 44) #[ty, ty, ty, ty, ty, ty, ty, ty, ty, ty, ty, ty, fy] rfl rfl (one_of HT_.out (by kernel_rfl)) (by decide) (fun K hK => ?_)
             refine Kd.R_append_step Kd.string (w0 := w) w.heap.size (by rfl) (.tmp 33) (.tmp 43) 49 9 (.string ⟨#[]⟩) 16 rfl Tryz.underlying49 info9 rfl (by decide) (by omega) (.slice (some ad380) x4_1.length co27) x4_1 ((rdOf eB_ x4_1 ((rd_T76 y372 x17_1).f1)) ++ t381) [.string ((rdOf eB_ x4_1 ((rd_T76 y372 x17_1).f1)) ++ t381)] (fun _ => True) (fun _ => False) rfl rfl ?aP (fun _ hk => hk.elim) ?aF ?aO ?aB ?aS ?aL ?_
             (case aP => exact rfl)
             (case aB => exact HB.out)
             (case aF => exact (fun _ _ => trivial))
             (case aO => exact HO_4.out)
             (case aS => exact (bZ_ HB.out))
             (case aL => have := LMc21.out; omega)
             intro v383 w29 ho hb hg hat
             rw [← Ny382.out] at ho
             have n0_ := aM_ (blk_grown (g := gb367) (o := .cells #[.slice A0_0 l0_0.length c0_0] 36 (0, 0)) BK367.out hg (k6_ HO_4.out BK367.out (by decide)))
             have n1_ := aM_ (blk_grown (g := gb377) (o := .cells #[.int .i64 ((rd_T76 y372 x17_1).f0), .int .i64 ((rd_T76 y372 x17_1).f1), .bool ((rd_T76 y372 x17_1).f2)] 76 (0, 0)) BK377.out hg (k6_ HO_4.out BK377.out (by decide)))
             have n2_ := aM_ (hb)
             have n3_ := aM_ (ho)
             clear BK367
             clear BK377
             clear HB
             clear HO_4
             have BK367 := n0_
             have BK377 := n1_
             have HB := n2_
             have HO384 := n3_
             clear n0_ n1_ n2_ n3_
             clear ho hb hg hat
             refine hK.out _ _ ?_
             clear hK K
             refine norm_ (a' := ?_) ?_ ?_; rotate_left; (show Act.put _ (some 44) _ = _; simp only [Act.put, sA_, sB_, sC_, i6_, i3_]; rfl)
             refine pure_ (i := 12) (N := some 4) (v := ?_) (a' := ?_) #[ty, ty, ty, ty, ty, ty, ty, ty, ty, ty, ty, ty, ty] rfl rfl (aO_ HT_.out (by kernel_rfl)) (fun _ _ _ h => h) (Or.inl ⟨by rfl, ?_⟩) ?_ ?_; rotate_left; (intro w'; go_simp; with_reducible rfl); rotate_left; (simp only [Act.put, sA_, sB_, sC_, i6_, i3_]; rfl)
             refine done_ (done_of HT_.out (by kernel_rfl)) ?_
             try go_wp2
             go_roundg k1
             case measure => have := HK1.out; omega
             case rel => exact ⟨(y382), (wrap64 (x17_1 + 1)), (by rfl), H', ⟨by have := HK1.out; omega⟩, ⟨HO384.out⟩, ⟨BK367.out⟩, ⟨HB.out⟩⟩
            ·
             rw [if_neg c21] at H
             exact absurd H (by simp)
           ·
            rw [if_neg c20] at H
            exact absurd H (by simp)
          ·
           rw [if_neg c18] at H
           exact absurd H (by simp)
         ·
          rw [if_neg c17] at H
          exact absurd H (by simp)
        ·
         replace c16 := Bool.eq_false_iff.mpr c16
         subst c16
         have H1 : (some (([] : List ByteArray), false)) = some (r1, r2) := by rw [if_neg (show ¬ (false = true) by decide)] at H; exact H
         clear H
         have H := H1
         clear H1
         simp only [Option.some.injEq, Prod.mk.injEq] at H
         obtain ⟨rfl, rfl⟩ := H
         have p376 : 0 ≤ (x17_1 : Int) := of_decide_eq_true (by (with_reducible assumption))
         have q376 : x17_1 < (y372.length : Int) := of_decide_eq_true (by (with_reducible assumption))
         obtain ⟨ad376, e376, hx376_0, hx376_1, hx376_2⟩ := at_T76 HR375.out x17_1 p376 q376
         cases e376
         replace hx376_0 := (HB.out.cell (wB_ w _ hx376_0)).trans hx376_0
         replace hx376_1 := (HB.out.cell (wB_ w _ hx376_1)).trans hx376_1
         replace hx376_2 := (HB.out.cell (wB_ w _ hx376_2)).trans hx376_2
         replace p376 := eq_true p376
         replace q376 := eq_true q376
         go_wp2_with (first | ((with_reducible refine gD_ (N := 6) rfl ?_); refine bE_ ?hg (N := 6) ?hd (cs := #[.int .i64 0, .int .i64 0, .bool false]) (t := 76) ?hr ?_; (case hd => rfl); (case hg => rfl); (case hr => (go_simp; done)); intro gb377 hg w30 hbox hb; replace HO_4 := aM_ (kB_ HO_4.out hb); have BK377 := aM_ (hbox); have GW377 := aM_ ((by rw [hg]; exact (bZ_ HB.out) : w.heap.size ≤ gb377)); have GE377 := GW377; replace HB := aM_ (bT_ HB.out hb); have NB367_377 := aM_ ((by rw [hg]; exact Nat.ne_of_lt (bL_ BK367.out) : gb367 ≠ gb377)); have NB377_367 := aM_ NB367_377.out.symm; replace BK367 := aM_ (bB_ BK367.out hb); clear hb hbox hg; have hnb31 := NB377_367.out; have hnc31 := NB367_377.out; have hcz32_0 : w30.cell? ⟨gb377, 0, none⟩ = some (.int .i64 0) := (bC_ BK377.out 0).trans rfl; have hcz32_1 : w30.cell? ⟨gb377, 1, none⟩ = some (.int .i64 0) := (bC_ BK377.out 1).trans rfl; have hcz32_2 : w30.cell? ⟨gb377, 2, none⟩ = some (.bool false) := (bC_ BK377.out 2).trans rfl; have hfz32_0 := bF_ BK377.out 0; have hfz32_1 := bF_ BK377.out 1; have hfz32_2 := bF_ BK377.out 2) | ((with_reducible refine gC_ (f := 67) rfl ?_); refine goesL_ (some 25) rfl rfl Tryz.func67 (by kernel_rfl) rfl #[.int .i64 ((rd_T76 y372 x17_1).f1), .int .i64 0, .int .i64 x17_1] rfl (by (try simp only [sD_, sE_, sF_]); rfl) ?_; (with_reducible refine (impl_in.calls ((rd_T76 y372 x17_1).f1) 0 x17_1 true _ A13.out).mono ?_); rintro e w' ⟨rfl, ⟨nd, rfl⟩⟩; refine ⟨_, rfl, ?_⟩) | (go_at_call 67; (with_reducible refine (impl_in.calls ((rd_T76 y372 x17_1).f0) 0 25 false _ A15.out).mono ?_); rintro e w' ⟨rfl, ⟨nd, rfl⟩⟩))
         go_ret2
         exact ⟨_, by rfl, by exact Kd.R_nil _ _ _ _ _, by repeat (first | (with_reducible first | exact HB.out | apply bA_ | apply bN_ | apply bD_ | refine bS_ ?_ GE367.out | refine bS_ ?_ GE377.out) | exact HB.out)⟩
       ·
        replace c14 := Bool.eq_false_iff.mpr c14
        subst c14
        have H1 : (some (([] : List ByteArray), false)) = some (r1, r2) := by rw [if_neg (show ¬ (false = true) by decide)] at H; exact H
        clear H
        have H := H1
        clear H1
        simp only [Option.some.injEq, Prod.mk.injEq] at H
        obtain ⟨rfl, rfl⟩ := H
        have p376 : 0 ≤ (x17_1 : Int) := of_decide_eq_true (by (with_reducible assumption))
        have q376 : x17_1 < (y372.length : Int) := of_decide_eq_true (by (with_reducible assumption))
        obtain ⟨ad376, e376, hx376_0, hx376_1, hx376_2⟩ := at_T76 HR375.out x17_1 p376 q376
        cases e376
        replace hx376_0 := (HB.out.cell (wB_ w _ hx376_0)).trans hx376_0
        replace hx376_1 := (HB.out.cell (wB_ w _ hx376_1)).trans hx376_1
        replace hx376_2 := (HB.out.cell (wB_ w _ hx376_2)).trans hx376_2
        replace p376 := eq_true p376
        replace q376 := eq_true q376
        go_wp2_with (first | ((with_reducible refine gD_ (N := 6) rfl ?_); refine bE_ ?hg (N := 6) ?hd (cs := #[.int .i64 0, .int .i64 0, .bool false]) (t := 76) ?hr ?_; (case hd => rfl); (case hg => rfl); (case hr => (go_simp; done)); intro gb377 hg w33 hbox hb; replace HO_4 := aM_ (kB_ HO_4.out hb); have BK377 := aM_ (hbox); have GW377 := aM_ ((by rw [hg]; exact (bZ_ HB.out) : w.heap.size ≤ gb377)); have GE377 := GW377; replace HB := aM_ (bT_ HB.out hb); have NB367_377 := aM_ ((by rw [hg]; exact Nat.ne_of_lt (bL_ BK367.out) : gb367 ≠ gb377)); have NB377_367 := aM_ NB367_377.out.symm; replace BK367 := aM_ (bB_ BK367.out hb); clear hb hbox hg; have hnb34 := NB377_367.out; have hnc34 := NB367_377.out; have hcz35_0 : w33.cell? ⟨gb377, 0, none⟩ = some (.int .i64 0) := (bC_ BK377.out 0).trans rfl; have hcz35_1 : w33.cell? ⟨gb377, 1, none⟩ = some (.int .i64 0) := (bC_ BK377.out 1).trans rfl; have hcz35_2 : w33.cell? ⟨gb377, 2, none⟩ = some (.bool false) := (bC_ BK377.out 2).trans rfl; have hfz35_0 := bF_ BK377.out 0; have hfz35_1 := bF_ BK377.out 1; have hfz35_2 := bF_ BK377.out 2) | ((with_reducible refine gC_ (f := 67) rfl ?_); refine goesL_ (some 25) rfl rfl Tryz.func67 (by kernel_rfl) rfl #[.int .i64 ((rd_T76 y372 x17_1).f1), .int .i64 0, .int .i64 x17_1] rfl (by (try simp only [sD_, sE_, sF_]); rfl) ?_; (with_reducible refine (impl_in.calls ((rd_T76 y372 x17_1).f1) 0 x17_1 false _ A13.out).mono ?_); rintro e w' ⟨rfl, ⟨nd, rfl⟩⟩; refine ⟨_, rfl, ?_⟩))
        go_ret2
        exact ⟨_, by rfl, by exact Kd.R_nil _ _ _ _ _, by repeat (first | (with_reducible first | exact HB.out | apply bA_ | apply bN_ | apply bD_ | refine bS_ ?_ GE367.out | refine bS_ ?_ GE377.out) | exact HB.out)⟩
      ·
       rw [if_neg c12] at H
       exact absurd H (by simp)
     ·
      rw [if_neg c11] at H
      exact absurd H (by simp)
    ·
     rw [if_neg c10] at H
     have c10b0 := decide_eq_false c10
     clear c10
     simp only [Option.some.injEq, Prod.mk.injEq] at H
     obtain ⟨rfl, rfl⟩ := H
     go_wp2
     go_ret2
     exact ⟨_, by rfl, by exact HO_4.out, by exact HB.out⟩
 ·
  replace c3 := Bool.eq_false_iff.mpr c3
  subst c3
  have H1 : (some (([] : List ByteArray), false)) = some (r1, r2) := by rw [if_neg (show ¬ (false = true) by decide)] at H; exact H
  clear H
  have H := H1
  clear H1
  simp only [Option.some.injEq, Prod.mk.injEq] at H
  obtain ⟨rfl, rfl⟩ := H
  go_enter Tryz.func83, Tryz.ntmps83
  go_wp2_with (first | ((with_reducible refine gD_ (N := 1) rfl ?_); refine bE_ ?hg (N := 1) ?hd (cs := #[.slice A0_0 l0_0.length c0_0]) (t := 36) ?hr ?_; (case hd => rfl); (case hg => rfl); (case hr => (go_simp; done)); intro gb367 hg w36 hbox hb; have BK367 := aM_ (hbox); have GW367 := aM_ ((by rw [hg]; exact (bZ_ HB.out) : w.heap.size ≤ gb367)); have GE367 := GW367; replace HB := aM_ (bT_ HB.out hb); clear hb hbox hg) | ((with_reducible refine gD_ (N := 7) rfl ?_); refine Kd.R_lit Kd.string _ 9 ?hg (N := 7) ?hd (xs := ([(⟨#[]⟩ : ByteArray)] : List ByteArray)) (inner := [.string (⟨#[]⟩ : ByteArray)]) (ok := fun _ => True) (okp := fun _ => True) ?hr ?hp (fun _ hk => hk) trivial (Below.refl _ _) (Nat.le_refl _) (by simp) ?_; (case hd => rfl); (case hg => rfl); (case hr => (go_simp; done)); (case hp => exact (Reps.one (show Kd.M Kd.string _ _ _ (⟨#[]⟩ : ByteArray) [.string (⟨#[]⟩ : ByteArray)] from rfl) (Reps.none _ _))); intro v369 w37 ho38 hb hg_ hnew_; clear hg_ hnew_; (rw [← Ny368.out] at ho38); have HO370 := aM_ (k5_ ho38 (bZ_ HB.out)); replace BK367 := aM_ (bB_ BK367.out hb); replace HB := aM_ (bT_ HB.out hb); clear hb ho38; have hcz39_0 : w37.cell? ⟨gb367, 0, none⟩ = some (.slice A0_0 l0_0.length c0_0) := (bC_ BK367.out 0).trans rfl; have hfz39_0 := bF_ BK367.out 0) | ((with_reducible refine gC_ (f := 67) rfl ?_); refine goesL_ (some 11) rfl rfl Tryz.func67 (by kernel_rfl) rfl #[.int .i64 (l0_0.length : Int), .int .i64 1, .int .i64 481] rfl (by (try simp only [sD_, sE_, sF_]); rfl) ?_; (with_reducible refine (impl_in.calls (l0_0.length : Int) 1 481 false _ A2.out).mono ?_); rintro e w' ⟨rfl, ⟨nd, rfl⟩⟩; refine ⟨_, rfl, ?_⟩))
  go_ret2
  exact ⟨_, by rfl, by exact Kd.R_nil _ _ _ _ _, by repeat (first | (with_reducible first | exact HB.out | apply bA_ | apply bN_ | apply bD_ | refine bS_ ?_ GE367.out) | exact HB.out)⟩
def impl_Trie_kids.l0 : Nat → Int → List Int → List (S76) → Int → Int → Option (List Int)
 | 0, _, _, _, _, _ => none
 | k + 1, x1, x5, x10, x11, x12 => if x12 < x11 then (if 0 ≤ x12 then (if x12 < (x10.length : Int) then (if ((rd_T76 x10 x12).f1) = x1 then (if x5.length < 17592186044416 then (impl_Trie_kids.l0 k x1 (x5 ++ [x12]) x10 x11 (wrap64 (x12 + 1))) else (none)) else (impl_Trie_kids.l0 k x1 x5 x10 x11 (wrap64 (x12 + 1)))) else (none)) else (none)) else (some x5)
def impl_Trie_kids.f (k : Nat) (l0_0 : List (S76)) (a1 : Int) : Option (List Int) := impl_Trie_kids.l0 k a1 (([] : List Int)) l0_0 (l0_0.length : Int) 0
theorem impl_Trie_kids.mono_l : ∀ k, (∀ y0 y1 y2 y3 y4, LeO (impl_Trie_kids.l0 k y0 y1 y2 y3 y4) (impl_Trie_kids.l0 (k + 1) y0 y1 y2 y3 y4))
 | 0 => fun _ _ _ _ _ r h => by simp [impl_Trie_kids.l0] at h
 | k + 1 => by
  have ih0 := impl_Trie_kids.mono_l k
  ·
   intro y0 y1 y2 y3 y4
   unfold impl_Trie_kids.l0
   repeat' first
   | (with_reducible exact ih0 _ _ _ _ _)
   | (with_reducible exact l3_ _)
   | (with_reducible exact l0_ _)
   | (with_reducible refine l2_ ?_ ?_)
   | (with_reducible refine l1_ ?_ (fun _ => ?_))
   | exact ih0 _ _ _ _ _
   | exact l0_ _
   | refine l2_ ?_ ?_
   | refine l1_ ?_ (fun _ => ?_)
theorem impl_Trie_kids.mono : ∀ a0 a1 k, LeO (impl_Trie_kids.f k a0 a1) (impl_Trie_kids.f (k + 1) a0 a1) := by
 intro a0 a1 k
 have ih0 := impl_Trie_kids.mono_l k
 unfold impl_Trie_kids.f
 repeat' first
   | (with_reducible exact ih0 _ _ _ _ _)
   | (with_reducible exact l3_ _)
   | (with_reducible exact l0_ _)
   | (with_reducible refine l2_ ?_ ?_)
   | (with_reducible refine l1_ ?_ (fun _ => ?_))
   | exact ih0 _ _ _ _ _
   | exact l0_ _
   | refine l2_ ?_ ?_
   | refine l1_ ?_ (fun _ => ?_)
theorem impl_Trie_kids.calls (k : Nat) (A0_0 : Option Addr) (c0_0 : Nat) (l0_0 : List (S76)) (a1 : Int) (r : List Int) (w : World) (hr0_0 : Kd.C k76 w A0_0 l0_0.length l0_0) (hc0_0 : l0_0.length ≤ c0_0) (h : impl_Trie_kids.f k l0_0 a1 = some r) :
  Calls Tryz.prog 99 #[.agg #[.slice A0_0 l0_0.length c0_0], .int .i64 a1] w fun e w' => ∃ v0_ : Value, e = .returned (v0_) ∧ Kd.R (Kd.int .i64) 3 w' w.heap.size (fun _ => True) v0_ r ∧ Below w.heap.size w w' := by
 have hu36 := Tryz.underlying36
 have hu76 := Tryz.underlying76
 have HR0_0 := aM_ hr0_0
 have HC0_0 := aM_ hc0_0
 clear hr0_0 hc0_0
 have HB := aM_ (Below.refl w.heap.size w)
 have H : (impl_Trie_kids.l0 k a1 (([] : List Int)) l0_0 (l0_0.length : Int) 0) = some r := h
 clear h
 obtain ⟨y386, hy386⟩ : ∃ y_ : List Int, y_ = (([] : List Int)) := ⟨_, rfl⟩
 replace H : (impl_Trie_kids.l0 k a1 y386 l0_0 (l0_0.length : Int) 0) = some r := by first | (rw [hy386]; with_reducible exact H) | (have H2_ := (Option.bind_some _ _).symm.trans H; rw [hy386]; with_reducible exact H2_) | (have H2_ := (Option.bind_some _ _).symm.trans H; with_reducible exact H2_) | with_reducible exact H | (rw [hy386]; exact H) | exact H
 have Ny386 := aM_ hy386
 clear hy386
 have H' := aM_ H
 clear H
 go_enter Tryz.func99, Tryz.ntmps99
 go_wp2_with (first | ((with_reducible refine gD_ (N := 2) rfl ?_); refine bE_ ?hg (N := 2) ?hd (cs := #[.slice A0_0 l0_0.length c0_0]) (t := 36) ?hr ?_; (case hd => rfl); (case hg => rfl); (case hr => (go_simp; done)); intro gb385 hg w3 hbox hb; have BK385 := aM_ (hbox); have GW385 := aM_ ((by rw [hg]; exact (bZ_ HB.out) : w.heap.size ≤ gb385)); have GE385 := GW385; replace HB := aM_ (bT_ HB.out hb); clear hb hbox hg) | ((with_reducible refine gD_ (N := 8) rfl ?_); refine Kd.R_lit (Kd.int .i64) _ 3 ?hg (N := 8) ?hd (xs := ([] : List Int)) (inner := []) (ok := fun _ => True) (okp := fun _ => True) ?hr ?hp (fun _ hk => hk) trivial (Below.refl _ _) (Nat.le_refl _) (by simp) ?_; (case hd => rfl); (case hg => rfl); (case hr => (go_simp; done)); (case hp => exact (Reps.none _ _)); intro v387 w4 ho5 hb hg_ hnew_; clear hg_ hnew_; (rw [← Ny386.out] at ho5); have HO388 := aM_ (k5_ ho5 (bZ_ HB.out)); replace BK385 := aM_ (bB_ BK385.out hb); replace HB := aM_ (bT_ HB.out hb); clear hb ho5; have hcz6_0 : w4.cell? ⟨gb385, 0, none⟩ = some (.slice A0_0 l0_0.length c0_0) := (bC_ BK385.out 0).trans rfl; have hfz6_0 := bF_ BK385.out 0))
 go_loopg [5, 12] k (fun kq v5 v12 w' => ∃ (x5_1 : List Int) (x12_1 : Int), v12 = .int .i64 x12_1 ∧ Aside0 (impl_Trie_kids.l0 kq a1 x5_1 l0_0 (l0_0.length : Int) x12_1 = some r) ∧ Aside0 (kq ≤ k) ∧ Aside0 (Kd.R (Kd.int .i64) 3 w' w.heap.size (fun _ => True) v5 x5_1) ∧ Aside0 (w'.heap[gb385]? = some (.cells #[(.slice A0_0 l0_0.length c0_0)] 36 (0, 0))) ∧ Aside0 (Below w.heap.size w w'))
 case atStart => exact ⟨(y386), (0), (by rfl), H', ⟨Nat.le_refl _⟩, ⟨HO388.out⟩, ⟨BK385.out⟩, ⟨HB.out⟩⟩
 case round =>
  clear H'
  try clear p2
  try clear hcz6_0
  try clear hfz6_0
  obtain ⟨x5_1, x12_1, rfl, HA, HK1, HO_5, BK385, HB⟩ := hrel
  cases gk with
  | zero => exact absurd HA.out (by simp [impl_Trie_kids.l0])
  | succ k1 =>
   have H := HA.out
   clear HA
   simp only [impl_Trie_kids.l0] at H
   by_cases c7 : x12_1 < (l0_0.length : Int)
   ·
    rw [if_pos c7] at H
    have c7b0 := decide_eq_true c7
    clear c7
    by_cases c8 : 0 ≤ x12_1
    ·
     rw [if_pos c8] at H
     have c8b0 := decide_eq_true c8
     clear c8
     by_cases c9 : x12_1 < (l0_0.length : Int)
     ·
      rw [if_pos c9] at H
      have c9b0 := decide_eq_true c9
      clear c9
      by_cases c10 : ((rd_T76 l0_0 x12_1).f1) = a1
      ·
       rw [if_pos c10] at H
       have c10b0 : (((rd_T76 l0_0 x12_1).f1) == a1) = true := beq_iff_eq.mpr c10
       have c10b1 : (((rd_T76 l0_0 x12_1).f1) != a1) = false := bne_eq_false_iff_eq.mpr c10
       clear c10
       by_cases c11 : x5_1.length < 17592186044416
       ·
        rw [if_pos c11] at H
        have LMc11 := aM_ c11
        clear c11
        obtain ⟨y391, hy391⟩ : ∃ y_ : List Int, y_ = (x5_1 ++ [x12_1]) := ⟨_, rfl⟩
        replace H : (impl_Trie_kids.l0 k1 a1 y391 l0_0 (l0_0.length : Int) (wrap64 (x12_1 + 1))) = some r := by first | (rw [hy391]; with_reducible exact H) | (have H2_ := (Option.bind_some _ _).symm.trans H; rw [hy391]; with_reducible exact H2_) | (have H2_ := (Option.bind_some _ _).symm.trans H; with_reducible exact H2_) | with_reducible exact H | (rw [hy391]; exact H) | exact H
        have Ny391 := aM_ hy391
        clear hy391
        have H' := aM_ H
        clear H
        have p389 : 0 ≤ (x12_1 : Int) := of_decide_eq_true (by (with_reducible assumption))
        have q389 : x12_1 < (l0_0.length : Int) := of_decide_eq_true (by (with_reducible assumption))
        obtain ⟨ad389, e389, hx389_0, hx389_1, hx389_2⟩ := at_T76 HR0_0.out x12_1 p389 q389
        cases e389
        replace hx389_0 := (HB.out.cell (wB_ w _ hx389_0)).trans hx389_0
        replace hx389_1 := (HB.out.cell (wB_ w _ hx389_1)).trans hx389_1
        replace hx389_2 := (HB.out.cell (wB_ w _ hx389_2)).trans hx389_2
        replace p389 := eq_true p389
        replace q389 := eq_true q389
        go_wp2_with (first | ((with_reducible refine gD_ (N := 7) rfl ?_); refine bE_ ?hg (N := 7) ?hd (cs := #[.int .i64 0, .int .i64 0, .bool false]) (t := 76) ?hr ?_; (case hd => rfl); (case hg => rfl); (case hr => (go_simp; done)); intro gb390 hg w12 hbox hb; replace HO_5 := aM_ (kB_ HO_5.out hb); have BK390 := aM_ (hbox); have GW390 := aM_ ((by rw [hg]; exact (bZ_ HB.out) : w.heap.size ≤ gb390)); have GE390 := GW390; replace HB := aM_ (bT_ HB.out hb); have NB385_390 := aM_ ((by rw [hg]; exact Nat.ne_of_lt (bL_ BK385.out) : gb385 ≠ gb390)); have NB390_385 := aM_ NB385_390.out.symm; replace BK385 := aM_ (bB_ BK385.out hb); clear hb hbox hg; have hnb13 := NB390_385.out; have hnc13 := NB385_390.out; have hcz14_0 : w12.cell? ⟨gb390, 0, none⟩ = some (.int .i64 0) := (bC_ BK390.out 0).trans rfl; have hcz14_1 : w12.cell? ⟨gb390, 1, none⟩ = some (.int .i64 0) := (bC_ BK390.out 1).trans rfl; have hcz14_2 : w12.cell? ⟨gb390, 2, none⟩ = some (.bool false) := (bC_ BK390.out 2).trans rfl; have hfz14_0 := bF_ BK390.out 0; have hfz14_1 := bF_ BK390.out 1; have hfz14_2 := bF_ BK390.out 2) | ((with_reducible refine gate_builtin (b := .append) (xs := #[.tmp 21, .tmp 23]) rfl ?_); at_builtin; refine Kd.R_append (Kd.int .i64) (w0 := w) w.heap.size rfl (.tmp 21) (.tmp 23) 87 3 (.int .i64 0) 8 rfl Tryz.underlying87 info3 rfl (by decide) (by omega) u5 x5_1 x12_1 [.int .i64 x12_1] (fun _ => True) (fun _ => False) rfl (by (go_simp; done)) ?aP (fun _ hk => hk.elim) ?aF ?aO ?aB ?aS ?aL ?_; (case aP => exact rfl); (case aB => exact (by repeat (first | (with_reducible first | exact HB.out | apply bA_ | apply bN_ | apply bD_ | refine bS_ ?_ GE385.out | refine bS_ ?_ GE390.out) | exact HB.out))); (case aF => exact (fun _ _ => trivial)); (case aO => exact (by exact kM_ (kF_ (p := ⟨gb390, 2, none⟩) (kF_ (p := ⟨gb390, 1, none⟩) (kF_ (p := ⟨gb390, 0, none⟩) (kT_ HO_5.out BK390.out (by decide)) (fun _ hk => hk.2) (.int .i64 ((rd_T76 l0_0 x12_1).f0))) (fun _ hk => hk.2) (.int .i64 ((rd_T76 l0_0 x12_1).f1))) (fun _ hk => hk.2) (.bool ((rd_T76 l0_0 x12_1).f2))) (fun _ hk => trivial))); (case aS => exact (bZ_ (by repeat (first | (with_reducible first | exact HB.out | apply bA_ | apply bN_ | apply bD_ | refine bS_ ?_ GE385.out | refine bS_ ?_ GE390.out) | exact HB.out)))); (case aL => have := LMc11.out; omega); intro v392 w15 ho hb hg hat; rw [← Ny391.out] at ho; have n0_ := aM_ (blk_grown (g := gb385) (o := .cells #[.slice (some ad389) l0_0.length c0_0] 36 (0, 0)) (by refine bR_ ?_ NB385_390.out _; refine bR_ ?_ NB385_390.out _; refine bR_ ?_ NB385_390.out _; exact BK385.out) hg (k6_ HO_5.out BK385.out (by decide))); have n1_ := aM_ (blk_grown (g := gb390) (o := .cells #[.int .i64 ((rd_T76 l0_0 x12_1).f0), .int .i64 ((rd_T76 l0_0 x12_1).f1), .bool ((rd_T76 l0_0 x12_1).f2)] 76 (0, 0)) (by refine bP_ (cs := #[.int .i64 ((rd_T76 l0_0 x12_1).f0), .int .i64 ((rd_T76 l0_0 x12_1).f1), .bool false]) ?_ 2 _ rfl; refine bP_ (cs := #[.int .i64 ((rd_T76 l0_0 x12_1).f0), .int .i64 0, .bool false]) ?_ 1 _ rfl; refine bP_ (cs := #[.int .i64 0, .int .i64 0, .bool false]) ?_ 0 _ rfl; exact BK390.out) hg (k6_ HO_5.out BK390.out (by decide))); have n2_ := aM_ (hb); have n3_ := aM_ (ho); clear BK385; clear BK390; clear HB; clear HO_5; have BK385 := n0_; have BK390 := n1_; have HB := n2_; have HO393 := n3_; clear n0_ n1_ n2_ n3_; clear ho hb hg hat))
        go_roundg k1
        case measure => have := HK1.out; omega
        case rel => exact ⟨(y391), (wrap64 (x12_1 + 1)), (by rfl), H', ⟨by have := HK1.out; omega⟩, ⟨HO393.out⟩, ⟨BK385.out⟩, ⟨HB.out⟩⟩
       ·
        rw [if_neg c11] at H
        exact absurd H (by simp)
      ·
       rw [if_neg c10] at H
       have c10b0 : (((rd_T76 l0_0 x12_1).f1) == a1) = false := beq_eq_false_iff_ne.mpr c10
       have c10b1 : (((rd_T76 l0_0 x12_1).f1) != a1) = true := bne_iff_ne.mpr c10
       have H' := aM_ H
       clear H
       have p389 : 0 ≤ (x12_1 : Int) := of_decide_eq_true (by (with_reducible assumption))
       have q389 : x12_1 < (l0_0.length : Int) := of_decide_eq_true (by (with_reducible assumption))
       obtain ⟨ad389, e389, hx389_0, hx389_1, hx389_2⟩ := at_T76 HR0_0.out x12_1 p389 q389
       cases e389
       replace hx389_0 := (HB.out.cell (wB_ w _ hx389_0)).trans hx389_0
       replace hx389_1 := (HB.out.cell (wB_ w _ hx389_1)).trans hx389_1
       replace hx389_2 := (HB.out.cell (wB_ w _ hx389_2)).trans hx389_2
       replace p389 := eq_true p389
       replace q389 := eq_true q389
       go_wp2_with (first | ((with_reducible refine gD_ (N := 7) rfl ?_); refine bE_ ?hg (N := 7) ?hd (cs := #[.int .i64 0, .int .i64 0, .bool false]) (t := 76) ?hr ?_; (case hd => rfl); (case hg => rfl); (case hr => (go_simp; done)); intro gb390 hg w16 hbox hb; replace HO_5 := aM_ (kB_ HO_5.out hb); have BK390 := aM_ (hbox); have GW390 := aM_ ((by rw [hg]; exact (bZ_ HB.out) : w.heap.size ≤ gb390)); have GE390 := GW390; replace HB := aM_ (bT_ HB.out hb); have NB385_390 := aM_ ((by rw [hg]; exact Nat.ne_of_lt (bL_ BK385.out) : gb385 ≠ gb390)); have NB390_385 := aM_ NB385_390.out.symm; replace BK385 := aM_ (bB_ BK385.out hb); clear hb hbox hg; have hnb17 := NB390_385.out; have hnc17 := NB385_390.out; have hcz18_0 : w16.cell? ⟨gb390, 0, none⟩ = some (.int .i64 0) := (bC_ BK390.out 0).trans rfl; have hcz18_1 : w16.cell? ⟨gb390, 1, none⟩ = some (.int .i64 0) := (bC_ BK390.out 1).trans rfl; have hcz18_2 : w16.cell? ⟨gb390, 2, none⟩ = some (.bool false) := (bC_ BK390.out 2).trans rfl; have hfz18_0 := bF_ BK390.out 0; have hfz18_1 := bF_ BK390.out 1; have hfz18_2 := bF_ BK390.out 2))
       go_roundg k1
       case measure => have := HK1.out; omega
       case rel => exact ⟨(x5_1), (wrap64 (x12_1 + 1)), (by rfl), H', ⟨by have := HK1.out; omega⟩, ⟨by exact kM_ (kF_ (p := ⟨gb390, 2, none⟩) (kF_ (p := ⟨gb390, 1, none⟩) (kF_ (p := ⟨gb390, 0, none⟩) (kT_ HO_5.out BK390.out (by decide)) (fun _ hk => hk.2) (.int .i64 ((rd_T76 l0_0 x12_1).f0))) (fun _ hk => hk.2) (.int .i64 ((rd_T76 l0_0 x12_1).f1))) (fun _ hk => hk.2) (.bool ((rd_T76 l0_0 x12_1).f2))) (fun _ hk => trivial)⟩, ⟨by refine bR_ ?_ NB385_390.out _; refine bR_ ?_ NB385_390.out _; refine bR_ ?_ NB385_390.out _; exact BK385.out⟩, ⟨by repeat (first | (with_reducible first | exact HB.out | apply bA_ | apply bN_ | apply bD_ | refine bS_ ?_ GE385.out | refine bS_ ?_ GE390.out) | exact HB.out)⟩⟩
     ·
      rw [if_neg c9] at H
      exact absurd H (by simp)
    ·
     rw [if_neg c8] at H
     exact absurd H (by simp)
   ·
    rw [if_neg c7] at H
    have c7b0 := decide_eq_false c7
    clear c7
    obtain rfl := Option.some.inj H
    go_wp2
    go_ret
    exact ⟨_, by rfl, by exact HO_5.out, by exact HB.out⟩
def impl_Trie_stays.f (k : Nat) (l0_0 : List (S76)) (a1 : Int) : Option (Bool) := if a1 = 0 then (some true) else (if 0 ≤ a1 then (if a1 < (l0_0.length : Int) then (if (rd_T76 l0_0 a1).f2 = true then (some true) else ((impl_Trie_kids.f k l0_0 a1).bind fun t396 => (some ((t396.length : Int) != 1)))) else (none)) else (none))
theorem impl_Trie_stays.mono : ∀ a0 a1 k, LeO (impl_Trie_stays.f k a0 a1) (impl_Trie_stays.f (k + 1) a0 a1) := by
 intro a0 a1 k
 unfold impl_Trie_stays.f
 repeat' first
   | (with_reducible exact impl_Trie_kids.mono _ _ _)
   | (with_reducible exact l3_ _)
   | (with_reducible exact l0_ _)
   | (with_reducible refine l2_ ?_ ?_)
   | (with_reducible refine l1_ ?_ (fun _ => ?_))
   | exact impl_Trie_kids.mono _ _ _
   | exact l0_ _
   | refine l2_ ?_ ?_
   | refine l1_ ?_ (fun _ => ?_)
theorem impl_Trie_stays.calls (k : Nat) (A0_0 : Option Addr) (c0_0 : Nat) (l0_0 : List (S76)) (a1 : Int) (r : Bool) (w : World) (hr0_0 : Kd.C k76 w A0_0 l0_0.length l0_0) (hc0_0 : l0_0.length ≤ c0_0) (h : impl_Trie_stays.f k l0_0 a1 = some r) :
  Calls Tryz.prog 84 #[.agg #[.slice A0_0 l0_0.length c0_0], .int .i64 a1] w fun e w' => e = .returned (.bool r) ∧ Below w.heap.size w w' := by
 have hu36 := Tryz.underlying36
 have HR0_0 := aM_ hr0_0
 have HC0_0 := aM_ hc0_0
 clear hr0_0 hc0_0
 have HB := aM_ (Below.refl w.heap.size w)
 have H : (if a1 = 0 then (some true) else (if 0 ≤ a1 then (if a1 < (l0_0.length : Int) then (if (rd_T76 l0_0 a1).f2 = true then (some true) else ((impl_Trie_kids.f k l0_0 a1).bind fun t396 => (some ((t396.length : Int) != 1)))) else (none)) else (none))) = some r := h
 clear h
 by_cases c3 : a1 = 0
 ·
  rw [if_pos c3] at H
  have c3b0 : (a1 == 0) = true := beq_iff_eq.mpr c3
  have c3b1 : (a1 != 0) = false := bne_eq_false_iff_eq.mpr c3
  clear c3
  obtain rfl := Option.some.inj H
  go_enter Tryz.func84, Tryz.ntmps84
  go_wp2_with (first | ((with_reducible refine gD_ (N := 2) rfl ?_); (try (refine gate_guard (by rfl) ?_; dsimp only)); refine bE_ ?hg (N := 2) ?hd (cs := #[.slice A0_0 l0_0.length c0_0]) (t := 36) ?hr ?_; (case hd => rfl); (case hg => rfl); (case hr => (go_simp; done)); intro gb394 hg w4 hbox hb; have BK394 := aM_ (hbox); have GW394 := aM_ ((by rw [hg]; exact (bZ_ HB.out) : w.heap.size ≤ gb394)); have GE394 := GW394; replace HB := aM_ (bT_ HB.out hb); clear hb hbox hg))
  go_ret
  exact ⟨by rfl, by exact HB.out⟩
 ·
  rw [if_neg c3] at H
  have c3b0 : (a1 == 0) = false := beq_eq_false_iff_ne.mpr c3
  have c3b1 : (a1 != 0) = true := bne_iff_ne.mpr c3
  by_cases c5 : 0 ≤ a1
  rotate_left
  ·
   rw [if_neg c5] at H
   exact absurd H (by simp)
  rw [if_pos c5] at H
  have c5b0 := decide_eq_true c5
  clear c5
  by_cases c6 : a1 < (l0_0.length : Int)
  rotate_left
  ·
   rw [if_neg c6] at H
   exact absurd H (by simp)
  rw [if_pos c6] at H
  have c6b0 := decide_eq_true c6
  clear c6
  obtain ⟨bq7, hbq7⟩ : ∃ b_ : Bool, b_ = ((rd_T76 l0_0 a1).f2) := ⟨_, rfl⟩
  replace H : (if bq7 = true then (some true) else ((impl_Trie_kids.f k l0_0 a1).bind fun t396 => (some ((t396.length : Int) != 1)))) = some r := by rw [← hbq7] at H; exact H
  have Nbq7 := aM_ hbq7
  clear hbq7
  by_cases c8 : bq7 = true
  ·
   subst c8
   rw [if_pos rfl] at H
   obtain rfl := Option.some.inj H
   go_enter Tryz.func84, Tryz.ntmps84
   go_wp2_with (first | ((with_reducible refine gD_ (N := 2) rfl ?_); (try (refine gate_guard (by rfl) ?_; dsimp only)); refine bE_ ?hg (N := 2) ?hd (cs := #[.slice A0_0 l0_0.length c0_0]) (t := 36) ?hr ?_; (case hd => rfl); (case hg => rfl); (case hr => (go_simp; done)); intro gb394 hg w9 hbox hb; have BK394 := aM_ (hbox); have GW394 := aM_ ((by rw [hg]; exact (bZ_ HB.out) : w.heap.size ≤ gb394)); have GE394 := GW394; replace HB := aM_ (bT_ HB.out hb); clear hb hbox hg; have hcz10_0 : w9.cell? ⟨gb394, 0, none⟩ = some (.slice A0_0 l0_0.length c0_0) := (bC_ BK394.out 0).trans rfl; have hfz10_0 := bF_ BK394.out 0; have p395 : 0 ≤ (a1 : Int) := of_decide_eq_true (by (with_reducible assumption)); have q395 : a1 < (l0_0.length : Int) := of_decide_eq_true (by (with_reducible assumption)); obtain ⟨ad395, e395, hx395_0, hx395_1, hx395_2⟩ := at_T76 HR0_0.out a1 p395 q395; (try rw [← Nbq7.out] at hx395_2); cases e395; replace hx395_0 := (HB.out.cell (wB_ w _ hx395_0)).trans hx395_0; replace hx395_1 := (HB.out.cell (wB_ w _ hx395_1)).trans hx395_1; replace hx395_2 := (HB.out.cell (wB_ w _ hx395_2)).trans hx395_2; replace p395 := eq_true p395; replace q395 := eq_true q395))
   go_ret
   exact ⟨by rfl, by exact HB.out⟩
  ·
   replace c8 := Bool.eq_false_iff.mpr c8
   subst c8
   have H1 : ((impl_Trie_kids.f k l0_0 a1).bind fun t396 => (some ((t396.length : Int) != 1))) = some r := by rw [if_neg (show ¬ (false = true) by decide)] at H; exact H
   clear H
   have H := H1
   clear H1
   replace H := oB_.mp H
   obtain ⟨t396, A110, H⟩ := H
   try dsimp only at H
   have A11 := aM_ A110
   clear A110
   obtain rfl := Option.some.inj H
   go_enter Tryz.func84, Tryz.ntmps84
   go_wp2_with (first | ((with_reducible refine gD_ (N := 2) rfl ?_); (try (refine gate_guard (by rfl) ?_; dsimp only)); refine bE_ ?hg (N := 2) ?hd (cs := #[.slice A0_0 l0_0.length c0_0]) (t := 36) ?hr ?_; (case hd => rfl); (case hg => rfl); (case hr => (go_simp; done)); intro gb394 hg w12 hbox hb; have BK394 := aM_ (hbox); have GW394 := aM_ ((by rw [hg]; exact (bZ_ HB.out) : w.heap.size ≤ gb394)); have GE394 := GW394; replace HB := aM_ (bT_ HB.out hb); clear hb hbox hg; have hcz13_0 : w12.cell? ⟨gb394, 0, none⟩ = some (.slice A0_0 l0_0.length c0_0) := (bC_ BK394.out 0).trans rfl; have hfz13_0 := bF_ BK394.out 0; have p395 : 0 ≤ (a1 : Int) := of_decide_eq_true (by (with_reducible assumption)); have q395 : a1 < (l0_0.length : Int) := of_decide_eq_true (by (with_reducible assumption)); obtain ⟨ad395, e395, hx395_0, hx395_1, hx395_2⟩ := at_T76 HR0_0.out a1 p395 q395; (try rw [← Nbq7.out] at hx395_2); cases e395; replace hx395_0 := (HB.out.cell (wB_ w _ hx395_0)).trans hx395_0; replace hx395_1 := (HB.out.cell (wB_ w _ hx395_1)).trans hx395_1; replace hx395_2 := (HB.out.cell (wB_ w _ hx395_2)).trans hx395_2; replace p395 := eq_true p395; replace q395 := eq_true q395) | (go_at_call 99; (with_reducible refine (impl_Trie_kids.calls k _ _ l0_0 a1 t396 _ ?side1 ?side2 A11.out).mono ?_); (case side1 => repeat (first | exact (k4_ HR0_0.out HB.out) | (with_reducible refine Kd.C_alloc ?_ _) | (with_reducible refine Kd.C_drewN ?_ _) | (with_reducible refine Kd.C_drew ?_))); (case side2 => exact HC0_0.out); rintro e w14 ⟨v397, rfl, ho0, hb⟩; have HO398 := aM_ (k5_ ho0 (bZ_ HB.out)); replace BK394 := aM_ (bB_ BK394.out hb); replace HB := aM_ (bT_ HB.out hb); (try clear hb); (try clear ho0); obtain ⟨Ao15, co15, eo15⟩ := kS_ HO398.out; subst eo15))
   go_ret
   exact ⟨by rfl, by exact HB.out⟩
mutual
def impl_Trie_press.l0 : Nat → List ByteArray → List Int → List (S76) → Int → Int → List (S76) → List (S60) → Option ((List (S60)))
 | 0, _, _, _, _, _, _, _ => none
 | k + 1, x3, x6, x22, x23, x24, x400000, x409000 => if x24 < x23 then (if 0 ≤ x24 then (if x24 < (x22.length : Int) then ((impl_Trie_stays.f k x400000 x24).bind fun t411 => (if t411 = true then (if x24 > 0 then (impl_Trie_press.l1 k x3 x6 x24 ((rd_T76 x22 x24).f1) x22 x23 x24 x400000 x409000 (⟨#[]⟩ : ByteArray) (-1) ((rd_T76 x22 x24).f2)) else (if x24 < (x6.length : Int) then (if x409000.length < 4398046511104 then (impl_Trie_press.l0 k x3 (x6.set (x24 : Int).toNat (x409000.length : Int)) x22 x23 (wrap64 (x24 + 1)) x400000 (x409000 ++ [(⟨(⟨#[]⟩ : ByteArray), (-1), (rd_T76 x22 x24).f2⟩ : S60)])) else (none)) else (none))) else (impl_Trie_press.l0 k x3 x6 x22 x23 (wrap64 (x24 + 1)) x400000 x409000))) else (none)) else (none)) else (some x409000)
def impl_Trie_press.l1 : Nat → List ByteArray → List Int → Int → Int → List (S76) → Int → Int → List (S76) → List (S60) → ByteArray → Int → Bool → Option ((List (S60)))
 | 0, _, _, _, _, _, _, _, _, _, _, _, _ => none
 | k + 1, x3, x6, x7, x10, x22, x23, x24, x400000, x409000, x413000, x413001, x413002 => (impl_Trie_stays.f k x400000 x10).bind fun t413 => (if t413 = true then (if 0 ≤ x7 then (if x7 < (x3.length : Int) then (if 0 ≤ x10 then (if x10 < (x3.length : Int) then (if 0 ≤ ((rdOf eB_ x3 x10).size : Int) then (if ((rdOf eB_ x3 x10).size : Int) ≤ ((rdOf eB_ x3 x7).size : Int) then (if x10 < (x6.length : Int) then (if x7 < (x6.length : Int) then (if x409000.length < 4398046511104 then (impl_Trie_press.l0 k x3 (x6.set (x7 : Int).toNat (x409000.length : Int)) x22 x23 (wrap64 (x24 + 1)) x400000 (x409000 ++ [(⟨(rdOf eB_ x3 x7).extract (((rdOf eB_ x3 x10).size : Int) : Int).toNat (rdOf eB_ x3 x7).size, rd x6 x10, x413002⟩ : S60)])) else (none)) else (none)) else (none)) else (none)) else (none)) else (none)) else (none)) else (none)) else (none)) else (if 0 ≤ x10 then (if x10 < (x400000.length : Int) then (impl_Trie_press.l1 k x3 x6 x7 ((rd_T76 x400000 x10).f1) x22 x23 x24 x400000 x409000 x413000 x413001 x413002) else (none)) else (none)))
end
def impl_Trie_press.f (k : Nat) (l0_0 : List (S76)) : Option ((List (S60))) := (impl_Trie_prefixes.f k l0_0).bind fun bt401 => (if 0 ≤ (l0_0.length : Int) then (if ((l0_0.length : Int) : Int).toNat ≤ 35184372088832 then (impl_Trie_press.l0 k bt401.1 (List.replicate ((l0_0.length : Int) : Int).toNat 0) l0_0 (l0_0.length : Int) 0 l0_0 ([] : List (S60))) else (none)) else (none))
theorem impl_Trie_press.mono_l : ∀ k, (∀ y0 y1 y2 y3 y4 y5 y6, LeO (impl_Trie_press.l0 k y0 y1 y2 y3 y4 y5 y6) (impl_Trie_press.l0 (k + 1) y0 y1 y2 y3 y4 y5 y6)) ∧ (∀ y0 y1 y2 y3 y4 y5 y6 y7 y8 y9 y10 y11, LeO (impl_Trie_press.l1 k y0 y1 y2 y3 y4 y5 y6 y7 y8 y9 y10 y11) (impl_Trie_press.l1 (k + 1) y0 y1 y2 y3 y4 y5 y6 y7 y8 y9 y10 y11))
 | 0 => ⟨fun _ _ _ _ _ _ _ r h => by simp [impl_Trie_press.l0] at h, fun _ _ _ _ _ _ _ _ _ _ _ _ r h => by simp [impl_Trie_press.l1] at h⟩
 | k + 1 => by
  obtain ⟨ih0, ih1⟩ := impl_Trie_press.mono_l k
  refine ⟨?_, ?_⟩
  ·
   intro y0 y1 y2 y3 y4 y5 y6
   unfold impl_Trie_press.l0
   repeat' first
   | (with_reducible exact ih0 _ _ _ _ _ _ _)
   | (with_reducible exact ih1 _ _ _ _ _ _ _ _ _ _ _ _)
   | (with_reducible exact impl_Trie_prefixes.mono _ _)
   | (with_reducible exact impl_Trie_stays.mono _ _ _)
   | (with_reducible exact l3_ _)
   | (with_reducible exact l0_ _)
   | (with_reducible refine l2_ ?_ ?_)
   | (with_reducible refine l1_ ?_ (fun _ => ?_))
   | exact ih0 _ _ _ _ _ _ _
   | exact ih1 _ _ _ _ _ _ _ _ _ _ _ _
   | exact impl_Trie_prefixes.mono _ _
   | exact impl_Trie_stays.mono _ _ _
   | exact l0_ _
   | refine l2_ ?_ ?_
   | refine l1_ ?_ (fun _ => ?_)
  ·
   intro y0 y1 y2 y3 y4 y5 y6 y7 y8 y9 y10 y11
   unfold impl_Trie_press.l1
   repeat' first
   | (with_reducible exact ih0 _ _ _ _ _ _ _)
   | (with_reducible exact ih1 _ _ _ _ _ _ _ _ _ _ _ _)
   | (with_reducible exact impl_Trie_prefixes.mono _ _)
   | (with_reducible exact impl_Trie_stays.mono _ _ _)
   | (with_reducible exact l3_ _)
   | (with_reducible exact l0_ _)
   | (with_reducible refine l2_ ?_ ?_)
   | (with_reducible refine l1_ ?_ (fun _ => ?_))
   | exact ih0 _ _ _ _ _ _ _
   | exact ih1 _ _ _ _ _ _ _ _ _ _ _ _
   | exact impl_Trie_prefixes.mono _ _
   | exact impl_Trie_stays.mono _ _ _
   | exact l0_ _
   | refine l2_ ?_ ?_
   | refine l1_ ?_ (fun _ => ?_)
theorem impl_Trie_press.mono : ∀ a0 k, LeO (impl_Trie_press.f k a0) (impl_Trie_press.f (k + 1) a0) := by
 intro a0 k
 obtain ⟨ih0, ih1⟩ := impl_Trie_press.mono_l k
 unfold impl_Trie_press.f
 repeat' first
   | (with_reducible exact ih0 _ _ _ _ _ _ _)
   | (with_reducible exact ih1 _ _ _ _ _ _ _ _ _ _ _ _)
   | (with_reducible exact impl_Trie_prefixes.mono _ _)
   | (with_reducible exact impl_Trie_stays.mono _ _ _)
   | (with_reducible exact l3_ _)
   | (with_reducible exact l0_ _)
   | (with_reducible refine l2_ ?_ ?_)
   | (with_reducible refine l1_ ?_ (fun _ => ?_))
   | exact ih0 _ _ _ _ _ _ _
   | exact ih1 _ _ _ _ _ _ _ _ _ _ _ _
   | exact impl_Trie_prefixes.mono _ _
   | exact impl_Trie_stays.mono _ _ _
   | exact l0_ _
   | refine l2_ ?_ ?_
   | refine l1_ ?_ (fun _ => ?_)
def impl_Trie_press.T2 : Bool × List (List Nat × List Nat) := (true, [([], []), ([], []), ([1], [1]), ([2], [2]), ([3, 3], [3]), ([], []), ([5, 0, 0, 5], [0, 5]), ([4, 6, 0, 1, 2, 3, 4, 5, 6], [4])])
def impl_Trie_press.B2 : List Nat := [0, 0, 2, 6, 14, 0, 33, 127]
theorem impl_Trie_press.tab2 : rtab .any (opsOf Tryz.f63 2) = impl_Trie_press.T2 := by kernel_rfl
theorem impl_Trie_press.bits2 : waitsOk impl_Trie_press.T2.2 impl_Trie_press.B2 = true := by kernel_rfl
def impl_Trie_press.T12 : Bool × List (List Nat × List Nat) := (true, [([], []), ([], []), ([0, 1], [0, 1]), ([2], [2]), ([], []), ([], []), ([4, 5], [4, 5]), ([6], [6]), ([7], [7]), ([3, 8], [3, 8]), ([], []), ([], []), ([10, 11], [10, 11]), ([12], [12]), ([0, 1, 2, 3, 4, 5, 6, 7, 8, 9], []), ([14, 9, 0, 1, 2, 3, 4, 5, 6, 7, 8, 9], [9, 14]), ([0, 1, 2, 3, 4, 5, 6, 7, 8, 9, 10, 11, 12, 13, 14, 15], []), ([16, 13, 15, 0, 1, 2, 3, 4, 5, 6, 7, 8, 9, 10, 11, 12, 13, 14, 15], [13, 16])])
def impl_Trie_press.B12 : List Nat := [0, 0, 3, 7, 0, 0, 48, 112, 240, 511, 0, 0, 3072, 7168, 1023, 17407, 65535, 131071]
theorem impl_Trie_press.tab12 : rtab .any (opsOf Tryz.f63 12) = impl_Trie_press.T12 := by kernel_rfl
theorem impl_Trie_press.bits12 : waitsOk impl_Trie_press.T12.2 impl_Trie_press.B12 = true := by kernel_rfl
theorem impl_Trie_press.calls (k : Nat) (A0_0 : Option Addr) (c0_0 : Nat) (l0_0 : List (S76)) (r : List (S60)) (w : World) (hr0_0 : Kd.C k76 w A0_0 l0_0.length l0_0) (hc0_0 : l0_0.length ≤ c0_0) (h : impl_Trie_press.f k l0_0 = some r) :
  Calls Tryz.prog 63 #[.agg #[.slice A0_0 l0_0.length c0_0]] w fun e w' => ∃ v0_ : Value, e = .returned (.agg #[v0_]) ∧ Kd.R k60 60 w' w.heap.size (fun _ => True) v0_ r ∧ Below w.heap.size w w' := by
 have hu36 := Tryz.underlying36
 have hu30 := Tryz.underlying30
 have hu76 := Tryz.underlying76
 have hu60 := Tryz.underlying60
 have HR0_0 := aM_ hr0_0
 have HC0_0 := aM_ hc0_0
 clear hr0_0 hc0_0
 have HB := aM_ (Below.refl w.heap.size w)
 have H : ((impl_Trie_prefixes.f k l0_0).bind fun bt401 => (if 0 ≤ (l0_0.length : Int) then (if ((l0_0.length : Int) : Int).toNat ≤ 35184372088832 then (impl_Trie_press.l0 k bt401.1 (List.replicate ((l0_0.length : Int) : Int).toNat 0) l0_0 (l0_0.length : Int) 0 l0_0 ([] : List (S60))) else (none)) else (none))) = some r := h
 clear h
 replace H := oB_.mp H
 obtain ⟨⟨t401, t404⟩, A20, H⟩ := H
 try dsimp only at H
 have A2 := aM_ A20
 clear A20
 by_cases c3 : 0 ≤ (l0_0.length : Int)
 rotate_left
 ·
  rw [if_neg c3] at H
  exact absurd H (by simp)
 rw [if_pos c3] at H
 have c3b0 := eq_true c3
 have c3b1 := decide_eq_true c3
 clear c3
 by_cases c4 : ((l0_0.length : Int) : Int).toNat ≤ 35184372088832
 rotate_left
 ·
  rw [if_neg c4] at H
  exact absurd H (by simp)
 rw [if_pos c4] at H
 have c4b0 := eq_true c4
 have c4b1 := decide_eq_true c4
 clear c4
 obtain ⟨y405, hy405⟩ : ∃ y_ : List Int, y_ = (List.replicate ((l0_0.length : Int) : Int).toNat 0) := ⟨_, rfl⟩
 replace H : (impl_Trie_press.l0 k t401 y405 l0_0 (l0_0.length : Int) 0 l0_0 ([] : List (S60))) = some r := by first | (rw [hy405]; with_reducible exact H) | (have H2_ := (Option.bind_some _ _).symm.trans H; rw [hy405]; with_reducible exact H2_) | (have H2_ := (Option.bind_some _ _).symm.trans H; with_reducible exact H2_) | with_reducible exact H | (rw [hy405]; exact H) | exact H
 have Ny405 := aM_ hy405
 clear hy405
 have H' := aM_ H
 clear H
 go_enter Tryz.func63, Tryz.ntmps63
 try go_wp2_with (first | ((with_reducible refine gD_ (N := 1) rfl ?_); refine bE_ ?hg (N := 1) ?hd (cs := #[.slice A0_0 l0_0.length c0_0]) (t := 36) ?hr ?_; (case hd => rfl); (case hg => rfl); (case hr => (go_simp; done)); intro gb399 hg w5 hbox hb; have BK399 := aM_ (hbox); have GW399 := aM_ ((by rw [hg]; exact (bZ_ HB.out) : w.heap.size ≤ gb399)); have GE399 := GW399; replace HB := aM_ (bT_ HB.out hb); clear hb hbox hg) | ((with_reducible refine gD_ (N := 2) rfl ?_); refine bE_ ?hg (N := 2) ?hd (cs := #[.slice none 0 0]) (t := 30) ?hr ?_; (case hd => rfl); (case hg => rfl); (case hr => (go_simp; done)); intro gb400 hg w6 hbox hb; have BK400 := aM_ (hbox); have GW400 := aM_ ((by rw [hg]; exact (bZ_ HB.out) : w.heap.size ≤ gb400)); have GE400 := GW400; replace HB := aM_ (bT_ HB.out hb); have NB399_400 := aM_ ((by rw [hg]; exact Nat.ne_of_lt (bL_ BK399.out) : gb399 ≠ gb400)); have NB400_399 := aM_ NB399_400.out.symm; replace BK399 := aM_ (bB_ BK399.out hb); clear hb hbox hg; have hnb7 := NB399_400.out; have hnc7 := NB400_399.out; have hcz8_0 : w6.cell? ⟨gb399, 0, none⟩ = some (.slice A0_0 l0_0.length c0_0) := (bC_ BK399.out 0).trans rfl; have hfz8_0 := bF_ BK399.out 0) | ((with_reducible refine gC_ (f := 83) rfl ?_); refine goesL_ (some 13) rfl rfl Tryz.func83 (by kernel_rfl) rfl #[.agg #[.slice A0_0 l0_0.length c0_0]] rfl (by (try simp only [sD_, sE_, sF_]); rfl) ?_; (with_reducible refine (impl_Trie_prefixes.calls k _ _ l0_0 t401 t404 _ ?side1 ?side2 A2.out).mono ?_); (case side1 => repeat (first | exact (k4_ HR0_0.out HB.out) | (with_reducible refine Kd.C_alloc ?_ _) | (with_reducible refine Kd.C_drewN ?_ _) | (with_reducible refine Kd.C_drew ?_))); (case side2 => exact HC0_0.out); rintro e w9 ⟨v402, rfl, ho0, hb⟩; refine ⟨_, rfl, ?_⟩; have HO403 := aM_ (k5_ ho0 (bZ_ HB.out)); replace BK399 := aM_ (bB_ BK399.out hb); replace BK400 := aM_ (bB_ BK400.out hb); replace HB := aM_ (bT_ HB.out hb); (try clear hb); (try clear ho0)))
 have n0_ := aM_ (k3_ HO403.out)
 have n1_ := aM_ (b1_ BK399.out)
 have n2_ := aM_ (b1_ BK400.out)
 have n3_ := aM_ (bD_ HB.out)
 clear HO403
 clear BK399
 clear BK400
 clear HB
 have HO403 := n0_
 have BK399 := n1_
 have BK400 := n2_
 have HB := n3_
 clear n0_ n1_ n2_ n3_
 refine start_ (n := 8) (S := fun w' => w'.cell? ⟨gb399, 0, none⟩ = some (.slice A0_0 l0_0.length c0_0)) (ds := []) #[fy, fy, fy, fy, fy, fy, fy, fy] (by kernel_rfl) rfl rfl ((bC_ BK399.out 0).trans rfl) (fun hHeld => ?_); refine with_tabW impl_Trie_press.tab2 impl_Trie_press.bits2 (fun HT_ HW_ => ?_)
 generalize w9.drew = w10 at HO403 BK399 BK400 HB hHeld ⊢
 refine pure_ (i := 0) (N := some 16) (v := ?_) (a' := ?_) #[ty, fy, fy, fy, fy, fy, fy, fy] rfl rfl (aO_ HT_.out (by kernel_rfl)) (fun _ _ _ h => h) (Or.inl ⟨by rfl, ?_⟩) ?_ ?_; rotate_left; (intro w'; go_simp; with_reducible rfl); rotate_left; (simp only [Act.put, sA_, sB_, sC_, i6_, i3_]; rfl)
 refine pure_ (i := 1) (N := some 17) (v := ?_) (a' := ?_) #[ty, ty, fy, fy, fy, fy, fy, fy] rfl rfl (aO_ HT_.out (by kernel_rfl)) (fun _ _ _ h => h) (Or.inl ⟨by rfl, ?_⟩) ?_ ?_; rotate_left; (intro w'; go_simp; with_reducible rfl); rotate_left; (simp only [Act.put, sA_, sB_, sC_, i6_, i3_]; rfl)
 refine take_ (i := 2) (N := some 18) (v := ?_) (a' := ?_) #[ty, ty, ty, fy, fy, fy, fy, fy] rfl rfl (tW_ HT_.out HW_.out (by kernel_rfl)) (fun _ _ _ h => h) (Or.inl ⟨by rfl, ?_⟩) hHeld ?_ ?_; rotate_left; (intro w' s0; go_simp; with_reducible rfl); rotate_left; (simp only [Act.put, sA_, sB_, sC_, i6_, i3_]; rfl)
 refine pure_ (i := 3) (N := some 19) (v := ?_) (a' := ?_) #[ty, ty, ty, ty, fy, fy, fy, fy] rfl rfl (aO_ HT_.out (by kernel_rfl)) (fun _ _ _ h => h) (Or.inl ⟨by rfl, ?_⟩) ?_ ?_; rotate_left; (intro w'; go_simp; with_reducible rfl); rotate_left; (simp only [Act.put, sA_, sB_, sC_, i6_, i3_]; rfl)
 refine join_ (σ := Value × Nat) 1 #[ty, ty, ty, ty, ty, ty, ty, fy] (fun s_ => [(20, s_.1), (5, .pointer (some ⟨s_.2, 0, none⟩))]) (fun s_ w' => (w'.cell? ⟨gb399, 0, none⟩ = some (.slice A0_0 l0_0.length c0_0)) ∧ (Kd.R Kd.string 9 w' w.heap.size (fun _ => True) v402 t401) ∧ (Kd.R (Kd.int .i64) 3 w' w.heap.size (fun _ => True) s_.1 y405) ∧ (w'.heap[gb399]? = some (.cells #[.slice A0_0 l0_0.length c0_0] 36 (0, 0))) ∧ (w'.heap[gb400]? = some (.cells #[.slice none 0 0] 30 (0, 0))) ∧ (w'.heap[s_.2]? = some (.cells #[.slice none 0 0] 30 (0, 0))) ∧ (w.heap.size ≤ s_.2) ∧ (w.heap.size ≤ s_.2) ∧ (gb399 ≠ s_.2) ∧ (s_.2 ≠ gb399) ∧ (gb400 ≠ s_.2) ∧ (s_.2 ≠ gb400) ∧ (Below w.heap.size w w')) ?_ ?_
 rotate_left
 ·
  intro hCont
  refine two_ (i := 4) (j := 5) (Ni := some 20) (Nj := some 5) #[ty, ty, ty, ty, ty, fy, fy, fy] #[ty, ty, ty, ty, fy, ty, fy, fy] rfl rfl rfl rfl (two_of HT_.out (by kernel_rfl)) (by decide) (by decide) (fun K hK => ?_) (fun K hK => ?_)
  ·
   skip
   refine Kd.R_make_step (Kd.int .i64) _ 3 (by rfl) (N := 20) rfl 87 _ _ rfl (l0_0.length : Int) rfl rfl Tryz.underlying87 (.int .i64 0) 8 info3 rfl (by decide) (by omega) 0 (ok := fun _ => True) (okp := fun _ => True) rfl (fun _ hk => hk) trivial (of_decide_eq_true (by (with_reducible assumption))) (Nat.le_trans (Nat.mul_le_mul_right _ (of_decide_eq_true (by (with_reducible assumption)) : (l0_0.length : Int).toNat ≤ 35184372088832)) (by omega)) (Below.refl _ _) (Nat.le_refl _) ?_
   intro v406 w11 ho12 hb hg_ hnew_
   clear hg_ hnew_
   (rw [← Ny405.out] at ho12)
   have n0_ := aM_ (kB_ HO403.out hb)
   have n1_ := aM_ (k5_ ho12 (bZ_ HB.out))
   have n2_ := aM_ (bB_ BK399.out hb)
   have n3_ := aM_ (bB_ BK400.out hb)
   have n4_ := aM_ (bT_ HB.out hb)
   clear HO403
   clear BK399
   clear BK400
   clear HB
   have HO403 := n0_
   have HO407 := n1_
   have BK399 := n2_
   have BK400 := n3_
   have HB := n4_
   clear n0_ n1_ n2_ n3_ n4_
   clear hb ho12
   refine hK.out _ _ ((bC_ BK399.out 0).trans rfl) (fun hHeld => ?_)
   clear hK K
   refine norm_ (a' := ?_) ?_ ?_; rotate_left; (show Act.put _ (some 20) _ = _; simp only [Act.put, sA_, sB_, sC_, i6_, i3_]; rfl)
   refine one_ (i := 5) (N := some 5) #[ty, ty, ty, ty, ty, ty, fy, fy] rfl rfl (one_of HT_.out (by kernel_rfl)) (by decide) (fun K hK => ?_)
   refine box_step ?hg (N := 5) ?hd (cs := #[.slice none 0 0]) (t := 30) ?hr ?_; (case hd => rfl); (case hg => rfl); (case hr => (go_simp; done))
   intro gb408 hg w13 hbox hb
   have n0_ := aM_ (kB_ HO403.out hb)
   have n1_ := aM_ (kB_ HO407.out hb)
   have n2_ := aM_ (bB_ BK399.out hb)
   have n3_ := aM_ (bB_ BK400.out hb)
   have n4_ := aM_ (bT_ HB.out hb)
   have n5_ := aM_ (hbox)
   have n6_ := aM_ ((by rw [hg]; exact (bZ_ HB.out) : w.heap.size ≤ gb408))
   have n7_ := aM_ ((by rw [hg]; exact (bZ_ HB.out) : w.heap.size ≤ gb408))
   have n8_ := aM_ ((by rw [hg]; exact Nat.ne_of_lt (bL_ BK399.out) : gb399 ≠ gb408))
   have n9_ := aM_ ((by rw [hg]; exact Nat.ne_of_gt (bL_ BK399.out) : gb408 ≠ gb399))
   have n10_ := aM_ ((by rw [hg]; exact Nat.ne_of_lt (bL_ BK400.out) : gb400 ≠ gb408))
   have n11_ := aM_ ((by rw [hg]; exact Nat.ne_of_gt (bL_ BK400.out) : gb408 ≠ gb400))
   clear HO403
   clear HO407
   clear BK399
   clear BK400
   clear HB
   have HO403 := n0_
   have HO407 := n1_
   have BK399 := n2_
   have BK400 := n3_
   have HB := n4_
   have BK408 := n5_
   have GW408 := n6_
   have GE408 := n7_
   have NB399_408 := n8_
   have NB408_399 := n9_
   have NB400_408 := n10_
   have NB408_400 := n11_
   clear n0_ n1_ n2_ n3_ n4_ n5_ n6_ n7_ n8_ n9_ n10_ n11_
   clear hb hbox hg
   refine hK.out _ _ ((bC_ BK399.out 0).trans rfl) (fun hHeld => ?_)
   clear hK K
   refine norm_ (a' := ?_) ?_ ?_; rotate_left; (show Act.put _ (some 5) _ = _; simp only [Act.put, sA_, sB_, sC_, i6_, i3_]; rfl)
   refine one_ (i := 6) (N := none) #[ty, ty, ty, ty, ty, ty, ty, fy] rfl rfl (one_of HT_.out (by kernel_rfl)) (by decide) (fun K hK => ?_)
   have hs14 : w13.cell? ⟨gb408, 0, none⟩ = some (.slice none 0 0) := (bC_ BK408.out 0).trans rfl
   have hfs14 := bF_ BK408.out 0
   have hns14_0 := NB399_408.out
   have hns14_1 := NB400_408.out
   have hms14_0 := NB408_399.out
   have hms14_1 := NB408_400.out
   refine skip_ (w1 := ?_) (by rfl) rfl ?_ ?_
   rotate_left
   ·
    go_simp
    rfl
   refine hK.out _ _ (((cF_ (p := ⟨gb408, _, none⟩) NB399_408.out _).trans (hHeld))) (fun hHeld => ?_)
   clear hK K
   exact norm_ (by simp only [putAll, Act.put, sA_, sB_, sC_]) (hCont (v406, gb408) _ ⟨hHeld, (by exact kM_ (kF_ (p := ⟨gb408, 0, none⟩) (kT_ HO403.out BK408.out (by decide)) (fun _ hk => hk.2) (.slice none 0 0)) (fun _ hk => trivial)), (by exact kM_ (kF_ (p := ⟨gb408, 0, none⟩) (kT_ HO407.out BK408.out (by decide)) (fun _ hk => hk.2) (.slice none 0 0)) (fun _ hk => trivial)), (by refine bR_ ?_ NB399_408.out _; exact BK399.out), (by refine bR_ ?_ NB400_408.out _; exact BK400.out), (by refine bP_ (cs := #[.slice none 0 0]) ?_ 0 _ rfl; exact BK408.out), GW408.out, GE408.out, NB399_408.out, NB408_399.out, NB400_408.out, NB408_400.out, (by repeat (first | (with_reducible first | exact HB.out | apply bA_ | apply bN_ | apply bD_ | refine bS_ ?_ GE399.out | refine bS_ ?_ GE400.out | refine bS_ ?_ GE408.out) | exact HB.out))⟩)
  ·
   skip
   refine box_step ?hg (N := 5) ?hd (cs := #[.slice none 0 0]) (t := 30) ?hr ?_; (case hd => rfl); (case hg => rfl); (case hr => (go_simp; done))
   intro gb408 hg w11 hbox hb
   have n0_ := aM_ (kB_ HO403.out hb)
   have n1_ := aM_ (bB_ BK399.out hb)
   have n2_ := aM_ (bB_ BK400.out hb)
   have n3_ := aM_ (bT_ HB.out hb)
   have n4_ := aM_ (hbox)
   have n5_ := aM_ ((by rw [hg]; exact (bZ_ HB.out) : w.heap.size ≤ gb408))
   have n6_ := aM_ ((by rw [hg]; exact (bZ_ HB.out) : w.heap.size ≤ gb408))
   have n7_ := aM_ ((by rw [hg]; exact Nat.ne_of_lt (bL_ BK399.out) : gb399 ≠ gb408))
   have n8_ := aM_ ((by rw [hg]; exact Nat.ne_of_gt (bL_ BK399.out) : gb408 ≠ gb399))
   have n9_ := aM_ ((by rw [hg]; exact Nat.ne_of_lt (bL_ BK400.out) : gb400 ≠ gb408))
   have n10_ := aM_ ((by rw [hg]; exact Nat.ne_of_gt (bL_ BK400.out) : gb408 ≠ gb400))
   clear HO403
   clear BK399
   clear BK400
   clear HB
   have HO403 := n0_
   have BK399 := n1_
   have BK400 := n2_
   have HB := n3_
   have BK408 := n4_
   have GW408 := n5_
   have GE408 := n6_
   have NB399_408 := n7_
   have NB408_399 := n8_
   have NB400_408 := n9_
   have NB408_400 := n10_
   clear n0_ n1_ n2_ n3_ n4_ n5_ n6_ n7_ n8_ n9_ n10_
   clear hb hbox hg
   refine hK.out _ _ ((bC_ BK399.out 0).trans rfl) (fun hHeld => ?_)
   clear hK K
   refine norm_ (a' := ?_) ?_ ?_; rotate_left; (show Act.put _ (some 5) _ = _; simp only [Act.put, sA_, sB_, sC_, i6_, i3_]; rfl)
   refine two_ (i := 4) (j := 6) (Ni := some 20) (Nj := none) #[ty, ty, ty, ty, ty, ty, fy, fy] #[ty, ty, ty, ty, fy, ty, ty, fy] rfl rfl rfl rfl (two_of HT_.out (by kernel_rfl)) (by decide) (by decide) (fun K hK => ?_) (fun K hK => ?_)
   ·
    skip
    refine Kd.R_make_step (Kd.int .i64) _ 3 (by rfl) (N := 20) rfl 87 _ _ rfl (l0_0.length : Int) rfl rfl Tryz.underlying87 (.int .i64 0) 8 info3 rfl (by decide) (by omega) 0 (ok := fun _ => True) (okp := fun _ => True) rfl (fun _ hk => hk) trivial (of_decide_eq_true (by (with_reducible assumption))) (Nat.le_trans (Nat.mul_le_mul_right _ (of_decide_eq_true (by (with_reducible assumption)) : (l0_0.length : Int).toNat ≤ 35184372088832)) (by omega)) (Below.refl _ _) (Nat.le_refl _) ?_
    intro v406 w12 ho13 hb hg_ hnew_
    clear hg_ hnew_
    (rw [← Ny405.out] at ho13)
    have n0_ := aM_ (kB_ HO403.out hb)
    have n1_ := aM_ (k5_ ho13 (bZ_ HB.out))
    have n2_ := aM_ (bB_ BK399.out hb)
    have n3_ := aM_ (bB_ BK400.out hb)
    have n4_ := aM_ (bB_ BK408.out hb)
    have n5_ := aM_ (bT_ HB.out hb)
    clear HO403
    clear BK399
    clear BK400
    clear BK408
    clear HB
    have HO403 := n0_
    have HO407 := n1_
    have BK399 := n2_
    have BK400 := n3_
    have BK408 := n4_
    have HB := n5_
    clear n0_ n1_ n2_ n3_ n4_ n5_
    clear hb ho13
    refine hK.out _ _ ((bC_ BK399.out 0).trans rfl) (fun hHeld => ?_)
    clear hK K
    refine norm_ (a' := ?_) ?_ ?_; rotate_left; (show Act.put _ (some 20) _ = _; simp only [Act.put, sA_, sB_, sC_, i6_, i3_]; rfl)
    refine one_ (i := 6) (N := none) #[ty, ty, ty, ty, ty, ty, ty, fy] rfl rfl (one_of HT_.out (by kernel_rfl)) (by decide) (fun K hK => ?_)
    have hs14 : w12.cell? ⟨gb408, 0, none⟩ = some (.slice none 0 0) := (bC_ BK408.out 0).trans rfl
    have hfs14 := bF_ BK408.out 0
    have hns14_0 := NB399_408.out
    have hns14_1 := NB400_408.out
    have hms14_0 := NB408_399.out
    have hms14_1 := NB408_400.out
    refine skip_ (w1 := ?_) (by rfl) rfl ?_ ?_
    rotate_left
    ·
     go_simp
     rfl
    refine hK.out _ _ (((cF_ (p := ⟨gb408, _, none⟩) NB399_408.out _).trans (hHeld))) (fun hHeld => ?_)
    clear hK K
    exact norm_ (by simp only [putAll, Act.put, sA_, sB_, sC_]) (hCont (v406, gb408) _ ⟨hHeld, (by exact kM_ (kF_ (p := ⟨gb408, 0, none⟩) (kT_ HO403.out BK408.out (by decide)) (fun _ hk => hk.2) (.slice none 0 0)) (fun _ hk => trivial)), (by exact kM_ (kF_ (p := ⟨gb408, 0, none⟩) (kT_ HO407.out BK408.out (by decide)) (fun _ hk => hk.2) (.slice none 0 0)) (fun _ hk => trivial)), (by refine bR_ ?_ NB399_408.out _; exact BK399.out), (by refine bR_ ?_ NB400_408.out _; exact BK400.out), (by refine bP_ (cs := #[.slice none 0 0]) ?_ 0 _ rfl; exact BK408.out), GW408.out, GE408.out, NB399_408.out, NB408_399.out, NB400_408.out, NB408_400.out, (by repeat (first | (with_reducible first | exact HB.out | apply bA_ | apply bN_ | apply bD_ | refine bS_ ?_ GE399.out | refine bS_ ?_ GE400.out | refine bS_ ?_ GE408.out) | exact HB.out))⟩)
   ·
    skip
    have hs12 : w11.cell? ⟨gb408, 0, none⟩ = some (.slice none 0 0) := (bC_ BK408.out 0).trans rfl
    have hfs12 := bF_ BK408.out 0
    have hns12_0 := NB399_408.out
    have hns12_1 := NB400_408.out
    have hms12_0 := NB408_399.out
    have hms12_1 := NB408_400.out
    refine skip_ (w1 := ?_) (by rfl) rfl ?_ ?_
    rotate_left
    ·
     go_simp
     rfl
    refine hK.out _ _ (((cF_ (p := ⟨gb408, _, none⟩) NB399_408.out _).trans (hHeld))) (fun hHeld => ?_)
    clear hK K
    refine one_ (i := 4) (N := some 20) #[ty, ty, ty, ty, ty, ty, ty, fy] rfl rfl (one_of HT_.out (by kernel_rfl)) (by decide) (fun K hK => ?_)
    refine Kd.R_make_step (Kd.int .i64) _ 3 (by rfl) (N := 20) rfl 87 _ _ rfl (l0_0.length : Int) rfl rfl Tryz.underlying87 (.int .i64 0) 8 info3 rfl (by decide) (by omega) 0 (ok := fun _ => True) (okp := fun _ => True) rfl (fun _ hk => hk) trivial (of_decide_eq_true (by (with_reducible assumption))) (Nat.le_trans (Nat.mul_le_mul_right _ (of_decide_eq_true (by (with_reducible assumption)) : (l0_0.length : Int).toNat ≤ 35184372088832)) (by omega)) (Below.refl _ _) (Nat.le_refl _) ?_
    intro v406 w13 ho14 hb hg_ hnew_
    clear hg_ hnew_
    (rw [← Ny405.out] at ho14)
    have n0_ := aM_ (kB_ (by exact (kM_ (kF_ (p := ⟨gb408, 0, none⟩) (kT_ HO403.out BK408.out (by decide)) (fun _ hk => hk.2) (.slice none 0 0)) (fun _ h_ => h_.1))) hb)
    have n1_ := aM_ (k5_ ho14 (bZ_ (by repeat (first | (with_reducible first | exact HB.out | apply bA_ | apply bN_ | apply bD_ | refine bS_ ?_ GE399.out | refine bS_ ?_ GE400.out | refine bS_ ?_ GE408.out) | exact HB.out))))
    have n2_ := aM_ (bB_ (g := gb399) (o := .cells #[.slice A0_0 l0_0.length c0_0] 36 (0, 0)) (by refine bR_ ?_ NB399_408.out _; exact BK399.out) hb)
    have n3_ := aM_ (bB_ (g := gb400) (o := .cells #[.slice none 0 0] 30 (0, 0)) (by refine bR_ ?_ NB400_408.out _; exact BK400.out) hb)
    have n4_ := aM_ (bB_ (g := gb408) (o := .cells #[.slice none 0 0] 30 (0, 0)) (by refine bP_ (cs := #[.slice none 0 0]) ?_ 0 _ rfl; exact BK408.out) hb)
    have n5_ := aM_ (bT_ (by repeat (first | (with_reducible first | exact HB.out | apply bA_ | apply bN_ | apply bD_ | refine bS_ ?_ GE399.out | refine bS_ ?_ GE400.out | refine bS_ ?_ GE408.out) | exact HB.out)) hb)
    clear HO403
    clear BK399
    clear BK400
    clear BK408
    clear HB
    have HO403 := n0_
    have HO407 := n1_
    have BK399 := n2_
    have BK400 := n3_
    have BK408 := n4_
    have HB := n5_
    clear n0_ n1_ n2_ n3_ n4_ n5_
    clear hb ho14
    refine hK.out _ _ ((bC_ BK399.out 0).trans rfl) (fun hHeld => ?_)
    clear hK K
    refine norm_ (a' := ?_) ?_ ?_; rotate_left; (show Act.put _ (some 20) _ = _; simp only [Act.put, sA_, sB_, sC_, i6_, i3_]; rfl)
    exact norm_ (by simp only [putAll, Act.put, sA_, sB_, sC_]) (hCont (v406, gb408) _ ⟨hHeld, HO403.out, HO407.out, BK399.out, BK400.out, BK408.out, GW408.out, GE408.out, NB399_408.out, NB408_399.out, NB400_408.out, NB408_400.out, HB.out⟩)
 rintro ⟨v406, gb408⟩ w15 ⟨hS_, h0_, h1_, h2_, h3_, h4_, h5_, h6_, h7_, h8_, h9_, h10_, h11_⟩
 have n0_ : Aside0 (Kd.R Kd.string 9 w15 w.heap.size (fun _ => True) v402 t401) := ⟨h0_⟩
 have n1_ : Aside0 (Kd.R (Kd.int .i64) 3 w15 w.heap.size (fun _ => True) v406 y405) := ⟨h1_⟩
 have n2_ : Aside0 (w15.heap[gb399]? = some (.cells #[.slice A0_0 l0_0.length c0_0] 36 (0, 0))) := ⟨h2_⟩
 have n3_ : Aside0 (w15.heap[gb400]? = some (.cells #[.slice none 0 0] 30 (0, 0))) := ⟨h3_⟩
 have n4_ : Aside0 (w15.heap[gb408]? = some (.cells #[.slice none 0 0] 30 (0, 0))) := ⟨h4_⟩
 have n5_ : Aside0 (w.heap.size ≤ gb408) := ⟨h5_⟩
 have n6_ : Aside0 (w.heap.size ≤ gb408) := ⟨h6_⟩
 have n7_ : Aside0 (gb399 ≠ gb408) := ⟨h7_⟩
 have n8_ : Aside0 (gb408 ≠ gb399) := ⟨h8_⟩
 have n9_ : Aside0 (gb400 ≠ gb408) := ⟨h9_⟩
 have n10_ : Aside0 (gb408 ≠ gb400) := ⟨h10_⟩
 have n11_ : Aside0 (Below w.heap.size w w15) := ⟨h11_⟩
 clear HO403
 clear BK399
 clear BK400
 clear HB
 clear h0_ h1_ h2_ h3_ h4_ h5_ h6_ h7_ h8_ h9_ h10_ h11_
 have HO403 := n0_
 have HO407 := n1_
 have BK399 := n2_
 have BK400 := n3_
 have BK408 := n4_
 have GW408 := n5_
 have GE408 := n6_
 have NB399_408 := n7_
 have NB408_399 := n8_
 have NB400_408 := n9_
 have NB408_400 := n10_
 have HB := n11_
 clear n0_ n1_ n2_ n3_ n4_ n5_ n6_ n7_ n8_ n9_ n10_ n11_
 have hHeld : w15.cell? ⟨gb399, 0, none⟩ = some (.slice A0_0 l0_0.length c0_0) := hS_
 refine norm_ (a' := ?_) ?_ ?_
 rotate_left
 ·
  simp only [putAll, Act.put, sA_, sB_, sC_]
  rfl
 refine pure_ (i := 7) (N := some 6) (v := ?_) (a' := ?_) #[ty, ty, ty, ty, ty, ty, ty, ty] rfl rfl (aO_ HT_.out (by kernel_rfl)) (fun _ _ _ h => h) (Or.inl ⟨by rfl, ?_⟩) ?_ ?_; rotate_left; (intro w'; go_simp; with_reducible rfl); rotate_left; (simp only [Act.put, sA_, sB_, sC_, i6_, i3_]; rfl)
 refine done_ (done_of HT_.out (by kernel_rfl)) ?_
 have hnb16 := NB399_408.out
 have hnc16 := NB408_399.out
 have hcz17_0 : w15.cell? ⟨gb399, 0, none⟩ = some (.slice A0_0 l0_0.length c0_0) := (bC_ BK399.out 0).trans rfl
 have hfz17_0 := bF_ BK399.out 0
 try go_wp2
 go_loopg [24] k (fun kq v24 w' => ∃ (x6_1 : List Int) (x24_1 : Int) (x409000_1 : List (S60)) (u409000 : Value), v24 = .int .i64 x24_1 ∧ Aside0 (impl_Trie_press.l0 kq t401 x6_1 l0_0 (l0_0.length : Int) x24_1 l0_0 x409000_1 = some r) ∧ Aside0 (kq ≤ k) ∧ Aside0 (Kd.R Kd.string 9 w' w.heap.size (fun _ => True) v402 t401) ∧ Aside0 (Kd.R (Kd.int .i64) 3 w' w.heap.size (fun _ => True) v406 x6_1) ∧ Aside0 (Kd.R k60 60 w' w.heap.size (fun _ => True) u409000 x409000_1) ∧ Aside0 (w'.heap[gb399]? = some (.cells #[(.slice A0_0 l0_0.length c0_0)] 36 (0, 0))) ∧ Aside0 (w'.heap[gb400]? = some (.cells #[(.slice none 0 0)] 30 (0, 0))) ∧ Aside0 (w'.heap[gb408]? = some (.cells #[u409000] 30 (0, 0))) ∧ Aside0 (Below w.heap.size w w'))
 case atStart => exact ⟨(y405), (0), (([] : List (S60))), (.slice none 0 0), (by rfl), H', ⟨Nat.le_refl _⟩, ⟨HO403.out⟩, ⟨HO407.out⟩, ⟨by exact Kd.R_nil _ _ _ _ _⟩, ⟨BK399.out⟩, ⟨BK400.out⟩, ⟨BK408.out⟩, ⟨HB.out⟩⟩
 case round =>
  clear H'
  try clear p2
  try clear c3b0
  try clear c3b1
  try clear c4b0
  try clear c4b1
  try clear hcz17_0
  try clear hcz8_0
  try clear hfz17_0
  try clear hfz8_0
  obtain ⟨x6_1, x24_1, x409000_1, u409000, rfl, HA, HK1, HO_3, HO_6, HO_409000, BK399, BK400, BK408, HB⟩ := hrel
  cases gk with
  | zero => exact absurd HA.out (by simp [impl_Trie_press.l0])
  | succ k1 =>
   have H := HA.out
   clear HA
   simp only [impl_Trie_press.l0] at H
   by_cases c18 : x24_1 < (l0_0.length : Int)
   ·
    rw [if_pos c18] at H
    have c18b0 := decide_eq_true c18
    clear c18
    by_cases c19 : 0 ≤ x24_1
    ·
     rw [if_pos c19] at H
     have c19b0 := decide_eq_true c19
     clear c19
     by_cases c20 : x24_1 < (l0_0.length : Int)
     ·
      rw [if_pos c20] at H
      have c20b0 := decide_eq_true c20
      clear c20
      replace H := oB_.mp H
      obtain ⟨t411, A210, H⟩ := H
      try dsimp only at H
      have A21 := aM_ A210
      clear A210
      by_cases c22 : t411 = true
      ·
       subst c22
       rw [if_pos rfl] at H
       by_cases c23 : x24_1 > 0
       ·
        rw [if_pos c23] at H
        have c23b0 := decide_eq_true c23
        clear c23
        have H' := aM_ H
        clear H
        have p409 : 0 ≤ (x24_1 : Int) := of_decide_eq_true (by (with_reducible assumption))
        have q409 : x24_1 < (l0_0.length : Int) := of_decide_eq_true (by (with_reducible assumption))
        obtain ⟨ad409, e409, hx409_0, hx409_1, hx409_2⟩ := at_T76 HR0_0.out x24_1 p409 q409
        cases e409
        replace hx409_0 := (HB.out.cell (wB_ w _ hx409_0)).trans hx409_0
        replace hx409_1 := (HB.out.cell (wB_ w _ hx409_1)).trans hx409_1
        replace hx409_2 := (HB.out.cell (wB_ w _ hx409_2)).trans hx409_2
        replace p409 := eq_true p409
        replace q409 := eq_true q409
        go_wp2_with (first | ((with_reducible refine gD_ (N := 8) rfl ?_); refine bE_ ?hg (N := 8) ?hd (cs := #[.int .i64 0, .int .i64 0, .bool false]) (t := 76) ?hr ?_; (case hd => rfl); (case hg => rfl); (case hr => (go_simp; done)); intro gb410 hg w24 hbox hb; replace HO_3 := aM_ (kB_ HO_3.out hb); replace HO_6 := aM_ (kB_ HO_6.out hb); replace HO_409000 := aM_ (kB_ HO_409000.out hb); have BK410 := aM_ (hbox); have GW410 := aM_ ((by rw [hg]; exact (bZ_ HB.out) : w.heap.size ≤ gb410)); have GE410 := GW410; replace HB := aM_ (bT_ HB.out hb); have NB399_410 := aM_ ((by rw [hg]; exact Nat.ne_of_lt (bL_ BK399.out) : gb399 ≠ gb410)); have NB410_399 := aM_ NB399_410.out.symm; replace BK399 := aM_ (bB_ BK399.out hb); have NB400_410 := aM_ ((by rw [hg]; exact Nat.ne_of_lt (bL_ BK400.out) : gb400 ≠ gb410)); have NB410_400 := aM_ NB400_410.out.symm; replace BK400 := aM_ (bB_ BK400.out hb); have NB408_410 := aM_ ((by rw [hg]; exact Nat.ne_of_lt (bL_ BK408.out) : gb408 ≠ gb410)); have NB410_408 := aM_ NB408_410.out.symm; replace BK408 := aM_ (bB_ BK408.out hb); clear hb hbox hg; have hnb25 := NB410_399.out; have hnc25 := NB399_410.out; have hnb26 := NB410_400.out; have hnc26 := NB400_410.out; have hnb27 := NB410_408.out; have hnc27 := NB408_410.out; have hcz28_0 : w24.cell? ⟨gb410, 0, none⟩ = some (.int .i64 0) := (bC_ BK410.out 0).trans rfl; have hcz28_1 : w24.cell? ⟨gb410, 1, none⟩ = some (.int .i64 0) := (bC_ BK410.out 1).trans rfl; have hcz28_2 : w24.cell? ⟨gb410, 2, none⟩ = some (.bool false) := (bC_ BK410.out 2).trans rfl; have hfz28_0 := bF_ BK410.out 0; have hfz28_1 := bF_ BK410.out 1; have hfz28_2 := bF_ BK410.out 2; have hnb29 := NB399_400.out; have hnc29 := NB400_399.out; have hnb30 := NB399_408.out; have hnc30 := NB408_399.out; have hcz31_0 : w24.cell? ⟨gb399, 0, none⟩ = some (.slice (some ad409) l0_0.length c0_0) := (bC_ BK399.out 0).trans rfl; have hfz31_0 := bF_ BK399.out 0) | ((with_reducible refine gC_ (f := 84) rfl ?_); refine goesL_ (some 31) rfl rfl Tryz.func84 (by kernel_rfl) rfl #[.agg #[.slice (some ad409) l0_0.length c0_0], .int .i64 x24_1] rfl (by (try simp only [sD_, sE_, sF_]); rfl) ?_; (with_reducible refine (impl_Trie_stays.calls k1 _ _ l0_0 x24_1 true _ ?side1 ?side2 A21.out).mono ?_); (case side1 => exact k4_ HR0_0.out (by repeat (first | (with_reducible first | exact HB.out | apply bA_ | apply bN_ | apply bD_ | refine bS_ ?_ GE399.out | refine bS_ ?_ GE400.out | refine bS_ ?_ GE408.out | refine bS_ ?_ GE410.out) | exact HB.out))); (case side2 => exact HC0_0.out); rintro e w32 ⟨rfl, hb⟩; refine ⟨_, rfl, ?_⟩; replace HO_3 := aM_ (kB_ (by exact (kM_ (kF_ (p := ⟨gb410, 2, none⟩) (kF_ (p := ⟨gb410, 1, none⟩) (kF_ (p := ⟨gb410, 0, none⟩) (kT_ HO_3.out BK410.out (by decide)) (fun _ hk => hk.2) (.int .i64 ((rd_T76 l0_0 x24_1).f0))) (fun _ hk => hk.2) (.int .i64 ((rd_T76 l0_0 x24_1).f1))) (fun _ hk => hk.2) (.bool ((rd_T76 l0_0 x24_1).f2))) (fun _ h_ => h_.1))) hb); replace HO_6 := aM_ (kB_ (by exact (kM_ (kF_ (p := ⟨gb410, 2, none⟩) (kF_ (p := ⟨gb410, 1, none⟩) (kF_ (p := ⟨gb410, 0, none⟩) (kT_ HO_6.out BK410.out (by decide)) (fun _ hk => hk.2) (.int .i64 ((rd_T76 l0_0 x24_1).f0))) (fun _ hk => hk.2) (.int .i64 ((rd_T76 l0_0 x24_1).f1))) (fun _ hk => hk.2) (.bool ((rd_T76 l0_0 x24_1).f2))) (fun _ h_ => h_.1))) hb); replace HO_409000 := aM_ (kB_ (by exact (kM_ (kF_ (p := ⟨gb410, 2, none⟩) (kF_ (p := ⟨gb410, 1, none⟩) (kF_ (p := ⟨gb410, 0, none⟩) (kT_ HO_409000.out BK410.out (by decide)) (fun _ hk => hk.2) (.int .i64 ((rd_T76 l0_0 x24_1).f0))) (fun _ hk => hk.2) (.int .i64 ((rd_T76 l0_0 x24_1).f1))) (fun _ hk => hk.2) (.bool ((rd_T76 l0_0 x24_1).f2))) (fun _ h_ => h_.1))) hb); replace BK399 := aM_ (bB_ (g := gb399) (o := .cells #[.slice (some ad409) l0_0.length c0_0] 36 (0, 0)) (by refine bR_ ?_ NB399_410.out _; refine bR_ ?_ NB399_410.out _; refine bR_ ?_ NB399_410.out _; exact BK399.out) hb); replace BK400 := aM_ (bB_ (g := gb400) (o := .cells #[.slice none 0 0] 30 (0, 0)) (by refine bR_ ?_ NB400_410.out _; refine bR_ ?_ NB400_410.out _; refine bR_ ?_ NB400_410.out _; exact BK400.out) hb); replace BK408 := aM_ (bB_ (g := gb408) (o := .cells #[u409000] 30 (0, 0)) (by refine bR_ ?_ NB408_410.out _; refine bR_ ?_ NB408_410.out _; refine bR_ ?_ NB408_410.out _; exact BK408.out) hb); replace BK410 := aM_ (bB_ (g := gb410) (o := .cells #[.int .i64 ((rd_T76 l0_0 x24_1).f0), .int .i64 ((rd_T76 l0_0 x24_1).f1), .bool ((rd_T76 l0_0 x24_1).f2)] 76 (0, 0)) (by refine bP_ (cs := #[.int .i64 ((rd_T76 l0_0 x24_1).f0), .int .i64 ((rd_T76 l0_0 x24_1).f1), .bool false]) ?_ 2 _ rfl; refine bP_ (cs := #[.int .i64 ((rd_T76 l0_0 x24_1).f0), .int .i64 0, .bool false]) ?_ 1 _ rfl; refine bP_ (cs := #[.int .i64 0, .int .i64 0, .bool false]) ?_ 0 _ rfl; exact BK410.out) hb); replace HB := aM_ (bT_ (by repeat (first | (with_reducible first | exact HB.out | apply bA_ | apply bN_ | apply bD_ | refine bS_ ?_ GE399.out | refine bS_ ?_ GE400.out | refine bS_ ?_ GE408.out | refine bS_ ?_ GE410.out) | exact HB.out)) hb); (try clear hb); have hcz33_0 : w32.cell? ⟨gb410, 0, none⟩ = some (.int .i64 ((rd_T76 l0_0 x24_1).f0)) := (bC_ BK410.out 0).trans rfl; have hcz33_1 : w32.cell? ⟨gb410, 1, none⟩ = some (.int .i64 ((rd_T76 l0_0 x24_1).f1)) := (bC_ BK410.out 1).trans rfl; have hcz33_2 : w32.cell? ⟨gb410, 2, none⟩ = some (.bool ((rd_T76 l0_0 x24_1).f2)) := (bC_ BK410.out 2).trans rfl; have hfz33_0 := bF_ BK410.out 0; have hfz33_1 := bF_ BK410.out 1; have hfz33_2 := bF_ BK410.out 2) | ((with_reducible refine gD_ (N := 9) rfl ?_); refine bE_ ?hg (N := 9) ?hd (cs := #[.string (⟨#[]⟩ : ByteArray), .int .i64 0, .bool false]) (t := 60) ?hr ?_; (case hd => rfl); (case hg => rfl); (case hr => (go_simp; done)); intro gb412 hg w34 hbox hb; replace HO_3 := aM_ (kB_ HO_3.out hb); replace HO_6 := aM_ (kB_ HO_6.out hb); replace HO_409000 := aM_ (kB_ (Kd.R_elderB HO_409000.out gb412 (Nat.le_of_eq hg.symm)) hb); have BK412 := aM_ (hbox); have GW412 := aM_ ((by rw [hg]; exact (bZ_ HB.out) : w.heap.size ≤ gb412)); have GE412 := GW412; replace HB := aM_ (bT_ HB.out hb); have NB399_412 := aM_ ((by rw [hg]; exact Nat.ne_of_lt (bL_ BK399.out) : gb399 ≠ gb412)); have NB412_399 := aM_ NB399_412.out.symm; replace BK399 := aM_ (bB_ BK399.out hb); have NB400_412 := aM_ ((by rw [hg]; exact Nat.ne_of_lt (bL_ BK400.out) : gb400 ≠ gb412)); have NB412_400 := aM_ NB400_412.out.symm; replace BK400 := aM_ (bB_ BK400.out hb); have NB408_412 := aM_ ((by rw [hg]; exact Nat.ne_of_lt (bL_ BK408.out) : gb408 ≠ gb412)); have NB412_408 := aM_ NB408_412.out.symm; replace BK408 := aM_ (bB_ BK408.out hb); have NB410_412 := aM_ ((by rw [hg]; exact Nat.ne_of_lt (bL_ BK410.out) : gb410 ≠ gb412)); have NB412_410 := aM_ NB410_412.out.symm; replace BK410 := aM_ (bB_ BK410.out hb); clear hb hbox hg; have hnb35 := NB412_399.out; have hnc35 := NB399_412.out; have hnb36 := NB412_400.out; have hnc36 := NB400_412.out; have hnb37 := NB412_408.out; have hnc37 := NB408_412.out; have hnb38 := NB412_410.out; have hnc38 := NB410_412.out; have hcz39_0 : w34.cell? ⟨gb412, 0, none⟩ = some (.string (⟨#[]⟩ : ByteArray)) := (bC_ BK412.out 0).trans rfl; have hcz39_1 : w34.cell? ⟨gb412, 1, none⟩ = some (.int .i64 0) := (bC_ BK412.out 1).trans rfl; have hcz39_2 : w34.cell? ⟨gb412, 2, none⟩ = some (.bool false) := (bC_ BK412.out 2).trans rfl; have hfz39_0 := bF_ BK412.out 0; have hfz39_1 := bF_ BK412.out 1; have hfz39_2 := bF_ BK412.out 2; have hcz40_0 : w34.cell? ⟨gb410, 0, none⟩ = some (.int .i64 ((rd_T76 l0_0 x24_1).f0)) := (bC_ BK410.out 0).trans rfl; have hcz40_1 : w34.cell? ⟨gb410, 1, none⟩ = some (.int .i64 ((rd_T76 l0_0 x24_1).f1)) := (bC_ BK410.out 1).trans rfl; have hcz40_2 : w34.cell? ⟨gb410, 2, none⟩ = some (.bool ((rd_T76 l0_0 x24_1).f2)) := (bC_ BK410.out 2).trans rfl; have hfz40_0 := bF_ BK410.out 0; have hfz40_1 := bF_ BK410.out 1; have hfz40_2 := bF_ BK410.out 2))
        go_loopg [10] k1 (fun kq v10 w' => ∃ (x10_2 : Int), v10 = .int .i64 x10_2 ∧ Aside0 (impl_Trie_press.l1 kq t401 x6_1 x24_1 x10_2 l0_0 (l0_0.length : Int) x24_1 l0_0 x409000_1 (⟨#[]⟩ : ByteArray) (-1) ((rd_T76 l0_0 x24_1).f2) = some r) ∧ Aside0 (kq ≤ k1) ∧ Aside0 (Kd.R Kd.string 9 w' w.heap.size (fun _ => True) v402 t401) ∧ Aside0 (Kd.R (Kd.int .i64) 3 w' w.heap.size (fun _ => True) v406 x6_1) ∧ Aside0 (Kd.R k60 60 w' w.heap.size (fun k_ => k_ ≠ gb412) u409000 x409000_1) ∧ Aside0 (w'.heap[gb399]? = some (.cells #[(.slice (some ad409) l0_0.length c0_0)] 36 (0, 0))) ∧ Aside0 (w'.heap[gb400]? = some (.cells #[(.slice none 0 0)] 30 (0, 0))) ∧ Aside0 (w'.heap[gb408]? = some (.cells #[u409000] 30 (0, 0))) ∧ Aside0 (w'.heap[gb410]? = some (.cells #[.int .i64 ((rd_T76 l0_0 x24_1).f0), .int .i64 ((rd_T76 l0_0 x24_1).f1), .bool ((rd_T76 l0_0 x24_1).f2)] 76 (0, 0))) ∧ Aside0 (w'.heap[gb412]? = some (.cells #[.string (⟨#[]⟩ : ByteArray), .int .i64 (-1), .bool ((rd_T76 l0_0 x24_1).f2)] 60 (0, 0))) ∧ Aside0 (Below w.heap.size w w'))
        case atStart => exact ⟨((rd_T76 l0_0 x24_1).f1), (by rfl), H', ⟨Nat.le_refl _⟩, ⟨by exact kM_ (kF_ (p := ⟨gb412, 2, none⟩) (kF_ (p := ⟨gb412, 1, none⟩) (kF_ (p := ⟨gb412, 0, none⟩) (kT_ HO_3.out BK412.out (by decide)) (fun _ hk => hk.2) (.string (⟨#[]⟩ : ByteArray))) (fun _ hk => hk.2) (.int .i64 (-1))) (fun _ hk => hk.2) (.bool ((rd_T76 l0_0 x24_1).f2))) (fun _ hk => trivial)⟩, ⟨by exact kM_ (kF_ (p := ⟨gb412, 2, none⟩) (kF_ (p := ⟨gb412, 1, none⟩) (kF_ (p := ⟨gb412, 0, none⟩) (kT_ HO_6.out BK412.out (by decide)) (fun _ hk => hk.2) (.string (⟨#[]⟩ : ByteArray))) (fun _ hk => hk.2) (.int .i64 (-1))) (fun _ hk => hk.2) (.bool ((rd_T76 l0_0 x24_1).f2))) (fun _ hk => trivial)⟩, ⟨by exact kM_ (kF_ (p := ⟨gb412, 2, none⟩) (kF_ (p := ⟨gb412, 1, none⟩) (kF_ (p := ⟨gb412, 0, none⟩) (kM_ HO_409000.out (fun k_ hk => (⟨hk, hk.2⟩ : _ ∧ k_ ≠ gb412))) (fun _ hk => hk.2) (.string (⟨#[]⟩ : ByteArray))) (fun _ hk => hk.2) (.int .i64 (-1))) (fun _ hk => hk.2) (.bool ((rd_T76 l0_0 x24_1).f2))) (fun _ hk => hk.1.2)⟩, ⟨by refine bR_ ?_ NB399_412.out _; refine bR_ ?_ NB399_412.out _; refine bR_ ?_ NB399_412.out _; exact BK399.out⟩, ⟨by refine bR_ ?_ NB400_412.out _; refine bR_ ?_ NB400_412.out _; refine bR_ ?_ NB400_412.out _; exact BK400.out⟩, ⟨by refine bR_ ?_ NB408_412.out _; refine bR_ ?_ NB408_412.out _; refine bR_ ?_ NB408_412.out _; exact BK408.out⟩, ⟨by refine bR_ ?_ NB410_412.out _; refine bR_ ?_ NB410_412.out _; refine bR_ ?_ NB410_412.out _; exact BK410.out⟩, ⟨by refine bP_ (cs := #[.string (⟨#[]⟩ : ByteArray), .int .i64 (-1), .bool false]) ?_ 2 _ rfl; refine bP_ (cs := #[.string (⟨#[]⟩ : ByteArray), .int .i64 0, .bool false]) ?_ 1 _ rfl; refine bP_ (cs := #[.string (⟨#[]⟩ : ByteArray), .int .i64 0, .bool false]) ?_ 0 _ rfl; exact BK412.out⟩, ⟨by repeat (first | (with_reducible first | exact HB.out | apply bA_ | apply bN_ | apply bD_ | refine bS_ ?_ GE399.out | refine bS_ ?_ GE400.out | refine bS_ ?_ GE408.out | refine bS_ ?_ GE410.out | refine bS_ ?_ GE412.out) | exact HB.out)⟩⟩
        case round =>
         clear H'
         try clear p2
         try clear c3b0
         try clear c3b1
         try clear c4b0
         try clear c4b1
         try clear p4
         try clear q4
         try clear hx4
         try clear p6
         try clear c18b0
         try clear c19b0
         try clear c20b0
         try clear c23b0
         try clear p40
         try clear q40
         try clear hx40
         try clear hcz17_0
         try clear hcz28_0
         try clear hcz28_1
         try clear hcz28_2
         try clear hcz31_0
         try clear hcz33_0
         try clear hcz33_1
         try clear hcz33_2
         try clear hcz39_0
         try clear hcz39_1
         try clear hcz39_2
         try clear hcz40_0
         try clear hcz40_1
         try clear hcz40_2
         try clear hcz8_0
         try clear hfz17_0
         try clear hfz28_0
         try clear hfz28_1
         try clear hfz28_2
         try clear hfz31_0
         try clear hfz33_0
         try clear hfz33_1
         try clear hfz33_2
         try clear hfz39_0
         try clear hfz39_1
         try clear hfz39_2
         try clear hfz40_0
         try clear hfz40_1
         try clear hfz40_2
         try clear hfz8_0
         try clear hx409_0
         try clear hx409_1
         try clear hx409_2
         try clear p2
         try clear p409
         try clear q409
         obtain ⟨x10_2, rfl, HA, HK2, HO_3, HO_6, HO_409000, BK399, BK400, BK408, BK410, BK412, HB⟩ := hrel
         cases gk with
         | zero => exact absurd HA.out (by simp [impl_Trie_press.l1])
         | succ k2 =>
          have H := HA.out
          clear HA
          simp only [impl_Trie_press.l1] at H
          replace H := oB_.mp H
          obtain ⟨t413, A410, H⟩ := H
          try dsimp only at H
          have A41 := aM_ A410
          clear A410
          by_cases c42 : t413 = true
          ·
           subst c42
           rw [if_pos rfl] at H
           by_cases c43 : 0 ≤ x24_1
           ·
            rw [if_pos c43] at H
            have c43b0 := decide_eq_true c43
            clear c43
            by_cases c44 : x24_1 < (t401.length : Int)
            ·
             rw [if_pos c44] at H
             have c44b0 := decide_eq_true c44
             clear c44
             by_cases c45 : 0 ≤ x10_2
             ·
              rw [if_pos c45] at H
              have c45b0 := decide_eq_true c45
              clear c45
              by_cases c46 : x10_2 < (t401.length : Int)
              ·
               rw [if_pos c46] at H
               have c46b0 := decide_eq_true c46
               clear c46
               by_cases c47 : 0 ≤ ((rdOf eB_ t401 x10_2).size : Int)
               ·
                rw [if_pos c47] at H
                have c47b0 := eq_true c47
                have c47b1 := decide_eq_true c47
                clear c47
                by_cases c48 : ((rdOf eB_ t401 x10_2).size : Int) ≤ ((rdOf eB_ t401 x24_1).size : Int)
                ·
                 rw [if_pos c48] at H
                 have c48b0 := eq_true c48
                 have c48b1 := decide_eq_true c48
                 clear c48
                 by_cases c49 : x10_2 < (x6_1.length : Int)
                 ·
                  rw [if_pos c49] at H
                  have c49b0 := decide_eq_true c49
                  clear c49
                  by_cases c50 : x24_1 < (x6_1.length : Int)
                  ·
                   rw [if_pos c50] at H
                   have c50b0 := decide_eq_true c50
                   clear c50
                   obtain ⟨y417, hy417⟩ : ∃ y_ : List Int, y_ = (x6_1.set (x24_1 : Int).toNat (x409000_1.length : Int)) := ⟨_, rfl⟩
                   replace H : (if x409000_1.length < 4398046511104 then (impl_Trie_press.l0 k2 t401 y417 l0_0 (l0_0.length : Int) (wrap64 (x24_1 + 1)) l0_0 (x409000_1 ++ [(⟨(rdOf eB_ t401 x24_1).extract (((rdOf eB_ t401 x10_2).size : Int) : Int).toNat (rdOf eB_ t401 x24_1).size, rd x6_1 x10_2, ((rd_T76 l0_0 x24_1).f2)⟩ : S60)])) else (none)) = some r := by first | (rw [hy417]; with_reducible exact H) | (have H2_ := (Option.bind_some _ _).symm.trans H; rw [hy417]; with_reducible exact H2_) | (have H2_ := (Option.bind_some _ _).symm.trans H; with_reducible exact H2_) | with_reducible exact H | (rw [hy417]; exact H) | exact H
                   have Ny417 := aM_ hy417
                   clear hy417
                   by_cases c52 : x409000_1.length < 4398046511104
                   ·
                    rw [if_pos c52] at H
                    have LMc52 := aM_ c52
                    clear c52
                    obtain ⟨y418, hy418⟩ : ∃ y_ : List (S60), y_ = (x409000_1 ++ [(⟨(rdOf eB_ t401 x24_1).extract (((rdOf eB_ t401 x10_2).size : Int) : Int).toNat (rdOf eB_ t401 x24_1).size, rd x6_1 x10_2, ((rd_T76 l0_0 x24_1).f2)⟩ : S60)]) := ⟨_, rfl⟩
                    replace H : (impl_Trie_press.l0 k2 t401 y417 l0_0 (l0_0.length : Int) (wrap64 (x24_1 + 1)) l0_0 y418) = some r := by first | (rw [hy418]; with_reducible exact H) | (have H2_ := (Option.bind_some _ _).symm.trans H; rw [hy418]; with_reducible exact H2_) | (have H2_ := (Option.bind_some _ _).symm.trans H; with_reducible exact H2_) | with_reducible exact H | (rw [hy418]; exact H) | exact H
                    have Ny418 := aM_ hy418
                    clear hy418
                    have H' := aM_ H
                    clear H
                    have hnb53 := NB399_400.out
                    have hnc53 := NB400_399.out
                    have hnb54 := NB399_408.out
                    have hnc54 := NB408_399.out
                    have hnb55 := NB399_410.out
                    have hnc55 := NB410_399.out
                    have hnb56 := NB399_412.out
                    have hnc56 := NB412_399.out
                    have hcz57_0 : wr.cell? ⟨gb399, 0, none⟩ = some (.slice (some ad409) l0_0.length c0_0) := (bC_ BK399.out 0).trans rfl
                    have hfz57_0 := bF_ BK399.out 0
                    try go_wp2_with (first | ((with_reducible refine gC_ (f := 84) rfl ?_); refine goesL_ (some 42) rfl rfl Tryz.func84 (by kernel_rfl) rfl #[.agg #[.slice (some ad409) l0_0.length c0_0], .int .i64 x10_2] rfl (by (try simp only [sD_, sE_, sF_]); rfl) ?_; (with_reducible refine (impl_Trie_stays.calls k2 _ _ l0_0 x10_2 true _ ?side1 ?side2 A41.out).mono ?_); (case side1 => repeat (first | exact (k4_ HR0_0.out HB.out) | (with_reducible refine Kd.C_alloc ?_ _) | (with_reducible refine Kd.C_drewN ?_ _) | (with_reducible refine Kd.C_drew ?_))); (case side2 => exact HC0_0.out); rintro e w58 ⟨rfl, hb⟩; refine ⟨_, rfl, ?_⟩; replace HO_3 := aM_ (kB_ HO_3.out hb); replace HO_6 := aM_ (kB_ HO_6.out hb); replace HO_409000 := aM_ (kB_ HO_409000.out hb); replace BK399 := aM_ (bB_ BK399.out hb); replace BK400 := aM_ (bB_ BK400.out hb); replace BK408 := aM_ (bB_ BK408.out hb); replace BK410 := aM_ (bB_ BK410.out hb); replace BK412 := aM_ (bB_ (g := gb412) (o := .cells #[.string (⟨#[]⟩ : ByteArray), .int .i64 (-1), .bool ((rd_T76 l0_0 x24_1).f2)] 60 (0, 0)) BK412.out hb); replace HB := aM_ (bT_ HB.out hb); (try clear hb)))
                    have n0_ := aM_ (k3_ HO_3.out)
                    have n1_ := aM_ (k3_ HO_6.out)
                    have n2_ := aM_ (k3_ HO_409000.out)
                    have n3_ := aM_ (b1_ BK399.out)
                    have n4_ := aM_ (b1_ BK400.out)
                    have n5_ := aM_ (b1_ BK408.out)
                    have n6_ := aM_ (b1_ BK410.out)
                    have n7_ := aM_ (b1_ BK412.out)
                    have n8_ := aM_ (bD_ HB.out)
                    clear HO_3
                    clear HO_6
                    clear HO_409000
                    clear BK399
                    clear BK400
                    clear BK408
                    clear BK410
                    clear BK412
                    clear HB
                    have HO_3 := n0_
                    have HO_6 := n1_
                    have HO_409000 := n2_
                    have BK399 := n3_
                    have BK400 := n4_
                    have BK408 := n5_
                    have BK410 := n6_
                    have BK412 := n7_
                    have HB := n8_
                    clear n0_ n1_ n2_ n3_ n4_ n5_ n6_ n7_ n8_
                    obtain ⟨Ao60, co60, eo60⟩ := kS_ HO_3.out
                    (subst eo60)
                    have p414 : 0 ≤ (x24_1 : Int) := of_decide_eq_true (by (with_reducible assumption))
                    have q414 : x24_1 < (t401.length : Int) := of_decide_eq_true (by (with_reducible assumption))
                    obtain ⟨ad414, e414, hx414_0⟩ := Kd.at_string (kR_ HO_3.out).2.2 x24_1 p414 q414
                    cases e414
                    replace p414 := eq_true p414
                    replace q414 := eq_true q414
                    have p415 : 0 ≤ (x10_2 : Int) := of_decide_eq_true (by (with_reducible assumption))
                    have q415 : x10_2 < (t401.length : Int) := of_decide_eq_true (by (with_reducible assumption))
                    obtain ⟨ad415, e415, hx415_0⟩ := Kd.at_string (kR_ HO_3.out).2.2 x10_2 p415 q415
                    obtain rfl : ad414 = ad415 := (by injection e415)
                    replace p415 := eq_true p415
                    replace q415 := eq_true q415
                    obtain ⟨Ao61, co61, eo61⟩ := kS_ HO_6.out
                    (subst eo61)
                    have p416 : 0 ≤ (x10_2 : Int) := of_decide_eq_true (by (with_reducible assumption))
                    have q416 : x10_2 < (x6_1.length : Int) := of_decide_eq_true (by (with_reducible assumption))
                    obtain ⟨ad416, e416, hx416_0⟩ := Kd.at_int (kR_ HO_6.out).2.2 x10_2 p416 q416
                    cases e416
                    replace p416 := eq_true p416
                    replace q416 := eq_true q416
                    refine start_ (n := 18) (S := fun w' => w'.cell? (ad414.add (x24_1).toNat) = some (.string (rdOf eB_ t401 x24_1)) ∧ w'.cell? (ad414.add (x10_2).toNat) = some (.string (rdOf eB_ t401 x10_2)) ∧ w'.cell? (ad416.add (x10_2).toNat) = some (.int .i64 (rd x6_1 x10_2))) (ds := []) #[fy, fy, fy, fy, fy, fy, fy, fy, fy, fy, fy, fy, fy, fy, fy, fy, fy, fy] (by kernel_rfl) rfl rfl ⟨hx414_0, hx415_0, hx416_0⟩ (fun hHeld => ?_); refine with_tabW impl_Trie_press.tab12 impl_Trie_press.bits12 (fun HT_ HW_ => ?_)
                    generalize w58.drew = w59 at HO_3 HO_6 HO_409000 BK399 BK400 BK408 BK410 BK412 HB hx414_0 hx415_0 hx416_0 hHeld ⊢
                    refine pure_ (i := 0) (N := some 50) (v := ?_) (a' := ?_) #[ty, fy, fy, fy, fy, fy, fy, fy, fy, fy, fy, fy, fy, fy, fy, fy, fy, fy] rfl rfl (aO_ HT_.out (by kernel_rfl)) (fun _ _ _ h => h) (Or.inl ⟨by rfl, ?_⟩) ?_ ?_; rotate_left; (intro w'; go_simp; with_reducible rfl); rotate_left; (simp only [Act.put, sA_, sB_, sC_, i6_, i3_]; rfl)
                    refine pure_ (i := 1) (N := some 51) (v := ?_) (a' := ?_) #[ty, ty, fy, fy, fy, fy, fy, fy, fy, fy, fy, fy, fy, fy, fy, fy, fy, fy] rfl rfl (aO_ HT_.out (by kernel_rfl)) (fun _ _ _ h => h) (Or.inl ⟨by rfl, ?_⟩) ?_ ?_; rotate_left; (intro w'; go_simp; with_reducible rfl); rotate_left; (simp only [Act.put, sA_, sB_, sC_, i6_, i3_]; rfl)
                    refine pure_ (i := 2) (N := some 52) (v := ?_) (a' := ?_) #[ty, ty, ty, fy, fy, fy, fy, fy, fy, fy, fy, fy, fy, fy, fy, fy, fy, fy] rfl rfl (aO_ HT_.out (by kernel_rfl)) (fun _ _ _ h => h) (Or.inl ⟨by rfl, ?_⟩) ?_ ?_; rotate_left; (intro w'; go_simp; with_reducible rfl); rotate_left; (simp only [Act.put, sA_, sB_, sC_, i6_, i3_]; rfl)
                    refine pure_ (i := 4) (N := some 54) (v := ?_) (a' := ?_) #[ty, ty, ty, fy, ty, fy, fy, fy, fy, fy, fy, fy, fy, fy, fy, fy, fy, fy] rfl rfl (aO_ HT_.out (by kernel_rfl)) (fun _ _ _ h => h) (Or.inl ⟨by rfl, ?_⟩) ?_ ?_; rotate_left; (intro w'; go_simp; with_reducible rfl); rotate_left; (simp only [Act.put, sA_, sB_, sC_, i6_, i3_]; rfl)
                    refine pure_ (i := 5) (N := some 55) (v := ?_) (a' := ?_) #[ty, ty, ty, fy, ty, ty, fy, fy, fy, fy, fy, fy, fy, fy, fy, fy, fy, fy] rfl rfl (aO_ HT_.out (by kernel_rfl)) (fun _ _ _ h => h) (Or.inl ⟨by rfl, ?_⟩) ?_ ?_; rotate_left; (intro w'; go_simp; with_reducible rfl); rotate_left; (simp only [Act.put, sA_, sB_, sC_, i6_, i3_]; rfl)
                    refine pure_ (i := 6) (N := some 56) (v := ?_) (a' := ?_) #[ty, ty, ty, fy, ty, ty, ty, fy, fy, fy, fy, fy, fy, fy, fy, fy, fy, fy] rfl rfl (aO_ HT_.out (by kernel_rfl)) (fun _ _ _ h => h) (Or.inl ⟨by rfl, ?_⟩) ?_ ?_; rotate_left; (intro w'; go_simp; with_reducible rfl); rotate_left; (simp only [Act.put, sA_, sB_, sC_, i6_, i3_]; rfl)
                    refine pure_ (i := 10) (N := some 60) (v := ?_) (a' := ?_) #[ty, ty, ty, fy, ty, ty, ty, fy, fy, fy, ty, fy, fy, fy, fy, fy, fy, fy] rfl rfl (aO_ HT_.out (by kernel_rfl)) (fun _ _ _ h => h) (Or.inl ⟨by rfl, ?_⟩) ?_ ?_; rotate_left; (intro w'; go_simp; with_reducible rfl); rotate_left; (simp only [Act.put, sA_, sB_, sC_, i6_, i3_]; rfl)
                    refine pure_ (i := 11) (N := some 61) (v := ?_) (a' := ?_) #[ty, ty, ty, fy, ty, ty, ty, fy, fy, fy, ty, ty, fy, fy, fy, fy, fy, fy] rfl rfl (aO_ HT_.out (by kernel_rfl)) (fun _ _ _ h => h) (Or.inl ⟨by rfl, ?_⟩) ?_ ?_; rotate_left; (intro w'; go_simp; with_reducible rfl); rotate_left; (simp only [Act.put, sA_, sB_, sC_, i6_, i3_]; rfl)
                    refine pure_ (i := 12) (N := some 62) (v := ?_) (a' := ?_) #[ty, ty, ty, fy, ty, ty, ty, fy, fy, fy, ty, ty, ty, fy, fy, fy, fy, fy] rfl rfl (aO_ HT_.out (by kernel_rfl)) (fun _ _ _ h => h) (Or.inl ⟨by rfl, ?_⟩) ?_ ?_; rotate_left; (intro w'; go_simp; with_reducible rfl); rotate_left; (simp only [Act.put, sA_, sB_, sC_, i6_, i3_]; rfl)
                    refine take_ (i := 3) (N := some 53) (v := ?_) (a' := ?_) #[ty, ty, ty, ty, ty, ty, ty, fy, fy, fy, ty, ty, ty, fy, fy, fy, fy, fy] rfl rfl (tW_ HT_.out HW_.out (by kernel_rfl)) (fun _ _ _ h => h) (Or.inl ⟨by rfl, ?_⟩) hHeld ?_ ?_; rotate_left; (rintro w' ⟨s0, s1, s2⟩; go_simp; with_reducible rfl); rotate_left; (simp only [Act.put, sA_, sB_, sC_, i6_, i3_]; rfl)
                    refine take_ (i := 7) (N := some 57) (v := ?_) (a' := ?_) #[ty, ty, ty, ty, ty, ty, ty, ty, fy, fy, ty, ty, ty, fy, fy, fy, fy, fy] rfl rfl (tW_ HT_.out HW_.out (by kernel_rfl)) (fun _ _ _ h => h) (Or.inl ⟨by rfl, ?_⟩) hHeld ?_ ?_; rotate_left; (rintro w' ⟨s0, s1, s2⟩; go_simp; with_reducible rfl); rotate_left; (simp only [Act.put, sA_, sB_, sC_, i6_, i3_]; rfl)
                    refine pure_ (i := 8) (N := some 58) (v := ?_) (a' := ?_) #[ty, ty, ty, ty, ty, ty, ty, ty, ty, fy, ty, ty, ty, fy, fy, fy, fy, fy] rfl rfl (aO_ HT_.out (by kernel_rfl)) (fun _ _ _ h => h) (Or.inl ⟨by rfl, ?_⟩) ?_ ?_; rotate_left; (intro w'; go_simp; with_reducible rfl); rotate_left; (simp only [Act.put, sA_, sB_, sC_, i6_, i3_]; rfl)
                    refine pure_ (i := 9) (N := some 59) (v := ?_) (a' := ?_) #[ty, ty, ty, ty, ty, ty, ty, ty, ty, ty, ty, ty, ty, fy, fy, fy, fy, fy] rfl rfl (aO_ HT_.out (by kernel_rfl)) (fun _ _ _ h => h) (Or.inl ⟨by rfl, ?_⟩) ?_ ?_; rotate_left; (intro w'; go_simp; with_reducible rfl); rotate_left; (simp only [Act.put, sA_, sB_, sC_, i6_, i3_]; rfl)
                    refine pure_ (i := 14) (N := some 64) (v := ?_) (a' := ?_) #[ty, ty, ty, ty, ty, ty, ty, ty, ty, ty, ty, ty, ty, fy, ty, fy, fy, fy] rfl rfl (aO_ HT_.out (by kernel_rfl)) (fun _ _ _ h => h) (Or.inl ⟨by rfl, ?_⟩) ?_ ?_; rotate_left; (intro w'; go_simp; with_reducible rfl); rotate_left; (simp only [Act.put, sA_, sB_, sC_, i6_, i3_]; rfl)
                    refine take_ (i := 13) (N := some 63) (v := ?_) (a' := ?_) #[ty, ty, ty, ty, ty, ty, ty, ty, ty, ty, ty, ty, ty, ty, ty, fy, fy, fy] rfl rfl (tW_ HT_.out HW_.out (by kernel_rfl)) (fun _ _ _ h => h) (Or.inl ⟨by rfl, ?_⟩) hHeld ?_ ?_; rotate_left; (rintro w' ⟨s0, s1, s2⟩; go_simp; with_reducible rfl); rotate_left; (simp only [Act.put, sA_, sB_, sC_, i6_, i3_]; rfl)
                    refine one_ (i := 15) (N := none) #[ty, ty, ty, ty, ty, ty, ty, ty, ty, ty, ty, ty, ty, ty, ty, ty, fy, fy] rfl rfl (one_of HT_.out (by kernel_rfl)) (by decide) (fun K hK => ?_)
                    have hs62 : w59.cell? ⟨gb412, 0, none⟩ = some (.string (⟨#[]⟩ : ByteArray)) := (bC_ BK412.out 0).trans rfl
                    have hfs62 := bF_ BK412.out 0
                    have hns62_0 := NB399_412.out
                    have hns62_1 := NB400_412.out
                    have hns62_2 := NB408_412.out
                    have hns62_3 := NB410_412.out
                    have hms62_0 := NB412_399.out
                    have hms62_1 := NB412_400.out
                    have hms62_2 := NB412_408.out
                    have hms62_3 := NB412_410.out
                    refine skip_ (w1 := ?_) (by rfl) rfl ?_ ?_
                    rotate_left
                    ·
                     go_simp
                     rfl
                    refine hK.out _ _ ⟨((cF_ (p := ⟨gb412, _, none⟩) (by (rw [add_block]; exact k7_ (k6_ HO_3.out BK412.out (by decide)))) _).trans (hHeld.1)), ((cF_ (p := ⟨gb412, _, none⟩) (by (rw [add_block]; exact k7_ (k6_ HO_3.out BK412.out (by decide)))) _).trans (hHeld.2.1)), ((cF_ (p := ⟨gb412, _, none⟩) (by (rw [add_block]; exact k7_ (k6_ HO_6.out BK412.out (by decide)))) _).trans (hHeld.2.2))⟩ (fun hHeld => ?_)
                    clear hK K
                    refine pure_ (i := 16) (N := some 65) (v := ?_) (a' := ?_) #[ty, ty, ty, ty, ty, ty, ty, ty, ty, ty, ty, ty, ty, ty, ty, ty, ty, fy] rfl rfl (aO_ HT_.out (by kernel_rfl)) (fun _ _ _ h => h) (Or.inl ⟨by rfl, ?_⟩) ?_ ?_; rotate_left; (intro w'; go_simp; with_reducible rfl); rotate_left; (simp only [Act.put, sA_, sB_, sC_, i6_, i3_]; rfl)
                    refine one_ (i := 17) (N := none) #[ty, ty, ty, ty, ty, ty, ty, ty, ty, ty, ty, ty, ty, ty, ty, ty, ty, ty] rfl rfl (one_of HT_.out (by kernel_rfl)) (by decide) (fun K hK => ?_)
                    have hs63 : w59.cell? ⟨gb412, 1, none⟩ = some (.int .i64 (-1)) := (bC_ BK412.out 1).trans rfl
                    have hfs63 := bF_ BK412.out 1
                    have hns63_0 := NB399_412.out
                    have hns63_1 := NB400_412.out
                    have hns63_2 := NB408_412.out
                    have hns63_3 := NB410_412.out
                    have hms63_0 := NB412_399.out
                    have hms63_1 := NB412_400.out
                    have hms63_2 := NB412_408.out
                    have hms63_3 := NB412_410.out
                    refine skip_ (w1 := ?_) (by rfl) rfl ?_ ?_
                    rotate_left
                    ·
                     go_simp
                     rfl
                    refine hK.out _ _ ⟨((cF_ (p := ⟨gb412, _, none⟩) (by (rw [add_block]; exact k7_ (k6_ HO_3.out BK412.out (by decide)))) _).trans (hHeld.1)), ((cF_ (p := ⟨gb412, _, none⟩) (by (rw [add_block]; exact k7_ (k6_ HO_3.out BK412.out (by decide)))) _).trans (hHeld.2.1)), ((cF_ (p := ⟨gb412, _, none⟩) (by (rw [add_block]; exact k7_ (k6_ HO_6.out BK412.out (by decide)))) _).trans (hHeld.2.2))⟩ (fun hHeld => ?_)
                    clear hK K
                    refine done_ (done_of HT_.out (by kernel_rfl)) ?_
                    have n0_ : Aside0 (Kd.R Kd.string 9 ((w59.setCell ⟨gb412, 0, none⟩ (.string ((rdOf eB_ t401 x24_1).extract (((rdOf eB_ t401 x10_2).size : Int) : Int).toNat (rdOf eB_ t401 x24_1).size))).setCell ⟨gb412, 1, none⟩ (.int .i64 (rd x6_1 x10_2))) w.heap.size (fun _ => True) (.slice (some ad414) t401.length co60) t401) := ⟨by exact kM_ (kF_ (p := ⟨gb412, 1, none⟩) (kF_ (p := ⟨gb412, 0, none⟩) (kT_ HO_3.out BK412.out (by decide)) (fun _ hk => hk.2) (.string ((rdOf eB_ t401 x24_1).extract (((rdOf eB_ t401 x10_2).size : Int) : Int).toNat (rdOf eB_ t401 x24_1).size))) (fun _ hk => hk.2) (.int .i64 (rd x6_1 x10_2))) (fun _ hk => trivial)⟩
                    have n1_ : Aside0 (Kd.R (Kd.int .i64) 3 ((w59.setCell ⟨gb412, 0, none⟩ (.string ((rdOf eB_ t401 x24_1).extract (((rdOf eB_ t401 x10_2).size : Int) : Int).toNat (rdOf eB_ t401 x24_1).size))).setCell ⟨gb412, 1, none⟩ (.int .i64 (rd x6_1 x10_2))) w.heap.size (fun _ => True) (.slice (some ad416) x6_1.length co61) x6_1) := ⟨by exact kM_ (kF_ (p := ⟨gb412, 1, none⟩) (kF_ (p := ⟨gb412, 0, none⟩) (kT_ HO_6.out BK412.out (by decide)) (fun _ hk => hk.2) (.string ((rdOf eB_ t401 x24_1).extract (((rdOf eB_ t401 x10_2).size : Int) : Int).toNat (rdOf eB_ t401 x24_1).size))) (fun _ hk => hk.2) (.int .i64 (rd x6_1 x10_2))) (fun _ hk => trivial)⟩
                    have n2_ : Aside0 (Kd.R k60 60 ((w59.setCell ⟨gb412, 0, none⟩ (.string ((rdOf eB_ t401 x24_1).extract (((rdOf eB_ t401 x10_2).size : Int) : Int).toNat (rdOf eB_ t401 x24_1).size))).setCell ⟨gb412, 1, none⟩ (.int .i64 (rd x6_1 x10_2))) w.heap.size (fun k_ => k_ ≠ gb412) u409000 x409000_1) := ⟨by exact kM_ (kF_ (p := ⟨gb412, 1, none⟩) (kF_ (p := ⟨gb412, 0, none⟩) (kM_ HO_409000.out (fun k_ hk => (⟨hk, hk⟩ : _ ∧ k_ ≠ gb412))) (fun _ hk => hk.2) (.string ((rdOf eB_ t401 x24_1).extract (((rdOf eB_ t401 x10_2).size : Int) : Int).toNat (rdOf eB_ t401 x24_1).size))) (fun _ hk => hk.2) (.int .i64 (rd x6_1 x10_2))) (fun _ hk => hk.1)⟩
                    have n3_ : Aside0 (((w59.setCell ⟨gb412, 0, none⟩ (.string ((rdOf eB_ t401 x24_1).extract (((rdOf eB_ t401 x10_2).size : Int) : Int).toNat (rdOf eB_ t401 x24_1).size))).setCell ⟨gb412, 1, none⟩ (.int .i64 (rd x6_1 x10_2))).heap[gb399]? = some (.cells #[.slice (some ad409) l0_0.length c0_0] 36 (0, 0))) := ⟨by refine bR_ ?_ NB399_412.out _; refine bR_ ?_ NB399_412.out _; exact BK399.out⟩
                    have n4_ : Aside0 (((w59.setCell ⟨gb412, 0, none⟩ (.string ((rdOf eB_ t401 x24_1).extract (((rdOf eB_ t401 x10_2).size : Int) : Int).toNat (rdOf eB_ t401 x24_1).size))).setCell ⟨gb412, 1, none⟩ (.int .i64 (rd x6_1 x10_2))).heap[gb400]? = some (.cells #[.slice none 0 0] 30 (0, 0))) := ⟨by refine bR_ ?_ NB400_412.out _; refine bR_ ?_ NB400_412.out _; exact BK400.out⟩
                    have n5_ : Aside0 (((w59.setCell ⟨gb412, 0, none⟩ (.string ((rdOf eB_ t401 x24_1).extract (((rdOf eB_ t401 x10_2).size : Int) : Int).toNat (rdOf eB_ t401 x24_1).size))).setCell ⟨gb412, 1, none⟩ (.int .i64 (rd x6_1 x10_2))).heap[gb408]? = some (.cells #[u409000] 30 (0, 0))) := ⟨by refine bR_ ?_ NB408_412.out _; refine bR_ ?_ NB408_412.out _; exact BK408.out⟩
                    have n6_ : Aside0 (((w59.setCell ⟨gb412, 0, none⟩ (.string ((rdOf eB_ t401 x24_1).extract (((rdOf eB_ t401 x10_2).size : Int) : Int).toNat (rdOf eB_ t401 x24_1).size))).setCell ⟨gb412, 1, none⟩ (.int .i64 (rd x6_1 x10_2))).heap[gb410]? = some (.cells #[.int .i64 ((rd_T76 l0_0 x24_1).f0), .int .i64 ((rd_T76 l0_0 x24_1).f1), .bool ((rd_T76 l0_0 x24_1).f2)] 76 (0, 0))) := ⟨by refine bR_ ?_ NB410_412.out _; refine bR_ ?_ NB410_412.out _; exact BK410.out⟩
                    have n7_ : Aside0 (((w59.setCell ⟨gb412, 0, none⟩ (.string ((rdOf eB_ t401 x24_1).extract (((rdOf eB_ t401 x10_2).size : Int) : Int).toNat (rdOf eB_ t401 x24_1).size))).setCell ⟨gb412, 1, none⟩ (.int .i64 (rd x6_1 x10_2))).heap[gb412]? = some (.cells #[.string ((rdOf eB_ t401 x24_1).extract (((rdOf eB_ t401 x10_2).size : Int) : Int).toNat (rdOf eB_ t401 x24_1).size), .int .i64 (rd x6_1 x10_2), .bool ((rd_T76 l0_0 x24_1).f2)] 60 (0, 0))) := ⟨by refine bP_ (cs := #[.string ((rdOf eB_ t401 x24_1).extract (((rdOf eB_ t401 x10_2).size : Int) : Int).toNat (rdOf eB_ t401 x24_1).size), .int .i64 (-1), .bool ((rd_T76 l0_0 x24_1).f2)]) ?_ 1 _ rfl; refine bP_ (cs := #[.string (⟨#[]⟩ : ByteArray), .int .i64 (-1), .bool ((rd_T76 l0_0 x24_1).f2)]) ?_ 0 _ rfl; exact BK412.out⟩
                    have n8_ : Aside0 (Below w.heap.size w ((w59.setCell ⟨gb412, 0, none⟩ (.string ((rdOf eB_ t401 x24_1).extract (((rdOf eB_ t401 x10_2).size : Int) : Int).toNat (rdOf eB_ t401 x24_1).size))).setCell ⟨gb412, 1, none⟩ (.int .i64 (rd x6_1 x10_2)))) := ⟨by repeat (first | (with_reducible first | exact HB.out | apply bA_ | apply bN_ | apply bD_ | refine bS_ ?_ GE399.out | refine bS_ ?_ GE400.out | refine bS_ ?_ GE408.out | refine bS_ ?_ GE410.out | refine bS_ ?_ GE412.out) | exact HB.out)⟩
                    (try clear HO_3)
                    (try clear HO_6)
                    (try clear HO_409000)
                    (try clear BK399)
                    (try clear BK400)
                    (try clear BK408)
                    (try clear BK410)
                    (try clear BK412)
                    (try clear HB)
                    (try rw [← Int.toNat_natCast (rdOf eB_ t401 x10_2).size])
                    generalize ((w59.setCell ⟨gb412, 0, none⟩ (.string ((rdOf eB_ t401 x24_1).extract (((rdOf eB_ t401 x10_2).size : Int) : Int).toNat (rdOf eB_ t401 x24_1).size))).setCell ⟨gb412, 1, none⟩ (.int .i64 (rd x6_1 x10_2))) = w64 at n0_ n1_ n2_ n3_ n4_ n5_ n6_ n7_ n8_ ⊢
                    have HO_3 := n0_
                    have HO_6 := n1_
                    have HO_409000 := n2_
                    have BK399 := n3_
                    have BK400 := n4_
                    have BK408 := n5_
                    have BK410 := n6_
                    have BK412 := n7_
                    have HB := n8_
                    clear n0_ n1_ n2_ n3_ n4_ n5_ n6_ n7_ n8_
                    have hnb65 := NB408_400.out
                    have hnc65 := NB400_408.out
                    have hnb66 := NB408_410.out
                    have hnc66 := NB410_408.out
                    have hnb67 := NB408_412.out
                    have hnc67 := NB412_408.out
                    have hcz68_0 : w64.cell? ⟨gb408, 0, none⟩ = some (u409000) := (bC_ BK408.out 0).trans rfl
                    have hfz68_0 := bF_ BK408.out 0
                    obtain ⟨Ao69, co69, eo69⟩ := kS_ HO_409000.out
                    subst eo69
                    have p51 : 0 ≤ (x24_1 : Int) := of_decide_eq_true (by (with_reducible assumption))
                    have q51 : (x24_1 : Int) < ((x6_1.length : Int) : Int) := of_decide_eq_true (by (with_reducible assumption))
                    obtain ⟨go51, co51, eo51, gb51, gl51, cl51, HG51⟩ := Kd.R_form HO_6.out (by omega)
                    (cases eo51)
                    have GB51 := aM_ gb51
                    have GG51 := aM_ HG51
                    clear gb51 gl51 HG51
                    (simp only [add_plain] at hx416_0)
                    (try simp only [Int.toNat_natCast] at hx416_0)
                    obtain ⟨hx51_0, hf51_0⟩ := kC_ 0 HO_6.out (x24_1 : Int) p51 q51
                    (try simp only [Int.toNat_natCast] at hx51_0 hf51_0)
                    replace p51 := eq_true p51
                    replace q51 := eq_true q51
                    obtain ⟨hy70_, hz70_⟩ := kC_ 0 HO_6.out (x24_1 : Int) (of_decide_eq_true (by (with_reducible assumption))) (of_decide_eq_true (by (with_reducible assumption)))
                    have HP70 := Kd.R_putg HO_6.out (x24_1 : Int) (x409000_1.length : Int)
                    try go_wp2_with (first | ((with_reducible refine gate_store (t := 3) (p := 71) rfl ?_); refine store_event (t := 3) (p := 71) (v := ?vo_w71) (w1 := (w64.setCell ⟨go51, (x24_1 : Int).toNat, none⟩ (.int .i64 (x409000_1.length : Int)))) ?hg ?ho ?hn ?hr ?_; (case ho => rfl); (case hg => rfl); (case hn => rfl); (case hr => (go_simp; done)); intro w71 hw; have hg : w64.grownBy w71 (some go51) := (by rw [hw]; exact HP70.2); have hp_ : Kd.R (Kd.int .i64) 3 w71 w.heap.size (fun _ => True) (.slice (some ⟨go51, 0, none⟩) x6_1.length co61) y417 := (by rw [hw, Ny417.out]; exact HP70.1); clear HP70; replace HO_3 := aM_ (Kd.R_over' (v := (.slice (some ⟨go51, 0, none⟩) x6_1.length co61)) HO_3.out (Kd.R_typed HO_6.out) (by decide) hg); replace HO_409000 := aM_ (Kd.R_over' (v := (.slice (some ⟨go51, 0, none⟩) x6_1.length co61)) HO_409000.out (Kd.R_typed HO_6.out) (by decide) hg); replace BK399 := aM_ (blk_grown (g := gb399) (o := .cells #[.slice (some ad409) l0_0.length c0_0] 36 (0, 0)) BK399.out hg (k6_ HO_6.out BK399.out (by decide))); replace BK400 := aM_ (blk_grown (g := gb400) (o := .cells #[.slice none 0 0] 30 (0, 0)) BK400.out hg (k6_ HO_6.out BK400.out (by decide))); replace BK408 := aM_ (blk_grown (g := gb408) (o := .cells #[.slice Ao69 x409000_1.length co69] 30 (0, 0)) BK408.out hg (k6_ HO_6.out BK408.out (by decide))); replace BK410 := aM_ (blk_grown (g := gb410) (o := .cells #[.int .i64 ((rd_T76 l0_0 x24_1).f0), .int .i64 ((rd_T76 l0_0 x24_1).f1), .bool ((rd_T76 l0_0 x24_1).f2)] 76 (0, 0)) BK410.out hg (k6_ HO_6.out BK410.out (by decide))); replace BK412 := aM_ (blk_grown (g := gb412) (o := .cells #[.string ((rdOf eB_ t401 x24_1).extract (((rdOf eB_ t401 x10_2).size : Int) : Int).toNat (rdOf eB_ t401 x24_1).size), .int .i64 (rd x6_1 x10_2), .bool ((rd_T76 l0_0 x24_1).f2)] 60 (0, 0)) BK412.out hg (k6_ HO_6.out BK412.out (by decide))); replace HO_6 := aM_ (hp_); replace HB := aM_ ((by rw [hw]; exact bS_ (HB.out) GB51.out : Below w.heap.size w w71)); clear hg hw hp_; have hcz72_0 : w71.cell? ⟨gb408, 0, none⟩ = some (.slice Ao69 x409000_1.length co69) := (bC_ BK408.out 0).trans rfl; have hfz72_0 := bF_ BK408.out 0; have hnb73 := NB412_400.out; have hnc73 := NB400_412.out; have hnb74 := NB412_410.out; have hnc74 := NB410_412.out; have hcz75_0 : w71.cell? ⟨gb412, 0, none⟩ = some (.string ((rdOf eB_ t401 x24_1).extract (((rdOf eB_ t401 x10_2).size : Int) : Int).toNat (rdOf eB_ t401 x24_1).size)) := (bC_ BK412.out 0).trans rfl; have hcz75_1 : w71.cell? ⟨gb412, 1, none⟩ = some (.int .i64 (rd x6_1 x10_2)) := (bC_ BK412.out 1).trans rfl; have hcz75_2 : w71.cell? ⟨gb412, 2, none⟩ = some (.bool ((rd_T76 l0_0 x24_1).f2)) := (bC_ BK412.out 2).trans rfl; have hfz75_0 := bF_ BK412.out 0; have hfz75_1 := bF_ BK412.out 1; have hfz75_2 := bF_ BK412.out 2) | ((with_reducible refine gate_builtin (b := .append) (xs := #[.tmp 73, .tmp 75]) rfl ?_); at_builtin; refine Kd.R_append k60 (w0 := w) w.heap.size rfl (.tmp 73) (.tmp 75) 28 60 (.agg #[(.string ⟨#[]⟩), (.int .i64 0), (.bool false)]) 32 rfl Tryz.underlying28 info60 rfl (by decide) (by omega) (.slice Ao69 x409000_1.length co69) x409000_1 (⟨(rdOf eB_ t401 x24_1).extract (((rdOf eB_ t401 x10_2).size : Int) : Int).toNat (rdOf eB_ t401 x24_1).size, rd x6_1 x10_2, ((rd_T76 l0_0 x24_1).f2)⟩ : S60) [.string ((rdOf eB_ t401 x24_1).extract (((rdOf eB_ t401 x10_2).size : Int) : Int).toNat (rdOf eB_ t401 x24_1).size), .int .i64 (rd x6_1 x10_2), .bool ((rd_T76 l0_0 x24_1).f2)] (fun k_ => k_ ≠ gb412) (fun _ => False) rfl rfl ?aP (fun _ hk => hk.elim) ?aF ?aO ?aB ?aS ?aL ?_; (case aP => exact k60_mkM _ _ _ (⟨(rdOf eB_ t401 x24_1).extract (((rdOf eB_ t401 x10_2).size : Int) : Int).toNat (rdOf eB_ t401 x24_1).size, rd x6_1 x10_2, ((rd_T76 l0_0 x24_1).f2)⟩ : S60)); (case aB => exact HB.out); (case aF => exact (fun k_ hk => Kd.freshB (g := gb412) (o := .cells #[.string ((rdOf eB_ t401 x24_1).extract (((rdOf eB_ t401 x10_2).size : Int) : Int).toNat (rdOf eB_ t401 x24_1).size), .int .i64 (rd x6_1 x10_2), .bool ((rd_T76 l0_0 x24_1).f2)] 60 (0, 0)) BK412.out k_ hk)); (case aO => exact HO_409000.out); (case aS => exact (bZ_ HB.out)); (case aL => have := LMc52.out; omega); intro v419 w76 ho hb hg hat; rw [← Ny418.out] at ho; have n0_ := aM_ (Kd.R_over' HO_3.out (Kd.R_typed HO_409000.out) (by decide) hg); have n1_ := aM_ (Kd.R_over' HO_6.out (Kd.R_typed HO_409000.out) (by decide) hg); have n2_ := aM_ (blk_grown (g := gb399) (o := .cells #[.slice (some ad409) l0_0.length c0_0] 36 (0, 0)) BK399.out hg (k6_ HO_409000.out BK399.out (by decide))); have n3_ := aM_ (blk_grown (g := gb400) (o := .cells #[.slice none 0 0] 30 (0, 0)) BK400.out hg (k6_ HO_409000.out BK400.out (by decide))); have n4_ := aM_ (blk_grown (g := gb408) (o := .cells #[.slice Ao69 x409000_1.length co69] 30 (0, 0)) BK408.out hg (k6_ HO_409000.out BK408.out (by decide))); have n5_ := aM_ (blk_grown (g := gb410) (o := .cells #[.int .i64 ((rd_T76 l0_0 x24_1).f0), .int .i64 ((rd_T76 l0_0 x24_1).f1), .bool ((rd_T76 l0_0 x24_1).f2)] 76 (0, 0)) BK410.out hg (k6_ HO_409000.out BK410.out (by decide))); have n6_ := aM_ (blk_grown (g := gb412) (o := .cells #[.string ((rdOf eB_ t401 x24_1).extract (((rdOf eB_ t401 x10_2).size : Int) : Int).toNat (rdOf eB_ t401 x24_1).size), .int .i64 (rd x6_1 x10_2), .bool ((rd_T76 l0_0 x24_1).f2)] 60 (0, 0)) BK412.out hg (Kd.R_away HO_409000.out (fun _ hk => hk))); have n7_ := aM_ (hb); have n8_ := aM_ (ho); clear HO_3; clear HO_6; clear BK399; clear BK400; clear BK408; clear BK410; clear BK412; clear HB; clear HO_409000; have HO_3 := n0_; have HO_6 := n1_; have BK399 := n2_; have BK400 := n3_; have BK408 := n4_; have BK410 := n5_; have BK412 := n6_; have HB := n7_; have HO420 := n8_; clear n0_ n1_ n2_ n3_ n4_ n5_ n6_ n7_ n8_; clear ho hb hg hat; obtain ⟨Ao77, co77, eo77⟩ := kS_ HO420.out; subst eo77; have hcz78_0 : w76.cell? ⟨gb408, 0, none⟩ = some (.slice Ao69 x409000_1.length co69) := (bC_ BK408.out 0).trans rfl; have hfz78_0 := bF_ BK408.out 0))
                    go_roundg k2
                    case measure => have := HK1.out; have := HK2.out; omega
                    case rel => exact ⟨(y417), (wrap64 (x24_1 + 1)), (y418), (.slice Ao77 y418.length co77), (by rfl), H', ⟨by have := HK1.out; have := HK2.out; omega⟩, ⟨by exact kM_ (kF_ (p := ⟨gb408, 0, none⟩) (kT_ HO_3.out BK408.out (by decide)) (fun _ hk => hk.2) (.slice Ao77 y418.length co77)) (fun _ hk => trivial)⟩, ⟨by exact kM_ (kF_ (p := ⟨gb408, 0, none⟩) (kT_ HO_6.out BK408.out (by decide)) (fun _ hk => hk.2) (.slice Ao77 y418.length co77)) (fun _ hk => trivial)⟩, ⟨by exact kM_ (kF_ (p := ⟨gb408, 0, none⟩) (kT_ HO420.out BK408.out (by decide)) (fun _ hk => hk.2) (.slice Ao77 y418.length co77)) (fun _ hk => trivial)⟩, ⟨by refine bR_ ?_ NB399_408.out _; exact BK399.out⟩, ⟨by refine bR_ ?_ NB400_408.out _; exact BK400.out⟩, ⟨by refine bP_ (cs := #[.slice Ao69 x409000_1.length co69]) ?_ 0 _ rfl; exact BK408.out⟩, ⟨by repeat (first | (with_reducible first | exact HB.out | apply bA_ | apply bN_ | apply bD_ | refine bS_ ?_ GE399.out | refine bS_ ?_ GE400.out | refine bS_ ?_ GE408.out | refine bS_ ?_ GE410.out | refine bS_ ?_ GE412.out) | exact HB.out)⟩⟩
                   ·
                    rw [if_neg c52] at H
                    exact absurd H (by simp)
                  ·
                   rw [if_neg c50] at H
                   exact absurd H (by simp)
                 ·
                  rw [if_neg c49] at H
                  exact absurd H (by simp)
                ·
                 rw [if_neg c48] at H
                 exact absurd H (by simp)
               ·
                rw [if_neg c47] at H
                exact absurd H (by simp)
              ·
               rw [if_neg c46] at H
               exact absurd H (by simp)
             ·
              rw [if_neg c45] at H
              exact absurd H (by simp)
            ·
             rw [if_neg c44] at H
             exact absurd H (by simp)
           ·
            rw [if_neg c43] at H
            exact absurd H (by simp)
          ·
           replace c42 := Bool.eq_false_iff.mpr c42
           subst c42
           have H1 : (if 0 ≤ x10_2 then (if x10_2 < (l0_0.length : Int) then (impl_Trie_press.l1 k2 t401 x6_1 x24_1 ((rd_T76 l0_0 x10_2).f1) l0_0 (l0_0.length : Int) x24_1 l0_0 x409000_1 (⟨#[]⟩ : ByteArray) (-1) ((rd_T76 l0_0 x24_1).f2)) else (none)) else (none)) = some r := by rw [if_neg (show ¬ (false = true) by decide)] at H; exact H
           clear H
           have H := H1
           clear H1
           by_cases c79 : 0 ≤ x10_2
           ·
            rw [if_pos c79] at H
            have c79b0 := decide_eq_true c79
            clear c79
            by_cases c80 : x10_2 < (l0_0.length : Int)
            ·
             rw [if_pos c80] at H
             have c80b0 := decide_eq_true c80
             clear c80
             have H' := aM_ H
             clear H
             have hnb81 := NB399_400.out
             have hnc81 := NB400_399.out
             have hnb82 := NB399_408.out
             have hnc82 := NB408_399.out
             have hnb83 := NB399_410.out
             have hnc83 := NB410_399.out
             have hnb84 := NB399_412.out
             have hnc84 := NB412_399.out
             have hcz85_0 : wr.cell? ⟨gb399, 0, none⟩ = some (.slice (some ad409) l0_0.length c0_0) := (bC_ BK399.out 0).trans rfl
             have hfz85_0 := bF_ BK399.out 0
             go_wp2_with (first | ((with_reducible refine gC_ (f := 84) rfl ?_); refine goesL_ (some 42) rfl rfl Tryz.func84 (by kernel_rfl) rfl #[.agg #[.slice (some ad409) l0_0.length c0_0], .int .i64 x10_2] rfl (by (try simp only [sD_, sE_, sF_]); rfl) ?_; (with_reducible refine (impl_Trie_stays.calls k2 _ _ l0_0 x10_2 false _ ?side1 ?side2 A41.out).mono ?_); (case side1 => repeat (first | exact (k4_ HR0_0.out HB.out) | (with_reducible refine Kd.C_alloc ?_ _) | (with_reducible refine Kd.C_drewN ?_ _) | (with_reducible refine Kd.C_drew ?_))); (case side2 => exact HC0_0.out); rintro e w86 ⟨rfl, hb⟩; refine ⟨_, rfl, ?_⟩; replace HO_3 := aM_ (kB_ HO_3.out hb); replace HO_6 := aM_ (kB_ HO_6.out hb); replace HO_409000 := aM_ (kB_ HO_409000.out hb); replace BK399 := aM_ (bB_ BK399.out hb); replace BK400 := aM_ (bB_ BK400.out hb); replace BK408 := aM_ (bB_ BK408.out hb); replace BK410 := aM_ (bB_ BK410.out hb); replace BK412 := aM_ (bB_ (g := gb412) (o := .cells #[.string (⟨#[]⟩ : ByteArray), .int .i64 (-1), .bool ((rd_T76 l0_0 x24_1).f2)] 60 (0, 0)) BK412.out hb); replace HB := aM_ (bT_ HB.out hb); (try clear hb); have hcz87_0 : w86.cell? ⟨gb399, 0, none⟩ = some (.slice (some ad409) l0_0.length c0_0) := (bC_ BK399.out 0).trans rfl; have hfz87_0 := bF_ BK399.out 0; have p421 : 0 ≤ (x10_2 : Int) := of_decide_eq_true (by (with_reducible assumption)); have q421 : x10_2 < (l0_0.length : Int) := of_decide_eq_true (by (with_reducible assumption)); obtain ⟨ad421, e421, hx421_0, hx421_1, hx421_2⟩ := at_T76 HR0_0.out x10_2 p421 q421; obtain rfl : ad409 = ad421 := (by injection e421); replace hx421_0 := (HB.out.cell (wB_ w _ hx421_0)).trans hx421_0; replace hx421_1 := (HB.out.cell (wB_ w _ hx421_1)).trans hx421_1; replace hx421_2 := (HB.out.cell (wB_ w _ hx421_2)).trans hx421_2; replace p421 := eq_true p421; replace q421 := eq_true q421))
             go_roundg k2
             case measure => have := HK1.out; have := HK2.out; omega
             case rel => exact ⟨((rd_T76 l0_0 x10_2).f1), (by rfl), H', ⟨by have := HK1.out; have := HK2.out; omega⟩, ⟨HO_3.out⟩, ⟨HO_6.out⟩, ⟨HO_409000.out⟩, ⟨BK399.out⟩, ⟨BK400.out⟩, ⟨BK408.out⟩, ⟨BK410.out⟩, ⟨BK412.out⟩, ⟨HB.out⟩⟩
            ·
             rw [if_neg c80] at H
             exact absurd H (by simp)
           ·
            rw [if_neg c79] at H
            exact absurd H (by simp)
       ·
        rw [if_neg c23] at H
        have c23b0 := decide_eq_false c23
        clear c23
        by_cases c88 : x24_1 < (x6_1.length : Int)
        ·
         rw [if_pos c88] at H
         have c88b0 := decide_eq_true c88
         clear c88
         obtain ⟨y422, hy422⟩ : ∃ y_ : List Int, y_ = (x6_1.set (x24_1 : Int).toNat (x409000_1.length : Int)) := ⟨_, rfl⟩
         replace H : (if x409000_1.length < 4398046511104 then (impl_Trie_press.l0 k1 t401 y422 l0_0 (l0_0.length : Int) (wrap64 (x24_1 + 1)) l0_0 (x409000_1 ++ [(⟨(⟨#[]⟩ : ByteArray), (-1), (rd_T76 l0_0 x24_1).f2⟩ : S60)])) else (none)) = some r := by first | (rw [hy422]; with_reducible exact H) | (have H2_ := (Option.bind_some _ _).symm.trans H; rw [hy422]; with_reducible exact H2_) | (have H2_ := (Option.bind_some _ _).symm.trans H; with_reducible exact H2_) | with_reducible exact H | (rw [hy422]; exact H) | exact H
         have Ny422 := aM_ hy422
         clear hy422
         by_cases c90 : x409000_1.length < 4398046511104
         ·
          rw [if_pos c90] at H
          have LMc90 := aM_ c90
          clear c90
          obtain ⟨y423, hy423⟩ : ∃ y_ : List (S60), y_ = (x409000_1 ++ [(⟨(⟨#[]⟩ : ByteArray), (-1), (rd_T76 l0_0 x24_1).f2⟩ : S60)]) := ⟨_, rfl⟩
          replace H : (impl_Trie_press.l0 k1 t401 y422 l0_0 (l0_0.length : Int) (wrap64 (x24_1 + 1)) l0_0 y423) = some r := by first | (rw [hy423]; with_reducible exact H) | (have H2_ := (Option.bind_some _ _).symm.trans H; rw [hy423]; with_reducible exact H2_) | (have H2_ := (Option.bind_some _ _).symm.trans H; with_reducible exact H2_) | with_reducible exact H | (rw [hy423]; exact H) | exact H
          have Ny423 := aM_ hy423
          clear hy423
          have H' := aM_ H
          clear H
          have p409 : 0 ≤ (x24_1 : Int) := of_decide_eq_true (by (with_reducible assumption))
          have q409 : x24_1 < (l0_0.length : Int) := of_decide_eq_true (by (with_reducible assumption))
          obtain ⟨ad409, e409, hx409_0, hx409_1, hx409_2⟩ := at_T76 HR0_0.out x24_1 p409 q409
          cases e409
          replace hx409_0 := (HB.out.cell (wB_ w _ hx409_0)).trans hx409_0
          replace hx409_1 := (HB.out.cell (wB_ w _ hx409_1)).trans hx409_1
          replace hx409_2 := (HB.out.cell (wB_ w _ hx409_2)).trans hx409_2
          replace p409 := eq_true p409
          replace q409 := eq_true q409
          go_wp2_with (first | ((with_reducible refine gD_ (N := 8) rfl ?_); refine bE_ ?hg (N := 8) ?hd (cs := #[.int .i64 0, .int .i64 0, .bool false]) (t := 76) ?hr ?_; (case hd => rfl); (case hg => rfl); (case hr => (go_simp; done)); intro gb410 hg w91 hbox hb; replace HO_3 := aM_ (kB_ HO_3.out hb); replace HO_6 := aM_ (kB_ HO_6.out hb); replace HO_409000 := aM_ (kB_ HO_409000.out hb); have BK410 := aM_ (hbox); have GW410 := aM_ ((by rw [hg]; exact (bZ_ HB.out) : w.heap.size ≤ gb410)); have GE410 := GW410; replace HB := aM_ (bT_ HB.out hb); have NB399_410 := aM_ ((by rw [hg]; exact Nat.ne_of_lt (bL_ BK399.out) : gb399 ≠ gb410)); have NB410_399 := aM_ NB399_410.out.symm; replace BK399 := aM_ (bB_ BK399.out hb); have NB400_410 := aM_ ((by rw [hg]; exact Nat.ne_of_lt (bL_ BK400.out) : gb400 ≠ gb410)); have NB410_400 := aM_ NB400_410.out.symm; replace BK400 := aM_ (bB_ BK400.out hb); have NB408_410 := aM_ ((by rw [hg]; exact Nat.ne_of_lt (bL_ BK408.out) : gb408 ≠ gb410)); have NB410_408 := aM_ NB408_410.out.symm; replace BK408 := aM_ (bB_ BK408.out hb); clear hb hbox hg; have hnb92 := NB410_399.out; have hnc92 := NB399_410.out; have hnb93 := NB410_400.out; have hnc93 := NB400_410.out; have hnb94 := NB410_408.out; have hnc94 := NB408_410.out; have hcz95_0 : w91.cell? ⟨gb410, 0, none⟩ = some (.int .i64 0) := (bC_ BK410.out 0).trans rfl; have hcz95_1 : w91.cell? ⟨gb410, 1, none⟩ = some (.int .i64 0) := (bC_ BK410.out 1).trans rfl; have hcz95_2 : w91.cell? ⟨gb410, 2, none⟩ = some (.bool false) := (bC_ BK410.out 2).trans rfl; have hfz95_0 := bF_ BK410.out 0; have hfz95_1 := bF_ BK410.out 1; have hfz95_2 := bF_ BK410.out 2; have hnb96 := NB399_400.out; have hnc96 := NB400_399.out; have hnb97 := NB399_408.out; have hnc97 := NB408_399.out; have hcz98_0 : w91.cell? ⟨gb399, 0, none⟩ = some (.slice (some ad409) l0_0.length c0_0) := (bC_ BK399.out 0).trans rfl; have hfz98_0 := bF_ BK399.out 0) | ((with_reducible refine gC_ (f := 84) rfl ?_); refine goesL_ (some 31) rfl rfl Tryz.func84 (by kernel_rfl) rfl #[.agg #[.slice (some ad409) l0_0.length c0_0], .int .i64 x24_1] rfl (by (try simp only [sD_, sE_, sF_]); rfl) ?_; (with_reducible refine (impl_Trie_stays.calls k1 _ _ l0_0 x24_1 true _ ?side1 ?side2 A21.out).mono ?_); (case side1 => exact k4_ HR0_0.out (by repeat (first | (with_reducible first | exact HB.out | apply bA_ | apply bN_ | apply bD_ | refine bS_ ?_ GE399.out | refine bS_ ?_ GE400.out | refine bS_ ?_ GE408.out | refine bS_ ?_ GE410.out) | exact HB.out))); (case side2 => exact HC0_0.out); rintro e w99 ⟨rfl, hb⟩; refine ⟨_, rfl, ?_⟩; replace HO_3 := aM_ (kB_ (by exact (kM_ (kF_ (p := ⟨gb410, 2, none⟩) (kF_ (p := ⟨gb410, 1, none⟩) (kF_ (p := ⟨gb410, 0, none⟩) (kT_ HO_3.out BK410.out (by decide)) (fun _ hk => hk.2) (.int .i64 ((rd_T76 l0_0 x24_1).f0))) (fun _ hk => hk.2) (.int .i64 ((rd_T76 l0_0 x24_1).f1))) (fun _ hk => hk.2) (.bool ((rd_T76 l0_0 x24_1).f2))) (fun _ h_ => h_.1))) hb); replace HO_6 := aM_ (kB_ (by exact (kM_ (kF_ (p := ⟨gb410, 2, none⟩) (kF_ (p := ⟨gb410, 1, none⟩) (kF_ (p := ⟨gb410, 0, none⟩) (kT_ HO_6.out BK410.out (by decide)) (fun _ hk => hk.2) (.int .i64 ((rd_T76 l0_0 x24_1).f0))) (fun _ hk => hk.2) (.int .i64 ((rd_T76 l0_0 x24_1).f1))) (fun _ hk => hk.2) (.bool ((rd_T76 l0_0 x24_1).f2))) (fun _ h_ => h_.1))) hb); replace HO_409000 := aM_ (kB_ (by exact (kM_ (kF_ (p := ⟨gb410, 2, none⟩) (kF_ (p := ⟨gb410, 1, none⟩) (kF_ (p := ⟨gb410, 0, none⟩) (kT_ HO_409000.out BK410.out (by decide)) (fun _ hk => hk.2) (.int .i64 ((rd_T76 l0_0 x24_1).f0))) (fun _ hk => hk.2) (.int .i64 ((rd_T76 l0_0 x24_1).f1))) (fun _ hk => hk.2) (.bool ((rd_T76 l0_0 x24_1).f2))) (fun _ h_ => h_.1))) hb); replace BK399 := aM_ (bB_ (g := gb399) (o := .cells #[.slice (some ad409) l0_0.length c0_0] 36 (0, 0)) (by refine bR_ ?_ NB399_410.out _; refine bR_ ?_ NB399_410.out _; refine bR_ ?_ NB399_410.out _; exact BK399.out) hb); replace BK400 := aM_ (bB_ (g := gb400) (o := .cells #[.slice none 0 0] 30 (0, 0)) (by refine bR_ ?_ NB400_410.out _; refine bR_ ?_ NB400_410.out _; refine bR_ ?_ NB400_410.out _; exact BK400.out) hb); replace BK408 := aM_ (bB_ (g := gb408) (o := .cells #[u409000] 30 (0, 0)) (by refine bR_ ?_ NB408_410.out _; refine bR_ ?_ NB408_410.out _; refine bR_ ?_ NB408_410.out _; exact BK408.out) hb); replace BK410 := aM_ (bB_ (g := gb410) (o := .cells #[.int .i64 ((rd_T76 l0_0 x24_1).f0), .int .i64 ((rd_T76 l0_0 x24_1).f1), .bool ((rd_T76 l0_0 x24_1).f2)] 76 (0, 0)) (by refine bP_ (cs := #[.int .i64 ((rd_T76 l0_0 x24_1).f0), .int .i64 ((rd_T76 l0_0 x24_1).f1), .bool false]) ?_ 2 _ rfl; refine bP_ (cs := #[.int .i64 ((rd_T76 l0_0 x24_1).f0), .int .i64 0, .bool false]) ?_ 1 _ rfl; refine bP_ (cs := #[.int .i64 0, .int .i64 0, .bool false]) ?_ 0 _ rfl; exact BK410.out) hb); replace HB := aM_ (bT_ (by repeat (first | (with_reducible first | exact HB.out | apply bA_ | apply bN_ | apply bD_ | refine bS_ ?_ GE399.out | refine bS_ ?_ GE400.out | refine bS_ ?_ GE408.out | refine bS_ ?_ GE410.out) | exact HB.out)) hb); (try clear hb); have hcz100_0 : w99.cell? ⟨gb410, 0, none⟩ = some (.int .i64 ((rd_T76 l0_0 x24_1).f0)) := (bC_ BK410.out 0).trans rfl; have hcz100_1 : w99.cell? ⟨gb410, 1, none⟩ = some (.int .i64 ((rd_T76 l0_0 x24_1).f1)) := (bC_ BK410.out 1).trans rfl; have hcz100_2 : w99.cell? ⟨gb410, 2, none⟩ = some (.bool ((rd_T76 l0_0 x24_1).f2)) := (bC_ BK410.out 2).trans rfl; have hfz100_0 := bF_ BK410.out 0; have hfz100_1 := bF_ BK410.out 1; have hfz100_2 := bF_ BK410.out 2) | ((with_reducible refine gD_ (N := 9) rfl ?_); refine bE_ ?hg (N := 9) ?hd (cs := #[.string (⟨#[]⟩ : ByteArray), .int .i64 0, .bool false]) (t := 60) ?hr ?_; (case hd => rfl); (case hg => rfl); (case hr => (go_simp; done)); intro gb412 hg w101 hbox hb; replace HO_3 := aM_ (kB_ HO_3.out hb); replace HO_6 := aM_ (kB_ HO_6.out hb); replace HO_409000 := aM_ (kB_ (Kd.R_elderB HO_409000.out gb412 (Nat.le_of_eq hg.symm)) hb); have BK412 := aM_ (hbox); have GW412 := aM_ ((by rw [hg]; exact (bZ_ HB.out) : w.heap.size ≤ gb412)); have GE412 := GW412; replace HB := aM_ (bT_ HB.out hb); have NB399_412 := aM_ ((by rw [hg]; exact Nat.ne_of_lt (bL_ BK399.out) : gb399 ≠ gb412)); have NB412_399 := aM_ NB399_412.out.symm; replace BK399 := aM_ (bB_ BK399.out hb); have NB400_412 := aM_ ((by rw [hg]; exact Nat.ne_of_lt (bL_ BK400.out) : gb400 ≠ gb412)); have NB412_400 := aM_ NB400_412.out.symm; replace BK400 := aM_ (bB_ BK400.out hb); have NB408_412 := aM_ ((by rw [hg]; exact Nat.ne_of_lt (bL_ BK408.out) : gb408 ≠ gb412)); have NB412_408 := aM_ NB408_412.out.symm; replace BK408 := aM_ (bB_ BK408.out hb); have NB410_412 := aM_ ((by rw [hg]; exact Nat.ne_of_lt (bL_ BK410.out) : gb410 ≠ gb412)); have NB412_410 := aM_ NB410_412.out.symm; replace BK410 := aM_ (bB_ BK410.out hb); clear hb hbox hg; have hnb102 := NB412_399.out; have hnc102 := NB399_412.out; have hnb103 := NB412_400.out; have hnc103 := NB400_412.out; have hnb104 := NB412_408.out; have hnc104 := NB408_412.out; have hnb105 := NB412_410.out; have hnc105 := NB410_412.out; have hcz106_0 : w101.cell? ⟨gb412, 0, none⟩ = some (.string (⟨#[]⟩ : ByteArray)) := (bC_ BK412.out 0).trans rfl; have hcz106_1 : w101.cell? ⟨gb412, 1, none⟩ = some (.int .i64 0) := (bC_ BK412.out 1).trans rfl; have hcz106_2 : w101.cell? ⟨gb412, 2, none⟩ = some (.bool false) := (bC_ BK412.out 2).trans rfl; have hfz106_0 := bF_ BK412.out 0; have hfz106_1 := bF_ BK412.out 1; have hfz106_2 := bF_ BK412.out 2) | ((with_reducible refine gate_store (t := 60) (p := 9) rfl ?_); refine store_event (t := 60) (p := 9) (v := ?vo_w107) (w1 := (((w101.setCell ⟨gb412, 0, none⟩ (.string (⟨#[]⟩ : ByteArray))).setCell ⟨gb412, 1, none⟩ (.int .i64 (-1))).setCell ⟨gb412, 2, none⟩ (.bool ((rd_T76 l0_0 x24_1).f2)))) ?hg ?ho ?hn ?hr ?_; (case ho => rfl); (case hg => rfl); (case hn => rfl); (case hr => (go_simp; done)); intro w107 hw; have n0_ : Aside0 (Kd.R Kd.string 9 w107 w.heap.size (fun _ => True) v402 t401) := ⟨(by rw [hw]; exact (by exact kM_ (kF_ (p := ⟨gb412, 2, none⟩) (kF_ (p := ⟨gb412, 1, none⟩) (kF_ (p := ⟨gb412, 0, none⟩) (kT_ HO_3.out BK412.out (by decide)) (fun _ hk => hk.2) (.string (⟨#[]⟩ : ByteArray))) (fun _ hk => hk.2) (.int .i64 (-1))) (fun _ hk => hk.2) (.bool ((rd_T76 l0_0 x24_1).f2))) (fun _ hk => trivial)))⟩; have n1_ : Aside0 (Kd.R (Kd.int .i64) 3 w107 w.heap.size (fun _ => True) v406 x6_1) := ⟨(by rw [hw]; exact (by exact kM_ (kF_ (p := ⟨gb412, 2, none⟩) (kF_ (p := ⟨gb412, 1, none⟩) (kF_ (p := ⟨gb412, 0, none⟩) (kT_ HO_6.out BK412.out (by decide)) (fun _ hk => hk.2) (.string (⟨#[]⟩ : ByteArray))) (fun _ hk => hk.2) (.int .i64 (-1))) (fun _ hk => hk.2) (.bool ((rd_T76 l0_0 x24_1).f2))) (fun _ hk => trivial)))⟩; have n2_ : Aside0 (Kd.R k60 60 w107 w.heap.size (fun k_ => k_ ≠ gb412) u409000 x409000_1) := ⟨(by rw [hw]; exact (by exact kM_ (kF_ (p := ⟨gb412, 2, none⟩) (kF_ (p := ⟨gb412, 1, none⟩) (kF_ (p := ⟨gb412, 0, none⟩) (kM_ HO_409000.out (fun k_ hk => (⟨hk, hk.2⟩ : _ ∧ k_ ≠ gb412))) (fun _ hk => hk.2) (.string (⟨#[]⟩ : ByteArray))) (fun _ hk => hk.2) (.int .i64 (-1))) (fun _ hk => hk.2) (.bool ((rd_T76 l0_0 x24_1).f2))) (fun _ hk => hk.1.2)))⟩; have n3_ : Aside0 (w107.heap[gb399]? = some (.cells #[.slice (some ad409) l0_0.length c0_0] 36 (0, 0))) := ⟨(by rw [hw]; exact (by refine bR_ ?_ NB399_412.out _; refine bR_ ?_ NB399_412.out _; refine bR_ ?_ NB399_412.out _; exact BK399.out))⟩; have n4_ : Aside0 (w107.heap[gb400]? = some (.cells #[.slice none 0 0] 30 (0, 0))) := ⟨(by rw [hw]; exact (by refine bR_ ?_ NB400_412.out _; refine bR_ ?_ NB400_412.out _; refine bR_ ?_ NB400_412.out _; exact BK400.out))⟩; have n5_ : Aside0 (w107.heap[gb408]? = some (.cells #[u409000] 30 (0, 0))) := ⟨(by rw [hw]; exact (by refine bR_ ?_ NB408_412.out _; refine bR_ ?_ NB408_412.out _; refine bR_ ?_ NB408_412.out _; exact BK408.out))⟩; have n6_ : Aside0 (w107.heap[gb410]? = some (.cells #[.int .i64 ((rd_T76 l0_0 x24_1).f0), .int .i64 ((rd_T76 l0_0 x24_1).f1), .bool ((rd_T76 l0_0 x24_1).f2)] 76 (0, 0))) := ⟨(by rw [hw]; exact (by refine bR_ ?_ NB410_412.out _; refine bR_ ?_ NB410_412.out _; refine bR_ ?_ NB410_412.out _; exact BK410.out))⟩; have n7_ : Aside0 (w107.heap[gb412]? = some (.cells #[.string (⟨#[]⟩ : ByteArray), .int .i64 (-1), .bool ((rd_T76 l0_0 x24_1).f2)] 60 (0, 0))) := ⟨(by rw [hw]; exact (by refine bP_ (cs := #[.string (⟨#[]⟩ : ByteArray), .int .i64 (-1), .bool false]) ?_ 2 _ rfl; refine bP_ (cs := #[.string (⟨#[]⟩ : ByteArray), .int .i64 0, .bool false]) ?_ 1 _ rfl; refine bP_ (cs := #[.string (⟨#[]⟩ : ByteArray), .int .i64 0, .bool false]) ?_ 0 _ rfl; exact BK412.out))⟩; have n8_ : Aside0 (Below w.heap.size w w107) := ⟨(by rw [hw]; exact (by repeat (first | (with_reducible first | exact HB.out | apply bA_ | apply bN_ | apply bD_ | refine bS_ ?_ GE399.out | refine bS_ ?_ GE400.out | refine bS_ ?_ GE408.out | refine bS_ ?_ GE410.out | refine bS_ ?_ GE412.out) | exact HB.out)))⟩; clear hw; clear HO_3; clear HO_6; clear HO_409000; clear BK399; clear BK400; clear BK408; clear BK410; clear BK412; clear HB; have HO_3 := n0_; have HO_6 := n1_; have HO_409000 := n2_; have BK399 := n3_; have BK400 := n4_; have BK408 := n5_; have BK410 := n6_; have BK412 := n7_; have HB := n8_; clear n0_ n1_ n2_ n3_ n4_ n5_ n6_ n7_ n8_; have hnb108 := NB408_400.out; have hnc108 := NB400_408.out; have hcz109_0 : w107.cell? ⟨gb408, 0, none⟩ = some (u409000) := (bC_ BK408.out 0).trans rfl; have hfz109_0 := bF_ BK408.out 0; obtain ⟨Ao110, co110, eo110⟩ := kS_ HO_409000.out; subst eo110; have p89 : 0 ≤ (x24_1 : Int) := of_decide_eq_true (by (with_reducible assumption)); have q89 : (x24_1 : Int) < ((x6_1.length : Int) : Int) := of_decide_eq_true (by (with_reducible assumption)); obtain ⟨go89, co89, eo89, gb89, gl89, cl89, HG89⟩ := Kd.R_form HO_6.out (by omega); (cases eo89); have GB89 := aM_ gb89; have GG89 := aM_ HG89; clear gb89 gl89 HG89; obtain ⟨hx89_0, hf89_0⟩ := kC_ 0 HO_6.out (x24_1 : Int) p89 q89; replace p89 := eq_true p89; replace q89 := eq_true q89; obtain ⟨hy111_, hz111_⟩ := kC_ 0 HO_6.out (x24_1 : Int) (of_decide_eq_true (by (with_reducible assumption))) (of_decide_eq_true (by (with_reducible assumption))); have HP111 := Kd.R_putg HO_6.out (x24_1 : Int) (x409000_1.length : Int)) | ((with_reducible refine gate_store (t := 3) (p := 71) rfl ?_); refine store_event (t := 3) (p := 71) (v := ?vo_w112) (w1 := (w107.setCell ⟨go89, (x24_1 : Int).toNat, none⟩ (.int .i64 (x409000_1.length : Int)))) ?hg ?ho ?hn ?hr ?_; (case ho => rfl); (case hg => rfl); (case hn => rfl); (case hr => (go_simp; done)); intro w112 hw; have hg : w107.grownBy w112 (some go89) := (by rw [hw]; exact HP111.2); have hp_ : Kd.R (Kd.int .i64) 3 w112 w.heap.size (fun _ => True) (.slice (some ⟨go89, 0, none⟩) x6_1.length co89) y422 := (by rw [hw, Ny422.out]; exact HP111.1); clear HP111; replace HO_3 := aM_ (Kd.R_over' (v := (.slice (some ⟨go89, 0, none⟩) x6_1.length co89)) HO_3.out (Kd.R_typed HO_6.out) (by decide) hg); replace HO_409000 := aM_ (Kd.R_over' (v := (.slice (some ⟨go89, 0, none⟩) x6_1.length co89)) HO_409000.out (Kd.R_typed HO_6.out) (by decide) hg); replace BK399 := aM_ (blk_grown (g := gb399) (o := .cells #[.slice (some ad409) l0_0.length c0_0] 36 (0, 0)) BK399.out hg (k6_ HO_6.out BK399.out (by decide))); replace BK400 := aM_ (blk_grown (g := gb400) (o := .cells #[.slice none 0 0] 30 (0, 0)) BK400.out hg (k6_ HO_6.out BK400.out (by decide))); replace BK408 := aM_ (blk_grown (g := gb408) (o := .cells #[.slice Ao110 x409000_1.length co110] 30 (0, 0)) BK408.out hg (k6_ HO_6.out BK408.out (by decide))); replace BK410 := aM_ (blk_grown (g := gb410) (o := .cells #[.int .i64 ((rd_T76 l0_0 x24_1).f0), .int .i64 ((rd_T76 l0_0 x24_1).f1), .bool ((rd_T76 l0_0 x24_1).f2)] 76 (0, 0)) BK410.out hg (k6_ HO_6.out BK410.out (by decide))); replace BK412 := aM_ (blk_grown (g := gb412) (o := .cells #[.string (⟨#[]⟩ : ByteArray), .int .i64 (-1), .bool ((rd_T76 l0_0 x24_1).f2)] 60 (0, 0)) BK412.out hg (k6_ HO_6.out BK412.out (by decide))); replace HO_6 := aM_ (hp_); replace HB := aM_ ((by rw [hw]; exact bS_ (HB.out) GB89.out : Below w.heap.size w w112)); clear hg hw hp_; have hcz113_0 : w112.cell? ⟨gb408, 0, none⟩ = some (.slice Ao110 x409000_1.length co110) := (bC_ BK408.out 0).trans rfl; have hfz113_0 := bF_ BK408.out 0; have hcz114_0 : w112.cell? ⟨gb412, 0, none⟩ = some (.string (⟨#[]⟩ : ByteArray)) := (bC_ BK412.out 0).trans rfl; have hcz114_1 : w112.cell? ⟨gb412, 1, none⟩ = some (.int .i64 (-1)) := (bC_ BK412.out 1).trans rfl; have hcz114_2 : w112.cell? ⟨gb412, 2, none⟩ = some (.bool ((rd_T76 l0_0 x24_1).f2)) := (bC_ BK412.out 2).trans rfl; have hfz114_0 := bF_ BK412.out 0; have hfz114_1 := bF_ BK412.out 1; have hfz114_2 := bF_ BK412.out 2) | ((with_reducible refine gate_builtin (b := .append) (xs := #[.tmp 73, .tmp 75]) rfl ?_); at_builtin; refine Kd.R_append k60 (w0 := w) w.heap.size rfl (.tmp 73) (.tmp 75) 28 60 (.agg #[(.string ⟨#[]⟩), (.int .i64 0), (.bool false)]) 32 rfl Tryz.underlying28 info60 rfl (by decide) (by omega) (.slice Ao110 x409000_1.length co110) x409000_1 (⟨(⟨#[]⟩ : ByteArray), (-1), (rd_T76 l0_0 x24_1).f2⟩ : S60) [.string (⟨#[]⟩ : ByteArray), .int .i64 (-1), .bool ((rd_T76 l0_0 x24_1).f2)] (fun k_ => k_ ≠ gb412) (fun _ => False) rfl rfl ?aP (fun _ hk => hk.elim) ?aF ?aO ?aB ?aS ?aL ?_; (case aP => exact k60_mkM _ _ _ (⟨(⟨#[]⟩ : ByteArray), (-1), (rd_T76 l0_0 x24_1).f2⟩ : S60)); (case aB => exact HB.out); (case aF => exact (fun k_ hk => Kd.freshB (g := gb412) (o := .cells #[.string (⟨#[]⟩ : ByteArray), .int .i64 (-1), .bool ((rd_T76 l0_0 x24_1).f2)] 60 (0, 0)) BK412.out k_ hk)); (case aO => exact HO_409000.out); (case aS => exact (bZ_ HB.out)); (case aL => have := LMc90.out; omega); intro v424 w115 ho hb hg hat; rw [← Ny423.out] at ho; have n0_ := aM_ (Kd.R_over' HO_3.out (Kd.R_typed HO_409000.out) (by decide) hg); have n1_ := aM_ (Kd.R_over' HO_6.out (Kd.R_typed HO_409000.out) (by decide) hg); have n2_ := aM_ (blk_grown (g := gb399) (o := .cells #[.slice (some ad409) l0_0.length c0_0] 36 (0, 0)) BK399.out hg (k6_ HO_409000.out BK399.out (by decide))); have n3_ := aM_ (blk_grown (g := gb400) (o := .cells #[.slice none 0 0] 30 (0, 0)) BK400.out hg (k6_ HO_409000.out BK400.out (by decide))); have n4_ := aM_ (blk_grown (g := gb408) (o := .cells #[.slice Ao110 x409000_1.length co110] 30 (0, 0)) BK408.out hg (k6_ HO_409000.out BK408.out (by decide))); have n5_ := aM_ (blk_grown (g := gb410) (o := .cells #[.int .i64 ((rd_T76 l0_0 x24_1).f0), .int .i64 ((rd_T76 l0_0 x24_1).f1), .bool ((rd_T76 l0_0 x24_1).f2)] 76 (0, 0)) BK410.out hg (k6_ HO_409000.out BK410.out (by decide))); have n6_ := aM_ (blk_grown (g := gb412) (o := .cells #[.string (⟨#[]⟩ : ByteArray), .int .i64 (-1), .bool ((rd_T76 l0_0 x24_1).f2)] 60 (0, 0)) BK412.out hg (Kd.R_away HO_409000.out (fun _ hk => hk))); have n7_ := aM_ (hb); have n8_ := aM_ (ho); clear HO_3; clear HO_6; clear BK399; clear BK400; clear BK408; clear BK410; clear BK412; clear HB; clear HO_409000; have HO_3 := n0_; have HO_6 := n1_; have BK399 := n2_; have BK400 := n3_; have BK408 := n4_; have BK410 := n5_; have BK412 := n6_; have HB := n7_; have HO425 := n8_; clear n0_ n1_ n2_ n3_ n4_ n5_ n6_ n7_ n8_; clear ho hb hg hat; obtain ⟨Ao116, co116, eo116⟩ := kS_ HO425.out; subst eo116; have hcz117_0 : w115.cell? ⟨gb408, 0, none⟩ = some (.slice Ao110 x409000_1.length co110) := (bC_ BK408.out 0).trans rfl; have hfz117_0 := bF_ BK408.out 0))
          go_roundg k1
          case measure => have := HK1.out; omega
          case rel => exact ⟨(y422), (wrap64 (x24_1 + 1)), (y423), (.slice Ao116 y423.length co116), (by rfl), H', ⟨by have := HK1.out; omega⟩, ⟨by exact kM_ (kF_ (p := ⟨gb408, 0, none⟩) (kT_ HO_3.out BK408.out (by decide)) (fun _ hk => hk.2) (.slice Ao116 y423.length co116)) (fun _ hk => trivial)⟩, ⟨by exact kM_ (kF_ (p := ⟨gb408, 0, none⟩) (kT_ HO_6.out BK408.out (by decide)) (fun _ hk => hk.2) (.slice Ao116 y423.length co116)) (fun _ hk => trivial)⟩, ⟨by exact kM_ (kF_ (p := ⟨gb408, 0, none⟩) (kT_ HO425.out BK408.out (by decide)) (fun _ hk => hk.2) (.slice Ao116 y423.length co116)) (fun _ hk => trivial)⟩, ⟨by refine bR_ ?_ NB399_408.out _; exact BK399.out⟩, ⟨by refine bR_ ?_ NB400_408.out _; exact BK400.out⟩, ⟨by refine bP_ (cs := #[.slice Ao110 x409000_1.length co110]) ?_ 0 _ rfl; exact BK408.out⟩, ⟨by repeat (first | (with_reducible first | exact HB.out | apply bA_ | apply bN_ | apply bD_ | refine bS_ ?_ GE399.out | refine bS_ ?_ GE400.out | refine bS_ ?_ GE408.out | refine bS_ ?_ GE410.out | refine bS_ ?_ GE412.out) | exact HB.out)⟩⟩
         ·
          rw [if_neg c90] at H
          exact absurd H (by simp)
        ·
         rw [if_neg c88] at H
         exact absurd H (by simp)
      ·
       replace c22 := Bool.eq_false_iff.mpr c22
       subst c22
       have H1 : (impl_Trie_press.l0 k1 t401 x6_1 l0_0 (l0_0.length : Int) (wrap64 (x24_1 + 1)) l0_0 x409000_1) = some r := by rw [if_neg (show ¬ (false = true) by decide)] at H; exact H
       clear H
       have H := H1
       clear H1
       have H' := aM_ H
       clear H
       have p409 : 0 ≤ (x24_1 : Int) := of_decide_eq_true (by (with_reducible assumption))
       have q409 : x24_1 < (l0_0.length : Int) := of_decide_eq_true (by (with_reducible assumption))
       obtain ⟨ad409, e409, hx409_0, hx409_1, hx409_2⟩ := at_T76 HR0_0.out x24_1 p409 q409
       cases e409
       replace hx409_0 := (HB.out.cell (wB_ w _ hx409_0)).trans hx409_0
       replace hx409_1 := (HB.out.cell (wB_ w _ hx409_1)).trans hx409_1
       replace hx409_2 := (HB.out.cell (wB_ w _ hx409_2)).trans hx409_2
       replace p409 := eq_true p409
       replace q409 := eq_true q409
       go_wp2_with (first | ((with_reducible refine gD_ (N := 8) rfl ?_); refine bE_ ?hg (N := 8) ?hd (cs := #[.int .i64 0, .int .i64 0, .bool false]) (t := 76) ?hr ?_; (case hd => rfl); (case hg => rfl); (case hr => (go_simp; done)); intro gb410 hg w118 hbox hb; replace HO_3 := aM_ (kB_ HO_3.out hb); replace HO_6 := aM_ (kB_ HO_6.out hb); replace HO_409000 := aM_ (kB_ HO_409000.out hb); have BK410 := aM_ (hbox); have GW410 := aM_ ((by rw [hg]; exact (bZ_ HB.out) : w.heap.size ≤ gb410)); have GE410 := GW410; replace HB := aM_ (bT_ HB.out hb); have NB399_410 := aM_ ((by rw [hg]; exact Nat.ne_of_lt (bL_ BK399.out) : gb399 ≠ gb410)); have NB410_399 := aM_ NB399_410.out.symm; replace BK399 := aM_ (bB_ BK399.out hb); have NB400_410 := aM_ ((by rw [hg]; exact Nat.ne_of_lt (bL_ BK400.out) : gb400 ≠ gb410)); have NB410_400 := aM_ NB400_410.out.symm; replace BK400 := aM_ (bB_ BK400.out hb); have NB408_410 := aM_ ((by rw [hg]; exact Nat.ne_of_lt (bL_ BK408.out) : gb408 ≠ gb410)); have NB410_408 := aM_ NB408_410.out.symm; replace BK408 := aM_ (bB_ BK408.out hb); clear hb hbox hg; have hnb119 := NB410_399.out; have hnc119 := NB399_410.out; have hnb120 := NB410_400.out; have hnc120 := NB400_410.out; have hnb121 := NB410_408.out; have hnc121 := NB408_410.out; have hcz122_0 : w118.cell? ⟨gb410, 0, none⟩ = some (.int .i64 0) := (bC_ BK410.out 0).trans rfl; have hcz122_1 : w118.cell? ⟨gb410, 1, none⟩ = some (.int .i64 0) := (bC_ BK410.out 1).trans rfl; have hcz122_2 : w118.cell? ⟨gb410, 2, none⟩ = some (.bool false) := (bC_ BK410.out 2).trans rfl; have hfz122_0 := bF_ BK410.out 0; have hfz122_1 := bF_ BK410.out 1; have hfz122_2 := bF_ BK410.out 2; have hnb123 := NB399_400.out; have hnc123 := NB400_399.out; have hnb124 := NB399_408.out; have hnc124 := NB408_399.out; have hcz125_0 : w118.cell? ⟨gb399, 0, none⟩ = some (.slice (some ad409) l0_0.length c0_0) := (bC_ BK399.out 0).trans rfl; have hfz125_0 := bF_ BK399.out 0) | ((with_reducible refine gC_ (f := 84) rfl ?_); refine goesL_ (some 31) rfl rfl Tryz.func84 (by kernel_rfl) rfl #[.agg #[.slice (some ad409) l0_0.length c0_0], .int .i64 x24_1] rfl (by (try simp only [sD_, sE_, sF_]); rfl) ?_; (with_reducible refine (impl_Trie_stays.calls k1 _ _ l0_0 x24_1 false _ ?side1 ?side2 A21.out).mono ?_); (case side1 => exact k4_ HR0_0.out (by repeat (first | (with_reducible first | exact HB.out | apply bA_ | apply bN_ | apply bD_ | refine bS_ ?_ GE399.out | refine bS_ ?_ GE400.out | refine bS_ ?_ GE408.out | refine bS_ ?_ GE410.out) | exact HB.out))); (case side2 => exact HC0_0.out); rintro e w126 ⟨rfl, hb⟩; refine ⟨_, rfl, ?_⟩; replace HO_3 := aM_ (kB_ (by exact (kM_ (kF_ (p := ⟨gb410, 2, none⟩) (kF_ (p := ⟨gb410, 1, none⟩) (kF_ (p := ⟨gb410, 0, none⟩) (kT_ HO_3.out BK410.out (by decide)) (fun _ hk => hk.2) (.int .i64 ((rd_T76 l0_0 x24_1).f0))) (fun _ hk => hk.2) (.int .i64 ((rd_T76 l0_0 x24_1).f1))) (fun _ hk => hk.2) (.bool ((rd_T76 l0_0 x24_1).f2))) (fun _ h_ => h_.1))) hb); replace HO_6 := aM_ (kB_ (by exact (kM_ (kF_ (p := ⟨gb410, 2, none⟩) (kF_ (p := ⟨gb410, 1, none⟩) (kF_ (p := ⟨gb410, 0, none⟩) (kT_ HO_6.out BK410.out (by decide)) (fun _ hk => hk.2) (.int .i64 ((rd_T76 l0_0 x24_1).f0))) (fun _ hk => hk.2) (.int .i64 ((rd_T76 l0_0 x24_1).f1))) (fun _ hk => hk.2) (.bool ((rd_T76 l0_0 x24_1).f2))) (fun _ h_ => h_.1))) hb); replace HO_409000 := aM_ (kB_ (by exact (kM_ (kF_ (p := ⟨gb410, 2, none⟩) (kF_ (p := ⟨gb410, 1, none⟩) (kF_ (p := ⟨gb410, 0, none⟩) (kT_ HO_409000.out BK410.out (by decide)) (fun _ hk => hk.2) (.int .i64 ((rd_T76 l0_0 x24_1).f0))) (fun _ hk => hk.2) (.int .i64 ((rd_T76 l0_0 x24_1).f1))) (fun _ hk => hk.2) (.bool ((rd_T76 l0_0 x24_1).f2))) (fun _ h_ => h_.1))) hb); replace BK399 := aM_ (bB_ (g := gb399) (o := .cells #[.slice (some ad409) l0_0.length c0_0] 36 (0, 0)) (by refine bR_ ?_ NB399_410.out _; refine bR_ ?_ NB399_410.out _; refine bR_ ?_ NB399_410.out _; exact BK399.out) hb); replace BK400 := aM_ (bB_ (g := gb400) (o := .cells #[.slice none 0 0] 30 (0, 0)) (by refine bR_ ?_ NB400_410.out _; refine bR_ ?_ NB400_410.out _; refine bR_ ?_ NB400_410.out _; exact BK400.out) hb); replace BK408 := aM_ (bB_ (g := gb408) (o := .cells #[u409000] 30 (0, 0)) (by refine bR_ ?_ NB408_410.out _; refine bR_ ?_ NB408_410.out _; refine bR_ ?_ NB408_410.out _; exact BK408.out) hb); replace BK410 := aM_ (bB_ (g := gb410) (o := .cells #[.int .i64 ((rd_T76 l0_0 x24_1).f0), .int .i64 ((rd_T76 l0_0 x24_1).f1), .bool ((rd_T76 l0_0 x24_1).f2)] 76 (0, 0)) (by refine bP_ (cs := #[.int .i64 ((rd_T76 l0_0 x24_1).f0), .int .i64 ((rd_T76 l0_0 x24_1).f1), .bool false]) ?_ 2 _ rfl; refine bP_ (cs := #[.int .i64 ((rd_T76 l0_0 x24_1).f0), .int .i64 0, .bool false]) ?_ 1 _ rfl; refine bP_ (cs := #[.int .i64 0, .int .i64 0, .bool false]) ?_ 0 _ rfl; exact BK410.out) hb); replace HB := aM_ (bT_ (by repeat (first | (with_reducible first | exact HB.out | apply bA_ | apply bN_ | apply bD_ | refine bS_ ?_ GE399.out | refine bS_ ?_ GE400.out | refine bS_ ?_ GE408.out | refine bS_ ?_ GE410.out) | exact HB.out)) hb); (try clear hb)))
       go_roundg k1
       case measure => have := HK1.out; omega
       case rel => exact ⟨(x6_1), (wrap64 (x24_1 + 1)), (x409000_1), (u409000), (by rfl), H', ⟨by have := HK1.out; omega⟩, ⟨HO_3.out⟩, ⟨HO_6.out⟩, ⟨HO_409000.out⟩, ⟨BK399.out⟩, ⟨BK400.out⟩, ⟨BK408.out⟩, ⟨HB.out⟩⟩
     ·
      rw [if_neg c20] at H
      exact absurd H (by simp)
    ·
     rw [if_neg c19] at H
     exact absurd H (by simp)
   ·
    rw [if_neg c18] at H
    have c18b0 := decide_eq_false c18
    clear c18
    obtain rfl := Option.some.inj H
    have hnb127 := NB408_399.out
    have hnc127 := NB399_408.out
    have hnb128 := NB408_400.out
    have hnc128 := NB400_408.out
    have hcz129_0 : wr.cell? ⟨gb408, 0, none⟩ = some (u409000) := (bC_ BK408.out 0).trans rfl
    have hfz129_0 := bF_ BK408.out 0
    obtain ⟨Ao130, co130, eo130⟩ := kS_ HO_409000.out
    subst eo130
    have hnb131 := NB400_399.out
    have hnc131 := NB399_400.out
    have hcz132_0 : wr.cell? ⟨gb400, 0, none⟩ = some (.slice none 0 0) := (bC_ BK400.out 0).trans rfl
    have hfz132_0 := bF_ BK400.out 0
    go_wp2
    refine bodyPost_ret (results_cell_row rfl _ _ gb400 30 #[.slice Ao130 x409000_1.length co130] (0, 0) _ rfl (by refine bP_ (cs := #[.slice none 0 0]) ?_ 0 _ rfl; exact BK400.out) Tryz.underlying30 rfl (by kernel_rfl)) rfl ?_
    exact ⟨_, by rfl, by exact kM_ (kF_ (p := ⟨gb400, 0, none⟩) (kT_ HO_409000.out BK400.out (by decide)) (fun _ hk => hk.2) (.slice Ao130 x409000_1.length co130)) (fun _ hk => trivial), by repeat (first | (with_reducible first | exact HB.out | apply bA_ | apply bN_ | apply bD_ | refine bS_ ?_ GE399.out | refine bS_ ?_ GE400.out | refine bS_ ?_ GE408.out) | exact HB.out)⟩
def impl_Pressed_open.l0 : Nat → List ByteArray → List ByteArray → List (S60) → Int → Int → List (S60) → Option ((List (S76)) × Bool)
 | 0, _, _, _, _, _, _ => none
 | k + 1, x4, x6, x20, x21, x22, x427000 => if x22 < x21 then (if 0 ≤ x22 then (if x22 < (x20.length : Int) then (if (rd_T60 x20 x22).f2 = true then (if x22 < (x4.length : Int) then (if x6.length < 8796093022208 then (impl_Pressed_open.l0 k x4 (x6 ++ [rdOf eB_ x4 x22]) x20 x21 (wrap64 (x22 + 1)) x427000) else (none)) else (none)) else (impl_Pressed_open.l0 k x4 x6 x20 x21 (wrap64 (x22 + 1)) x427000)) else (none)) else (none)) else ((impl_ofWords.f k x6).bind fun bt441 => (if bt441.2 = true then ((impl_Trie_press.f k bt441.1).bind fun t446 => ((impl_Branch.f k t446 x427000).bind fun t449 => (if t449 = true then (some (bt441.1, true)) else (some (([] : List (S76)), false))))) else (some (([] : List (S76)), false))))
def impl_Pressed_open.f (k : Nat) (l0_0 : List (S60)) : Option ((List (S76)) × Bool) := (impl_Pressed_prefixes.f k l0_0).bind fun bt428 => (if bt428.2 = true then (impl_Pressed_open.l0 k bt428.1 (([] : List ByteArray)) l0_0 (l0_0.length : Int) 0 l0_0) else (some (([] : List (S76)), false)))
theorem impl_Pressed_open.mono_l : ∀ k, (∀ y0 y1 y2 y3 y4 y5, LeO (impl_Pressed_open.l0 k y0 y1 y2 y3 y4 y5) (impl_Pressed_open.l0 (k + 1) y0 y1 y2 y3 y4 y5))
 | 0 => fun _ _ _ _ _ _ r h => by simp [impl_Pressed_open.l0] at h
 | k + 1 => by
  have ih0 := impl_Pressed_open.mono_l k
  ·
   intro y0 y1 y2 y3 y4 y5
   unfold impl_Pressed_open.l0
   repeat' first
   | (with_reducible exact ih0 _ _ _ _ _ _)
   | (with_reducible exact impl_Branch.mono _ _ _)
   | (with_reducible exact impl_Pressed_prefixes.mono _ _)
   | (with_reducible exact impl_Trie_press.mono _ _)
   | (with_reducible exact impl_ofWords.mono _ _)
   | (with_reducible exact l3_ _)
   | (with_reducible exact l0_ _)
   | (with_reducible refine l2_ ?_ ?_)
   | (with_reducible refine l1_ ?_ (fun _ => ?_))
   | exact ih0 _ _ _ _ _ _
   | exact impl_Branch.mono _ _ _
   | exact impl_Pressed_prefixes.mono _ _
   | exact impl_Trie_press.mono _ _
   | exact impl_ofWords.mono _ _
   | exact l0_ _
   | refine l2_ ?_ ?_
   | refine l1_ ?_ (fun _ => ?_)
theorem impl_Pressed_open.mono : ∀ a0 k, LeO (impl_Pressed_open.f k a0) (impl_Pressed_open.f (k + 1) a0) := by
 intro a0 k
 have ih0 := impl_Pressed_open.mono_l k
 unfold impl_Pressed_open.f
 repeat' first
   | (with_reducible exact ih0 _ _ _ _ _ _)
   | (with_reducible exact impl_Branch.mono _ _ _)
   | (with_reducible exact impl_Pressed_prefixes.mono _ _)
   | (with_reducible exact impl_Trie_press.mono _ _)
   | (with_reducible exact impl_ofWords.mono _ _)
   | (with_reducible exact l3_ _)
   | (with_reducible exact l0_ _)
   | (with_reducible refine l2_ ?_ ?_)
   | (with_reducible refine l1_ ?_ (fun _ => ?_))
   | exact ih0 _ _ _ _ _ _
   | exact impl_Branch.mono _ _ _
   | exact impl_Pressed_prefixes.mono _ _
   | exact impl_Trie_press.mono _ _
   | exact impl_ofWords.mono _ _
   | exact l0_ _
   | refine l2_ ?_ ?_
   | refine l1_ ?_ (fun _ => ?_)
def impl_Pressed_open.T12 : Bool × List (List Nat × List Nat) := (true, [([], []), ([0], [0]), ([1], [1]), ([2], [2]), ([3, 2, 2], [2, 3]), ([4, 2], [2, 4]), ([2], [2]), ([6, 2], [2, 6]), ([5, 7, 4, 2], [2, 5, 7]), ([8, 2], [2, 8]), ([2, 9], [2, 9])])
def impl_Pressed_open.B12 : List Nat := [0, 1, 3, 7, 15, 31, 7, 71, 255, 511, 1023]
theorem impl_Pressed_open.tab12 : rtab .any (opsOf Tryz.f33 12) = impl_Pressed_open.T12 := by kernel_rfl
theorem impl_Pressed_open.bits12 : waitsOk impl_Pressed_open.T12.2 impl_Pressed_open.B12 = true := by kernel_rfl
theorem impl_Pressed_open.calls (k : Nat) (A0_0 : Option Addr) (c0_0 : Nat) (l0_0 : List (S60)) (r1 : List (S76)) (r2 : Bool) (w : World) (hr0_0 : Kd.C k60 w A0_0 l0_0.length l0_0) (hc0_0 : l0_0.length ≤ c0_0) (h : impl_Pressed_open.f k l0_0 = some (r1, r2)) :
  Calls Tryz.prog 33 #[.agg #[.slice A0_0 l0_0.length c0_0]] w fun e w' => ∃ v0_ : Value, e = .returned (.tuple #[.agg #[v0_], .bool r2]) ∧ Kd.R k76 76 w' w.heap.size (fun _ => True) v0_ r1 ∧ Below w.heap.size w w' := by
 have hu30 := Tryz.underlying30
 have hfd : ∀ (a_ : Option Addr) (n_ c_ : Nat) (W_ : World), (Instr.field 30 (.agg #[.slice a_ n_ c_]) 0).run Tryz.prog W_ = .ok (.slice a_ n_ c_) W_ := fun a_ n_ c_ W_ => by first | rfl | kernel_rfl
 have hu36 := Tryz.underlying36
 have hu60 := Tryz.underlying60
 have HR0_0 := aM_ hr0_0
 have HC0_0 := aM_ hc0_0
 clear hr0_0 hc0_0
 have HB := aM_ (Below.refl w.heap.size w)
 have H : ((impl_Pressed_prefixes.f k l0_0).bind fun bt428 => (if bt428.2 = true then (impl_Pressed_open.l0 k bt428.1 (([] : List ByteArray)) l0_0 (l0_0.length : Int) 0 l0_0) else (some (([] : List (S76)), false)))) = some (r1, r2) := h
 clear h
 replace H := oB_.mp H
 obtain ⟨⟨t428, t431⟩, A20, H⟩ := H
 try dsimp only at H
 have A2 := aM_ A20
 clear A20
 by_cases c3 : t431 = true
 ·
  subst c3
  rw [if_pos rfl] at H
  obtain ⟨y432, hy432⟩ : ∃ y_ : List ByteArray, y_ = (([] : List ByteArray)) := ⟨_, rfl⟩
  replace H : (impl_Pressed_open.l0 k t428 y432 l0_0 (l0_0.length : Int) 0 l0_0) = some (r1, r2) := by first | (rw [hy432]; with_reducible exact H) | (have H2_ := (Option.bind_some _ _).symm.trans H; rw [hy432]; with_reducible exact H2_) | (have H2_ := (Option.bind_some _ _).symm.trans H; with_reducible exact H2_) | with_reducible exact H | (rw [hy432]; exact H) | exact H
  have Ny432 := aM_ hy432
  clear hy432
  have H' := aM_ H
  clear H
  go_enter Tryz.func33, Tryz.ntmps33
  go_wp2_with (first | ((with_reducible refine gD_ (N := 1) rfl ?_); refine bE_ ?hg (N := 1) ?hd (cs := #[.slice A0_0 l0_0.length c0_0]) (t := 30) ?hr ?_; (case hd => rfl); (case hg => rfl); (case hr => (go_simp; done)); intro gb426 hg w4 hbox hb; have BK426 := aM_ (hbox); have GW426 := aM_ ((by rw [hg]; exact (bZ_ HB.out) : w.heap.size ≤ gb426)); have GE426 := GW426; replace HB := aM_ (bT_ HB.out hb); clear hb hbox hg) | ((with_reducible refine gD_ (N := 2) rfl ?_); refine bE_ ?hg (N := 2) ?hd (cs := #[.slice none 0 0]) (t := 36) ?hr ?_; (case hd => rfl); (case hg => rfl); (case hr => (go_simp; done)); intro gb427 hg w5 hbox hb; have BK427 := aM_ (hbox); have GW427 := aM_ ((by rw [hg]; exact (bZ_ HB.out) : w.heap.size ≤ gb427)); have GE427 := GW427; replace HB := aM_ (bT_ HB.out hb); have NB426_427 := aM_ ((by rw [hg]; exact Nat.ne_of_lt (bL_ BK426.out) : gb426 ≠ gb427)); have NB427_426 := aM_ NB426_427.out.symm; replace BK426 := aM_ (bB_ BK426.out hb); clear hb hbox hg; have hnb6 := NB426_427.out; have hnc6 := NB427_426.out; have hcz7_0 : w5.cell? ⟨gb426, 0, none⟩ = some (.slice A0_0 l0_0.length c0_0) := (bC_ BK426.out 0).trans rfl; have hfz7_0 := bF_ BK426.out 0) | ((with_reducible refine gC_ (f := 36) rfl ?_); refine goesL_ (some 12) rfl rfl Tryz.func36 (by kernel_rfl) rfl #[.agg #[.slice A0_0 l0_0.length c0_0]] rfl (by (try simp only [sD_, sE_, sF_]); rfl) ?_; (with_reducible refine (impl_Pressed_prefixes.calls k _ _ l0_0 t428 true _ ?side1 ?side2 A2.out).mono ?_); (case side1 => repeat (first | exact (k4_ HR0_0.out HB.out) | (with_reducible refine Kd.C_alloc ?_ _) | (with_reducible refine Kd.C_drewN ?_ _) | (with_reducible refine Kd.C_drew ?_))); (case side2 => exact HC0_0.out); rintro e w8 ⟨v429, rfl, ho0, hb⟩; refine ⟨_, rfl, ?_⟩; have HO430 := aM_ (k5_ ho0 (bZ_ HB.out)); replace BK426 := aM_ (bB_ BK426.out hb); replace BK427 := aM_ (bB_ BK427.out hb); replace HB := aM_ (bT_ HB.out hb); (try clear hb); (try clear ho0)) | ((with_reducible refine gD_ (N := 18) rfl ?_); refine Kd.R_lit Kd.string _ 9 ?hg (N := 18) ?hd (xs := ([] : List ByteArray)) (inner := []) (ok := fun _ => True) (okp := fun _ => True) ?hr ?hp (fun _ hk => hk) trivial (Below.refl _ _) (Nat.le_refl _) (by simp) ?_; (case hd => rfl); (case hg => rfl); (case hr => (go_simp; done)); (case hp => exact (Reps.none _ _)); intro v433 w9 ho10 hb hg_ hnew_; clear hg_ hnew_; (rw [← Ny432.out] at ho10); have HO434 := aM_ (k5_ (Kd.R_new' ho10 (Kd.R_lt HO430.out)) (bZ_ HB.out)); replace HO430 := aM_ (Kd.R_elder' HO430.out (Kd.R_base ho10) hb); replace BK426 := aM_ (bB_ BK426.out hb); replace BK427 := aM_ (bB_ BK427.out hb); replace HB := aM_ (bT_ HB.out hb); clear hb ho10; have hcz11_0 : w9.cell? ⟨gb426, 0, none⟩ = some (.slice A0_0 l0_0.length c0_0) := (bC_ BK426.out 0).trans rfl; have hfz11_0 := bF_ BK426.out 0))
  go_loopg [6, 22] k (fun kq v6 v22 w' => ∃ (x6_1 : List ByteArray) (x22_1 : Int), v22 = .int .i64 x22_1 ∧ Aside0 (impl_Pressed_open.l0 kq t428 x6_1 l0_0 (l0_0.length : Int) x22_1 l0_0 = some (r1, r2)) ∧ Aside0 (kq ≤ k) ∧ Aside0 (Kd.R Kd.string 9 w' w.heap.size (fun k_ => some k_ ≠ (v6 : Value).ownBlock) v429 t428) ∧ Aside0 (Kd.R Kd.string 9 w' w.heap.size (fun k_ => some k_ ≠ (v429 : Value).ownBlock) v6 x6_1) ∧ Aside0 (w'.heap[gb426]? = some (.cells #[(.slice A0_0 l0_0.length c0_0)] 30 (0, 0))) ∧ Aside0 (w'.heap[gb427]? = some (.cells #[(.slice none 0 0)] 36 (0, 0))) ∧ Aside0 (Below w.heap.size w w'))
  case atStart => exact ⟨(y432), (0), (by rfl), H', ⟨Nat.le_refl _⟩, ⟨by exact kM_ HO430.out (fun _ hk => hk.2)⟩, ⟨by exact kM_ HO434.out (fun _ hk => hk.2)⟩, ⟨BK426.out⟩, ⟨BK427.out⟩, ⟨HB.out⟩⟩
  case round =>
   clear H'
   try clear p2
   try clear hcz11_0
   try clear hcz7_0
   try clear hfz11_0
   try clear hfz7_0
   obtain ⟨x6_1, x22_1, rfl, HA, HK1, HO_4, HO_6, BK426, BK427, HB⟩ := hrel
   cases gk with
   | zero => exact absurd HA.out (by simp [impl_Pressed_open.l0])
   | succ k1 =>
    have H := HA.out
    clear HA
    simp only [impl_Pressed_open.l0] at H
    by_cases c12 : x22_1 < (l0_0.length : Int)
    ·
     rw [if_pos c12] at H
     have c12b0 := decide_eq_true c12
     clear c12
     by_cases c13 : 0 ≤ x22_1
     ·
      rw [if_pos c13] at H
      have c13b0 := decide_eq_true c13
      clear c13
      by_cases c14 : x22_1 < (l0_0.length : Int)
      ·
       rw [if_pos c14] at H
       have c14b0 := decide_eq_true c14
       clear c14
       obtain ⟨bq15, hbq15⟩ : ∃ b_ : Bool, b_ = ((rd_T60 l0_0 x22_1).f2) := ⟨_, rfl⟩
       replace H : (if bq15 = true then (if x22_1 < (t428.length : Int) then (if x6_1.length < 8796093022208 then (impl_Pressed_open.l0 k1 t428 (x6_1 ++ [rdOf eB_ t428 x22_1]) l0_0 (l0_0.length : Int) (wrap64 (x22_1 + 1)) l0_0) else (none)) else (none)) else (impl_Pressed_open.l0 k1 t428 x6_1 l0_0 (l0_0.length : Int) (wrap64 (x22_1 + 1)) l0_0)) = some (r1, r2) := by rw [← hbq15] at H; exact H
       have Nbq15 := aM_ hbq15
       clear hbq15
       by_cases c16 : bq15 = true
       ·
        subst c16
        rw [if_pos rfl] at H
        by_cases c17 : x22_1 < (t428.length : Int)
        ·
         rw [if_pos c17] at H
         have c17b0 := decide_eq_true c17
         clear c17
         by_cases c18 : x6_1.length < 8796093022208
         ·
          rw [if_pos c18] at H
          have LMc18 := aM_ c18
          clear c18
          obtain ⟨y438, hy438⟩ : ∃ y_ : List ByteArray, y_ = (x6_1 ++ [rdOf eB_ t428 x22_1]) := ⟨_, rfl⟩
          replace H : (impl_Pressed_open.l0 k1 t428 y438 l0_0 (l0_0.length : Int) (wrap64 (x22_1 + 1)) l0_0) = some (r1, r2) := by first | (rw [hy438]; with_reducible exact H) | (have H2_ := (Option.bind_some _ _).symm.trans H; rw [hy438]; with_reducible exact H2_) | (have H2_ := (Option.bind_some _ _).symm.trans H; with_reducible exact H2_) | with_reducible exact H | (rw [hy438]; exact H) | exact H
          have Ny438 := aM_ hy438
          clear hy438
          have H' := aM_ H
          clear H
          have p435 : 0 ≤ (x22_1 : Int) := of_decide_eq_true (by (with_reducible assumption))
          have q435 : x22_1 < (l0_0.length : Int) := of_decide_eq_true (by (with_reducible assumption))
          obtain ⟨ad435, e435, hx435_0, hx435_1, hx435_2⟩ := at_T60 HR0_0.out x22_1 p435 q435
          (try rw [← Nbq15.out] at hx435_2)
          cases e435
          replace hx435_0 := (HB.out.cell (wB_ w _ hx435_0)).trans hx435_0
          replace hx435_1 := (HB.out.cell (wB_ w _ hx435_1)).trans hx435_1
          replace hx435_2 := (HB.out.cell (wB_ w _ hx435_2)).trans hx435_2
          replace p435 := eq_true p435
          replace q435 := eq_true q435
          go_wp2_with (first | ((with_reducible refine gD_ (N := 8) rfl ?_); refine bE_ ?hg (N := 8) ?hd (cs := #[.string (⟨#[]⟩ : ByteArray), .int .i64 0, .bool false]) (t := 60) ?hr ?_; (case hd => rfl); (case hg => rfl); (case hr => (go_simp; done)); intro gb436 hg w19 hbox hb; replace HO_4 := aM_ (kB_ HO_4.out hb); replace HO_6 := aM_ (kB_ HO_6.out hb); have BK436 := aM_ (hbox); have GW436 := aM_ ((by rw [hg]; exact (bZ_ HB.out) : w.heap.size ≤ gb436)); have GE436 := GW436; replace HB := aM_ (bT_ HB.out hb); have NB426_436 := aM_ ((by rw [hg]; exact Nat.ne_of_lt (bL_ BK426.out) : gb426 ≠ gb436)); have NB436_426 := aM_ NB426_436.out.symm; replace BK426 := aM_ (bB_ BK426.out hb); have NB427_436 := aM_ ((by rw [hg]; exact Nat.ne_of_lt (bL_ BK427.out) : gb427 ≠ gb436)); have NB436_427 := aM_ NB427_436.out.symm; replace BK427 := aM_ (bB_ BK427.out hb); clear hb hbox hg; have hnb20 := NB436_426.out; have hnc20 := NB426_436.out; have hnb21 := NB436_427.out; have hnc21 := NB427_436.out; have hcz22_0 : w19.cell? ⟨gb436, 0, none⟩ = some (.string (⟨#[]⟩ : ByteArray)) := (bC_ BK436.out 0).trans rfl; have hcz22_1 : w19.cell? ⟨gb436, 1, none⟩ = some (.int .i64 0) := (bC_ BK436.out 1).trans rfl; have hcz22_2 : w19.cell? ⟨gb436, 2, none⟩ = some (.bool false) := (bC_ BK436.out 2).trans rfl; have hfz22_0 := bF_ BK436.out 0; have hfz22_1 := bF_ BK436.out 1; have hfz22_2 := bF_ BK436.out 2; obtain ⟨Ao23, co23, eo23⟩ := kS_ HO_4.out; subst eo23; have p437 : 0 ≤ (x22_1 : Int) := of_decide_eq_true (by (with_reducible assumption)); have q437 : x22_1 < (t428.length : Int) := of_decide_eq_true (by (with_reducible assumption)); obtain ⟨ad437, e437, hx437_0⟩ := Kd.at_string (kR_ HO_4.out).2.2 x22_1 p437 q437; cases e437; have hn437_0 : ad437.block ≠ gb436 := k7_ (k6_ HO_4.out BK436.out (by decide)); have hn437_1 : ad437.block ≠ gb436 := k7_ (k6_ HO_4.out BK436.out (by decide)); have hn437_2 : ad437.block ≠ gb436 := k7_ (k6_ HO_4.out BK436.out (by decide)); replace hx437_0 := (cF_ (p := ⟨gb436, 0, none⟩) (by (rw [add_block]; exact hn437_0)) (.string ((rd_T60 l0_0 x22_1).f0))).trans hx437_0; replace hx437_0 := (cF_ (p := ⟨gb436, 1, none⟩) (by (rw [add_block]; exact hn437_1)) (.int .i64 ((rd_T60 l0_0 x22_1).f1))).trans hx437_0; replace hx437_0 := (cF_ (p := ⟨gb436, 2, none⟩) (by (rw [add_block]; exact hn437_2)) (.bool true)).trans hx437_0; clear hn437_0; clear hn437_1; clear hn437_2; replace p437 := eq_true p437; replace q437 := eq_true q437) | ((with_reducible refine gate_builtin (b := .append) (xs := #[.tmp 29, .tmp 34]) rfl ?_); at_builtin; refine Kd.R_append Kd.string (w0 := w) w.heap.size rfl (.tmp 29) (.tmp 34) 49 9 (.string ⟨#[]⟩) 16 rfl Tryz.underlying49 info9 rfl (by decide) (by omega) u6 x6_1 (rdOf eB_ t428 x22_1) [.string (rdOf eB_ t428 x22_1)] (fun k_ => some k_ ≠ (.slice (some ad437) t428.length co23 : Value).ownBlock) (fun _ => False) rfl (by (go_simp; done)) ?aP (fun _ hk => hk.elim) ?aF ?aO ?aB ?aS ?aL ?_; (case aP => exact rfl); (case aB => exact (by repeat (first | (with_reducible first | exact HB.out | apply bA_ | apply bN_ | apply bD_ | refine bS_ ?_ GE426.out | refine bS_ ?_ GE427.out | refine bS_ ?_ GE436.out) | exact HB.out))); (case aF => exact (fun k_ hk => Kd.fresh' (Kd.R_lt (by exact (kM_ (kF_ (p := ⟨gb436, 2, none⟩) (kF_ (p := ⟨gb436, 1, none⟩) (kF_ (p := ⟨gb436, 0, none⟩) (kT_ HO_4.out BK436.out (by decide)) (fun _ hk => hk.2) (.string ((rd_T60 l0_0 x22_1).f0))) (fun _ hk => hk.2) (.int .i64 ((rd_T60 l0_0 x22_1).f1))) (fun _ hk => hk.2) (.bool true)) (fun _ h_ => h_.1)))) k_ hk)); (case aO => exact (by exact kM_ (kF_ (p := ⟨gb436, 2, none⟩) (kF_ (p := ⟨gb436, 1, none⟩) (kF_ (p := ⟨gb436, 0, none⟩) (kT_ HO_6.out BK436.out (by decide)) (fun _ hk => hk.2) (.string ((rd_T60 l0_0 x22_1).f0))) (fun _ hk => hk.2) (.int .i64 ((rd_T60 l0_0 x22_1).f1))) (fun _ hk => hk.2) (.bool true)) (fun _ hk => hk.1))); (case aS => exact (bZ_ (by repeat (first | (with_reducible first | exact HB.out | apply bA_ | apply bN_ | apply bD_ | refine bS_ ?_ GE426.out | refine bS_ ?_ GE427.out | refine bS_ ?_ GE436.out) | exact HB.out)))); (case aL => have := LMc18.out; omega); intro v439 w24 ho hb hg hat; rw [← Ny438.out] at ho; have n0_ := aM_ (Kd.R_after (ok := (fun _ => True)) (by exact kM_ (kF_ (p := ⟨gb436, 2, none⟩) (kF_ (p := ⟨gb436, 1, none⟩) (kF_ (p := ⟨gb436, 0, none⟩) (kT_ HO_4.out BK436.out (by decide)) (fun _ hk => hk.2) (.string ((rd_T60 l0_0 x22_1).f0))) (fun _ hk => hk.2) (.int .i64 ((rd_T60 l0_0 x22_1).f1))) (fun _ hk => hk.2) (.bool true)) (fun _ hk => ⟨trivial, hk.1⟩)) hg hat); have n1_ := aM_ (blk_grown (g := gb426) (o := .cells #[.slice (some ad435) l0_0.length c0_0] 30 (0, 0)) (by refine bR_ ?_ NB426_436.out _; refine bR_ ?_ NB426_436.out _; refine bR_ ?_ NB426_436.out _; exact BK426.out) hg (k6_ HO_6.out BK426.out (by decide))); have n2_ := aM_ (blk_grown (g := gb427) (o := .cells #[.slice none 0 0] 36 (0, 0)) (by refine bR_ ?_ NB427_436.out _; refine bR_ ?_ NB427_436.out _; refine bR_ ?_ NB427_436.out _; exact BK427.out) hg (k6_ HO_6.out BK427.out (by decide))); have n3_ := aM_ (blk_grown (g := gb436) (o := .cells #[.string ((rd_T60 l0_0 x22_1).f0), .int .i64 ((rd_T60 l0_0 x22_1).f1), .bool true] 60 (0, 0)) (by refine bP_ (cs := #[.string ((rd_T60 l0_0 x22_1).f0), .int .i64 ((rd_T60 l0_0 x22_1).f1), .bool false]) ?_ 2 _ rfl; refine bP_ (cs := #[.string ((rd_T60 l0_0 x22_1).f0), .int .i64 0, .bool false]) ?_ 1 _ rfl; refine bP_ (cs := #[.string (⟨#[]⟩ : ByteArray), .int .i64 0, .bool false]) ?_ 0 _ rfl; exact BK436.out) hg (k6_ HO_6.out BK436.out (by decide))); have n4_ := aM_ (hb); have n5_ := aM_ (ho); clear HO_4; clear BK426; clear BK427; clear BK436; clear HB; clear HO_6; have HO_4 := n0_; have BK426 := n1_; have BK427 := n2_; have BK436 := n3_; have HB := n4_; have HO440 := n5_; clear n0_ n1_ n2_ n3_ n4_ n5_; clear ho hb hg hat))
          go_roundg k1
          case measure => have := HK1.out; omega
          case rel => exact ⟨(y438), (wrap64 (x22_1 + 1)), (by rfl), H', ⟨by have := HK1.out; omega⟩, ⟨by exact kM_ HO_4.out (fun _ hk => hk.2)⟩, ⟨HO440.out⟩, ⟨BK426.out⟩, ⟨BK427.out⟩, ⟨HB.out⟩⟩
         ·
          rw [if_neg c18] at H
          exact absurd H (by simp)
        ·
         rw [if_neg c17] at H
         exact absurd H (by simp)
       ·
        replace c16 := Bool.eq_false_iff.mpr c16
        subst c16
        have H1 : (impl_Pressed_open.l0 k1 t428 x6_1 l0_0 (l0_0.length : Int) (wrap64 (x22_1 + 1)) l0_0) = some (r1, r2) := by rw [if_neg (show ¬ (false = true) by decide)] at H; exact H
        clear H
        have H := H1
        clear H1
        have H' := aM_ H
        clear H
        have p435 : 0 ≤ (x22_1 : Int) := of_decide_eq_true (by (with_reducible assumption))
        have q435 : x22_1 < (l0_0.length : Int) := of_decide_eq_true (by (with_reducible assumption))
        obtain ⟨ad435, e435, hx435_0, hx435_1, hx435_2⟩ := at_T60 HR0_0.out x22_1 p435 q435
        (try rw [← Nbq15.out] at hx435_2)
        cases e435
        replace hx435_0 := (HB.out.cell (wB_ w _ hx435_0)).trans hx435_0
        replace hx435_1 := (HB.out.cell (wB_ w _ hx435_1)).trans hx435_1
        replace hx435_2 := (HB.out.cell (wB_ w _ hx435_2)).trans hx435_2
        replace p435 := eq_true p435
        replace q435 := eq_true q435
        go_wp2_with (first | ((with_reducible refine gD_ (N := 8) rfl ?_); refine bE_ ?hg (N := 8) ?hd (cs := #[.string (⟨#[]⟩ : ByteArray), .int .i64 0, .bool false]) (t := 60) ?hr ?_; (case hd => rfl); (case hg => rfl); (case hr => (go_simp; done)); intro gb436 hg w25 hbox hb; replace HO_4 := aM_ (kB_ HO_4.out hb); replace HO_6 := aM_ (kB_ HO_6.out hb); have BK436 := aM_ (hbox); have GW436 := aM_ ((by rw [hg]; exact (bZ_ HB.out) : w.heap.size ≤ gb436)); have GE436 := GW436; replace HB := aM_ (bT_ HB.out hb); have NB426_436 := aM_ ((by rw [hg]; exact Nat.ne_of_lt (bL_ BK426.out) : gb426 ≠ gb436)); have NB436_426 := aM_ NB426_436.out.symm; replace BK426 := aM_ (bB_ BK426.out hb); have NB427_436 := aM_ ((by rw [hg]; exact Nat.ne_of_lt (bL_ BK427.out) : gb427 ≠ gb436)); have NB436_427 := aM_ NB427_436.out.symm; replace BK427 := aM_ (bB_ BK427.out hb); clear hb hbox hg; have hnb26 := NB436_426.out; have hnc26 := NB426_436.out; have hnb27 := NB436_427.out; have hnc27 := NB427_436.out; have hcz28_0 : w25.cell? ⟨gb436, 0, none⟩ = some (.string (⟨#[]⟩ : ByteArray)) := (bC_ BK436.out 0).trans rfl; have hcz28_1 : w25.cell? ⟨gb436, 1, none⟩ = some (.int .i64 0) := (bC_ BK436.out 1).trans rfl; have hcz28_2 : w25.cell? ⟨gb436, 2, none⟩ = some (.bool false) := (bC_ BK436.out 2).trans rfl; have hfz28_0 := bF_ BK436.out 0; have hfz28_1 := bF_ BK436.out 1; have hfz28_2 := bF_ BK436.out 2))
        go_roundg k1
        case measure => have := HK1.out; omega
        case rel => exact ⟨(x6_1), (wrap64 (x22_1 + 1)), (by rfl), H', ⟨by have := HK1.out; omega⟩, ⟨by exact kM_ (kF_ (p := ⟨gb436, 2, none⟩) (kF_ (p := ⟨gb436, 1, none⟩) (kF_ (p := ⟨gb436, 0, none⟩) (kT_ HO_4.out BK436.out (by decide)) (fun _ hk => hk.2) (.string ((rd_T60 l0_0 x22_1).f0))) (fun _ hk => hk.2) (.int .i64 ((rd_T60 l0_0 x22_1).f1))) (fun _ hk => hk.2) (.bool false)) (fun _ hk => hk.1)⟩, ⟨by exact kM_ (kF_ (p := ⟨gb436, 2, none⟩) (kF_ (p := ⟨gb436, 1, none⟩) (kF_ (p := ⟨gb436, 0, none⟩) (kT_ HO_6.out BK436.out (by decide)) (fun _ hk => hk.2) (.string ((rd_T60 l0_0 x22_1).f0))) (fun _ hk => hk.2) (.int .i64 ((rd_T60 l0_0 x22_1).f1))) (fun _ hk => hk.2) (.bool false)) (fun _ hk => hk.1)⟩, ⟨by refine bR_ ?_ NB426_436.out _; refine bR_ ?_ NB426_436.out _; refine bR_ ?_ NB426_436.out _; exact BK426.out⟩, ⟨by refine bR_ ?_ NB427_436.out _; refine bR_ ?_ NB427_436.out _; refine bR_ ?_ NB427_436.out _; exact BK427.out⟩, ⟨by repeat (first | (with_reducible first | exact HB.out | apply bA_ | apply bN_ | apply bD_ | refine bS_ ?_ GE426.out | refine bS_ ?_ GE427.out | refine bS_ ?_ GE436.out) | exact HB.out)⟩⟩
      ·
       rw [if_neg c14] at H
       exact absurd H (by simp)
     ·
      rw [if_neg c13] at H
      exact absurd H (by simp)
    ·
     rw [if_neg c12] at H
     have c12b0 := decide_eq_false c12
     clear c12
     replace H := oB_.mp H
     obtain ⟨⟨t441, t444⟩, A290, H⟩ := H
     try dsimp only at H
     have A29 := aM_ A290
     clear A290
     by_cases c30 : t444 = true
     ·
      subst c30
      rw [if_pos rfl] at H
      replace H := oB_.mp H
      obtain ⟨t446, A310, H⟩ := H
      try dsimp only at H
      have A31 := aM_ A310
      clear A310
      replace H := oB_.mp H
      obtain ⟨t449, A320, H⟩ := H
      try dsimp only at H
      have A32 := aM_ A320
      clear A320
      by_cases c33 : t449 = true
      ·
       subst c33
       rw [if_pos rfl] at H
       simp only [Option.some.injEq, Prod.mk.injEq] at H
       obtain ⟨rfl, rfl⟩ := H
       obtain ⟨Ao34, co34, eo34⟩ := kS_ HO_6.out
       subst eo34
       try go_wp2_with (first | ((with_reducible refine gC_ (f := 61) rfl ?_); refine goesL_ (some 39) rfl rfl Tryz.func61 (by kernel_rfl) rfl #[.slice Ao34 x6_1.length co34] rfl (by (try simp only [sD_, sE_, sF_]); rfl) ?_; (with_reducible refine (impl_ofWords.calls k1 _ _ x6_1 t441 true _ ?side1 ?side2 A29.out).mono ?_); (case side1 => repeat (first | exact (kR_ HO_6.out).2.2 | (with_reducible refine Kd.C_alloc ?_ _) | (with_reducible refine Kd.C_drewN ?_ _) | (with_reducible refine Kd.C_drew ?_))); (case side2 => exact (kR_ HO_6.out).2.1); rintro e w35 ⟨v442, rfl, ho0, hb⟩; refine ⟨_, rfl, ?_⟩; replace HO_4 := aM_ (kB_ HO_4.out hb); replace HO_6 := aM_ (kB_ HO_6.out hb); have HO443 := aM_ (k5_ ho0 (bZ_ HB.out)); replace BK426 := aM_ (bB_ BK426.out hb); replace BK427 := aM_ (bB_ BK427.out hb); replace HB := aM_ (bT_ HB.out hb); (try clear hb); (try clear ho0)) | ((with_reducible refine gD_ (N := 9) rfl ?_); refine bE_ ?hg (N := 9) ?hd (cs := #[.slice none 0 0]) (t := 36) ?hr ?_; (case hd => rfl); (case hg => rfl); (case hr => (go_simp; done)); intro gb445 hg w36 hbox hb; replace HO_4 := aM_ (kB_ HO_4.out hb); replace HO_6 := aM_ (kB_ HO_6.out hb); replace HO443 := aM_ (kB_ HO443.out hb); have BK445 := aM_ (hbox); have GW445 := aM_ ((by rw [hg]; exact (bZ_ HB.out) : w.heap.size ≤ gb445)); have GE445 := GW445; replace HB := aM_ (bT_ HB.out hb); have NB426_445 := aM_ ((by rw [hg]; exact Nat.ne_of_lt (bL_ BK426.out) : gb426 ≠ gb445)); have NB445_426 := aM_ NB426_445.out.symm; replace BK426 := aM_ (bB_ BK426.out hb); have NB427_445 := aM_ ((by rw [hg]; exact Nat.ne_of_lt (bL_ BK427.out) : gb427 ≠ gb445)); have NB445_427 := aM_ NB427_445.out.symm; replace BK427 := aM_ (bB_ BK427.out hb); clear hb hbox hg; obtain ⟨Ao37, co37, eo37⟩ := kS_ HO443.out; subst eo37; have hnb38 := NB445_426.out; have hnc38 := NB426_445.out; have hnb39 := NB445_427.out; have hnc39 := NB427_445.out; have hcz40_0 : w36.cell? ⟨gb445, 0, none⟩ = some (.slice none 0 0) := (bC_ BK445.out 0).trans rfl; have hfz40_0 := bF_ BK445.out 0))
       have n0_ : Aside0 (Kd.R Kd.string 9 (w36.setCell ⟨gb445, 0, none⟩ (.slice Ao37 t441.length co37)) w.heap.size (fun k_ => some k_ ≠ (.slice Ao34 x6_1.length co34 : Value).ownBlock) v429 t428) := ⟨by exact kM_ (kF_ (p := ⟨gb445, 0, none⟩) (kT_ HO_4.out BK445.out (by decide)) (fun _ hk => hk.2) (.slice Ao37 t441.length co37)) (fun _ hk => hk.1)⟩
       have n1_ : Aside0 (Kd.R Kd.string 9 (w36.setCell ⟨gb445, 0, none⟩ (.slice Ao37 t441.length co37)) w.heap.size (fun k_ => some k_ ≠ (v429 : Value).ownBlock) (.slice Ao34 x6_1.length co34) x6_1) := ⟨by exact kM_ (kF_ (p := ⟨gb445, 0, none⟩) (kT_ HO_6.out BK445.out (by decide)) (fun _ hk => hk.2) (.slice Ao37 t441.length co37)) (fun _ hk => hk.1)⟩
       have n2_ : Aside0 (Kd.R k76 76 (w36.setCell ⟨gb445, 0, none⟩ (.slice Ao37 t441.length co37)) w.heap.size (fun _ => True) (.slice Ao37 t441.length co37) t441) := ⟨by exact kM_ (kF_ (p := ⟨gb445, 0, none⟩) (kT_ HO443.out BK445.out (by decide)) (fun _ hk => hk.2) (.slice Ao37 t441.length co37)) (fun _ hk => trivial)⟩
       have n3_ : Aside0 ((w36.setCell ⟨gb445, 0, none⟩ (.slice Ao37 t441.length co37)).heap[gb426]? = some (.cells #[.slice A0_0 l0_0.length c0_0] 30 (0, 0))) := ⟨by refine bR_ ?_ NB426_445.out _; exact BK426.out⟩
       have n4_ : Aside0 ((w36.setCell ⟨gb445, 0, none⟩ (.slice Ao37 t441.length co37)).heap[gb427]? = some (.cells #[.slice none 0 0] 36 (0, 0))) := ⟨by refine bR_ ?_ NB427_445.out _; exact BK427.out⟩
       have n5_ : Aside0 ((w36.setCell ⟨gb445, 0, none⟩ (.slice Ao37 t441.length co37)).heap[gb445]? = some (.cells #[.slice Ao37 t441.length co37] 36 (0, 0))) := ⟨by refine bP_ (cs := #[.slice none 0 0]) ?_ 0 _ rfl; exact BK445.out⟩
       have n6_ : Aside0 (Below w.heap.size w (w36.setCell ⟨gb445, 0, none⟩ (.slice Ao37 t441.length co37))) := ⟨by repeat (first | (with_reducible first | exact HB.out | apply bA_ | apply bN_ | apply bD_ | refine bS_ ?_ GE426.out | refine bS_ ?_ GE427.out | refine bS_ ?_ GE445.out) | exact HB.out)⟩
       (try clear HO_4)
       (try clear HO_6)
       (try clear HO443)
       (try clear BK426)
       (try clear BK427)
       (try clear BK445)
       (try clear HB)
       generalize (w36.setCell ⟨gb445, 0, none⟩ (.slice Ao37 t441.length co37)) = w41 at n0_ n1_ n2_ n3_ n4_ n5_ n6_ ⊢
       have HO_4 := n0_
       have HO_6 := n1_
       have HO443 := n2_
       have BK426 := n3_
       have BK427 := n4_
       have BK445 := n5_
       have HB := n6_
       clear n0_ n1_ n2_ n3_ n4_ n5_ n6_
       have n0_ := aM_ (k3_ HO_4.out)
       have n1_ := aM_ (k3_ HO_6.out)
       have n2_ := aM_ (k3_ HO443.out)
       have n3_ := aM_ (b1_ BK426.out)
       have n4_ := aM_ (b1_ BK427.out)
       have n5_ := aM_ (b1_ BK445.out)
       have n6_ := aM_ (bD_ HB.out)
       clear HO_4
       clear HO_6
       clear HO443
       clear BK426
       clear BK427
       clear BK445
       clear HB
       have HO_4 := n0_
       have HO_6 := n1_
       have HO443 := n2_
       have BK426 := n3_
       have BK427 := n4_
       have BK445 := n5_
       have HB := n6_
       clear n0_ n1_ n2_ n3_ n4_ n5_ n6_
       refine start_ (n := 11) (S := fun w' => w'.cell? ⟨gb445, 0, none⟩ = some (.slice Ao37 t441.length co37) ∧ w'.cell? ⟨gb426, 0, none⟩ = some (.slice A0_0 l0_0.length c0_0)) (ds := []) #[fy, fy, fy, fy, fy, fy, fy, fy, fy, fy, fy] (by kernel_rfl) rfl rfl ⟨(bC_ BK445.out 0).trans rfl, (bC_ BK426.out 0).trans rfl⟩ (fun hHeld => ?_); refine with_tabW impl_Pressed_open.tab12 impl_Pressed_open.bits12 (fun HT_ HW_ => ?_)
       generalize w41.drew = w42 at HO_4 HO_6 HO443 BK426 BK427 BK445 HB hHeld ⊢
       refine pure_ (i := 0) (N := some 42) (v := ?_) (a' := ?_) #[ty, fy, fy, fy, fy, fy, fy, fy, fy, fy, fy] rfl rfl (aO_ HT_.out (by kernel_rfl)) (fun _ _ _ h => h) (Or.inl ⟨by rfl, ?_⟩) ?_ ?_; rotate_left; (intro w'; go_simp; with_reducible rfl); rotate_left; (simp only [Act.put, sA_, sB_, sC_, i6_, i3_]; rfl)
       refine pure_ (i := 1) (N := some 43) (v := ?_) (a' := ?_) #[ty, ty, fy, fy, fy, fy, fy, fy, fy, fy, fy] rfl rfl (aO_ HT_.out (by kernel_rfl)) (fun _ _ _ h => h) (Or.inl ⟨by rfl, ?_⟩) ?_ ?_; rotate_left; (intro w'; go_simp; with_reducible rfl); rotate_left; (simp only [Act.put, sA_, sB_, sC_, i6_, i3_]; rfl)
       refine pure_ (i := 2) (N := some 44) (v := ?_) (a' := ?_) #[ty, ty, ty, fy, fy, fy, fy, fy, fy, fy, fy] rfl rfl (aO_ HT_.out (by kernel_rfl)) (fun _ _ _ h => h) (Or.inl ⟨by rfl, ?_⟩) ?_ ?_; rotate_left; (intro w'; go_simp; with_reducible rfl); rotate_left; (simp only [Act.put, sA_, sB_, sC_, i6_, i3_]; rfl)
       refine pure_ (i := 6) (N := some 48) (v := ?_) (a' := ?_) #[ty, ty, ty, fy, fy, fy, ty, fy, fy, fy, fy] rfl rfl (aO_ HT_.out (by kernel_rfl)) (fun _ _ _ h => h) (Or.inl ⟨by rfl, ?_⟩) ?_ ?_; rotate_left; (intro w'; go_simp; with_reducible rfl); rotate_left; (simp only [Act.put, sA_, sB_, sC_, i6_, i3_]; rfl)
       refine take_ (i := 3) (N := some 45) (v := ?_) (a' := ?_) #[ty, ty, ty, ty, fy, fy, ty, fy, fy, fy, fy] rfl rfl (tW_ HT_.out HW_.out (by kernel_rfl)) (fun _ _ _ h => h) (Or.inl ⟨by rfl, ?_⟩) hHeld ?_ ?_; rotate_left; (rintro w' ⟨s0, s1⟩; go_simp; with_reducible rfl); rotate_left; (simp only [Act.put, sA_, sB_, sC_, i6_, i3_]; rfl)
       refine take_ (i := 7) (N := some 49) (v := ?_) (a' := ?_) #[ty, ty, ty, ty, fy, fy, ty, ty, fy, fy, fy] rfl rfl (tW_ HT_.out HW_.out (by kernel_rfl)) (fun _ _ _ h => h) (Or.inl ⟨by rfl, ?_⟩) hHeld ?_ ?_; rotate_left; (rintro w' ⟨s0, s1⟩; go_simp; with_reducible rfl); rotate_left; (simp only [Act.put, sA_, sB_, sC_, i6_, i3_]; rfl)
       refine one_ (i := 4) (N := some 46) #[ty, ty, ty, ty, ty, fy, ty, ty, fy, fy, fy] rfl rfl (one_of HT_.out (by kernel_rfl)) (by decide) (fun K hK => ?_)
       refine goes_ Tryz.func63 (by kernel_rfl) rfl #[.agg #[.slice Ao37 t441.length co37]] (by rfl) rfl rfl (by (try simp only [sD_, sE_, sF_]); rfl) ?_
       with_reducible refine (impl_Trie_press.calls k1 _ _ t441 t446 _ ?side1 ?side2 A31.out).mono ?_
       (case side1 => repeat (first | exact (kR_ HO443.out).2.2 | (with_reducible refine Kd.C_alloc ?_ _) | (with_reducible refine Kd.C_drewN ?_ _) | (with_reducible refine Kd.C_drew ?_)))
       (case side2 => exact (kR_ HO443.out).2.1)
       rintro e w43 ⟨v447, rfl, ho0, hb⟩
       refine ⟨_, rfl, ?_⟩
       have n0_ := aM_ (kB_ HO_4.out hb)
       have n1_ := aM_ (kB_ HO_6.out hb)
       have n2_ := aM_ (kB_ HO443.out hb)
       have n3_ := aM_ (k5_ ho0 (bZ_ HB.out))
       have n4_ := aM_ (bB_ BK426.out hb)
       have n5_ := aM_ (bB_ BK427.out hb)
       have n6_ := aM_ (bB_ BK445.out hb)
       have n7_ := aM_ (bT_ HB.out hb)
       clear HO_4
       clear HO_6
       clear HO443
       clear BK426
       clear BK427
       clear BK445
       clear HB
       have HO_4 := n0_
       have HO_6 := n1_
       have HO443 := n2_
       have HO448 := n3_
       have BK426 := n4_
       have BK427 := n5_
       have BK445 := n6_
       have HB := n7_
       clear n0_ n1_ n2_ n3_ n4_ n5_ n6_ n7_
       (try clear hb)
       (try clear ho0)
       obtain ⟨Ao44, co44, eo44⟩ := kS_ HO448.out
       (subst eo44)
       refine hK.out _ _ ⟨(bC_ BK445.out 0).trans rfl, (bC_ BK426.out 0).trans rfl⟩ (fun hHeld => ?_)
       clear hK K
       refine norm_ (a' := ?_) ?_ ?_; rotate_left; (show Act.put _ (some 46) _ = _; simp only [Act.put, sA_, sB_, sC_, i6_, i3_]; rfl)
       refine pure_ (i := 5) (N := some 47) (v := ?_) (a' := ?_) #[ty, ty, ty, ty, ty, ty, ty, ty, fy, fy, fy] rfl rfl (aO_ HT_.out (by kernel_rfl)) (fun _ _ _ h => h) (Or.inl ⟨by rfl, ?_⟩) ?_ ?_; rotate_left; (intro w'; go_simp; with_reducible rfl); rotate_left; (simp only [Act.put, sA_, sB_, sC_, i6_, i3_]; rfl)
       refine one_ (i := 8) (N := some 50) #[ty, ty, ty, ty, ty, ty, ty, ty, ty, fy, fy] rfl rfl (one_of HT_.out (by kernel_rfl)) (by decide) (fun K hK => ?_)
       refine goes_ Tryz.func62 (by kernel_rfl) rfl #[.slice Ao44 t446.length co44, .slice A0_0 l0_0.length c0_0] (by rfl) rfl rfl (by (try simp only [sD_, sE_, sF_]); rfl) ?_
       with_reducible refine (impl_Branch.calls k1 _ _ t446 _ _ l0_0 true _ ?side1 ?side2 ?side3 ?side4 A32.out).mono ?_
       (case side1 => repeat (first | exact (kR_ HO448.out).2.2 | (with_reducible refine Kd.C_alloc ?_ _) | (with_reducible refine Kd.C_drewN ?_ _) | (with_reducible refine Kd.C_drew ?_)))
       (case side2 => exact (kR_ HO448.out).2.1)
       (case side3 => repeat (first | exact (k4_ HR0_0.out HB.out) | (with_reducible refine Kd.C_alloc ?_ _) | (with_reducible refine Kd.C_drewN ?_ _) | (with_reducible refine Kd.C_drew ?_)))
       (case side4 => exact HC0_0.out)
       rintro e w' ⟨rfl, ⟨nd, rfl⟩⟩
       refine ⟨_, rfl, ?_⟩
       refine hK.out _ _ ⟨(bC_ BK445.out 0).trans rfl, (bC_ BK426.out 0).trans rfl⟩ (fun hHeld => ?_)
       clear hK K
       refine norm_ (a' := ?_) ?_ ?_; rotate_left; (show Act.put _ (some 50) _ = _; simp only [Act.put, sA_, sB_, sC_, i6_, i3_]; rfl)
       refine pure_ (i := 9) (N := some 51) (v := ?_) (a' := ?_) #[ty, ty, ty, ty, ty, ty, ty, ty, ty, ty, fy] rfl rfl (aO_ HT_.out (by kernel_rfl)) (fun _ _ _ h => h) (Or.inl ⟨by rfl, ?_⟩) ?_ ?_; rotate_left; (intro w'; go_simp; with_reducible rfl); rotate_left; (simp only [Act.put, sA_, sB_, sC_, i6_, i3_]; rfl)
       refine pure_ (i := 10) (N := some 52) (v := ?_) (a' := ?_) #[ty, ty, ty, ty, ty, ty, ty, ty, ty, ty, ty] rfl rfl (aO_ HT_.out (by kernel_rfl)) (fun _ _ _ h => h) (Or.inl ⟨by rfl, ?_⟩) ?_ ?_; rotate_left; (intro w'; go_simp; with_reducible rfl); rotate_left; (simp only [Act.put, sA_, sB_, sC_, i6_, i3_]; rfl)
       refine done_ (done_of HT_.out (by kernel_rfl)) ?_
       have hcz45_0 : w43.cell? ⟨gb445, 0, none⟩ = some (.slice Ao37 t441.length co37) := (bC_ BK445.out 0).trans rfl
       have hfz45_0 := bF_ BK445.out 0
       have hnb46 := NB427_426.out
       have hnc46 := NB426_427.out
       have hcz47_0 : w43.cell? ⟨gb427, 0, none⟩ = some (.slice none 0 0) := (bC_ BK427.out 0).trans rfl
       have hfz47_0 := bF_ BK427.out 0
       try go_wp2
       refine bodyPost_ret (results_ct rfl _ _ gb427 36 #[.slice Ao37 t441.length co37] (0, 0) _ rfl (by refine bP_ (cs := #[.slice none 0 0]) ?_ 0 _ rfl; (with_reducible repeat (first | refine b2_ ?_ _ | refine b1_ ?_ | refine b3_ ?_ _)); exact BK427.out) Tryz.underlying36 rfl (by kernel_rfl)) rfl ?_
       exact ⟨_, by rfl, by exact kM_ (kF_ (p := ⟨gb427, 0, none⟩) (kT_ HO443.out BK427.out (by decide)) (fun _ hk => hk.2) (.slice Ao37 t441.length co37)) (fun _ hk => trivial), by repeat (first | (with_reducible first | exact HB.out | apply bA_ | apply bN_ | apply bD_ | refine bS_ ?_ GE426.out | refine bS_ ?_ GE427.out | refine bS_ ?_ GE445.out) | exact HB.out)⟩
      ·
       replace c33 := Bool.eq_false_iff.mpr c33
       subst c33
       have H1 : (some (([] : List (S76)), false)) = some (r1, r2) := by rw [if_neg (show ¬ (false = true) by decide)] at H; exact H
       clear H
       have H := H1
       clear H1
       simp only [Option.some.injEq, Prod.mk.injEq] at H
       obtain ⟨rfl, rfl⟩ := H
       obtain ⟨Ao48, co48, eo48⟩ := kS_ HO_6.out
       subst eo48
       try go_wp2_with (first | ((with_reducible refine gC_ (f := 61) rfl ?_); refine goesL_ (some 39) rfl rfl Tryz.func61 (by kernel_rfl) rfl #[.slice Ao48 x6_1.length co48] rfl (by (try simp only [sD_, sE_, sF_]); rfl) ?_; (with_reducible refine (impl_ofWords.calls k1 _ _ x6_1 t441 true _ ?side1 ?side2 A29.out).mono ?_); (case side1 => repeat (first | exact (kR_ HO_6.out).2.2 | (with_reducible refine Kd.C_alloc ?_ _) | (with_reducible refine Kd.C_drewN ?_ _) | (with_reducible refine Kd.C_drew ?_))); (case side2 => exact (kR_ HO_6.out).2.1); rintro e w49 ⟨v442, rfl, ho0, hb⟩; refine ⟨_, rfl, ?_⟩; replace HO_4 := aM_ (kB_ HO_4.out hb); replace HO_6 := aM_ (kB_ HO_6.out hb); have HO443 := aM_ (k5_ ho0 (bZ_ HB.out)); replace BK426 := aM_ (bB_ BK426.out hb); replace BK427 := aM_ (bB_ BK427.out hb); replace HB := aM_ (bT_ HB.out hb); (try clear hb); (try clear ho0)) | ((with_reducible refine gD_ (N := 9) rfl ?_); refine bE_ ?hg (N := 9) ?hd (cs := #[.slice none 0 0]) (t := 36) ?hr ?_; (case hd => rfl); (case hg => rfl); (case hr => (go_simp; done)); intro gb445 hg w50 hbox hb; replace HO_4 := aM_ (kB_ HO_4.out hb); replace HO_6 := aM_ (kB_ HO_6.out hb); replace HO443 := aM_ (kB_ HO443.out hb); have BK445 := aM_ (hbox); have GW445 := aM_ ((by rw [hg]; exact (bZ_ HB.out) : w.heap.size ≤ gb445)); have GE445 := GW445; replace HB := aM_ (bT_ HB.out hb); have NB426_445 := aM_ ((by rw [hg]; exact Nat.ne_of_lt (bL_ BK426.out) : gb426 ≠ gb445)); have NB445_426 := aM_ NB426_445.out.symm; replace BK426 := aM_ (bB_ BK426.out hb); have NB427_445 := aM_ ((by rw [hg]; exact Nat.ne_of_lt (bL_ BK427.out) : gb427 ≠ gb445)); have NB445_427 := aM_ NB427_445.out.symm; replace BK427 := aM_ (bB_ BK427.out hb); clear hb hbox hg; obtain ⟨Ao51, co51, eo51⟩ := kS_ HO443.out; subst eo51; have hnb52 := NB445_426.out; have hnc52 := NB426_445.out; have hnb53 := NB445_427.out; have hnc53 := NB427_445.out; have hcz54_0 : w50.cell? ⟨gb445, 0, none⟩ = some (.slice none 0 0) := (bC_ BK445.out 0).trans rfl; have hfz54_0 := bF_ BK445.out 0))
       have n0_ : Aside0 (Kd.R Kd.string 9 (w50.setCell ⟨gb445, 0, none⟩ (.slice Ao51 t441.length co51)) w.heap.size (fun k_ => some k_ ≠ (.slice Ao48 x6_1.length co48 : Value).ownBlock) v429 t428) := ⟨by exact kM_ (kF_ (p := ⟨gb445, 0, none⟩) (kT_ HO_4.out BK445.out (by decide)) (fun _ hk => hk.2) (.slice Ao51 t441.length co51)) (fun _ hk => hk.1)⟩
       have n1_ : Aside0 (Kd.R Kd.string 9 (w50.setCell ⟨gb445, 0, none⟩ (.slice Ao51 t441.length co51)) w.heap.size (fun k_ => some k_ ≠ (v429 : Value).ownBlock) (.slice Ao48 x6_1.length co48) x6_1) := ⟨by exact kM_ (kF_ (p := ⟨gb445, 0, none⟩) (kT_ HO_6.out BK445.out (by decide)) (fun _ hk => hk.2) (.slice Ao51 t441.length co51)) (fun _ hk => hk.1)⟩
       have n2_ : Aside0 (Kd.R k76 76 (w50.setCell ⟨gb445, 0, none⟩ (.slice Ao51 t441.length co51)) w.heap.size (fun _ => True) (.slice Ao51 t441.length co51) t441) := ⟨by exact kM_ (kF_ (p := ⟨gb445, 0, none⟩) (kT_ HO443.out BK445.out (by decide)) (fun _ hk => hk.2) (.slice Ao51 t441.length co51)) (fun _ hk => trivial)⟩
       have n3_ : Aside0 ((w50.setCell ⟨gb445, 0, none⟩ (.slice Ao51 t441.length co51)).heap[gb426]? = some (.cells #[.slice A0_0 l0_0.length c0_0] 30 (0, 0))) := ⟨by refine bR_ ?_ NB426_445.out _; exact BK426.out⟩
       have n4_ : Aside0 ((w50.setCell ⟨gb445, 0, none⟩ (.slice Ao51 t441.length co51)).heap[gb427]? = some (.cells #[.slice none 0 0] 36 (0, 0))) := ⟨by refine bR_ ?_ NB427_445.out _; exact BK427.out⟩
       have n5_ : Aside0 ((w50.setCell ⟨gb445, 0, none⟩ (.slice Ao51 t441.length co51)).heap[gb445]? = some (.cells #[.slice Ao51 t441.length co51] 36 (0, 0))) := ⟨by refine bP_ (cs := #[.slice none 0 0]) ?_ 0 _ rfl; exact BK445.out⟩
       have n6_ : Aside0 (Below w.heap.size w (w50.setCell ⟨gb445, 0, none⟩ (.slice Ao51 t441.length co51))) := ⟨by repeat (first | (with_reducible first | exact HB.out | apply bA_ | apply bN_ | apply bD_ | refine bS_ ?_ GE426.out | refine bS_ ?_ GE427.out | refine bS_ ?_ GE445.out) | exact HB.out)⟩
       (try clear HO_4)
       (try clear HO_6)
       (try clear HO443)
       (try clear BK426)
       (try clear BK427)
       (try clear BK445)
       (try clear HB)
       generalize (w50.setCell ⟨gb445, 0, none⟩ (.slice Ao51 t441.length co51)) = w55 at n0_ n1_ n2_ n3_ n4_ n5_ n6_ ⊢
       have HO_4 := n0_
       have HO_6 := n1_
       have HO443 := n2_
       have BK426 := n3_
       have BK427 := n4_
       have BK445 := n5_
       have HB := n6_
       clear n0_ n1_ n2_ n3_ n4_ n5_ n6_
       have n0_ := aM_ (k3_ HO_4.out)
       have n1_ := aM_ (k3_ HO_6.out)
       have n2_ := aM_ (k3_ HO443.out)
       have n3_ := aM_ (b1_ BK426.out)
       have n4_ := aM_ (b1_ BK427.out)
       have n5_ := aM_ (b1_ BK445.out)
       have n6_ := aM_ (bD_ HB.out)
       clear HO_4
       clear HO_6
       clear HO443
       clear BK426
       clear BK427
       clear BK445
       clear HB
       have HO_4 := n0_
       have HO_6 := n1_
       have HO443 := n2_
       have BK426 := n3_
       have BK427 := n4_
       have BK445 := n5_
       have HB := n6_
       clear n0_ n1_ n2_ n3_ n4_ n5_ n6_
       refine start_ (n := 11) (S := fun w' => w'.cell? ⟨gb445, 0, none⟩ = some (.slice Ao51 t441.length co51) ∧ w'.cell? ⟨gb426, 0, none⟩ = some (.slice A0_0 l0_0.length c0_0)) (ds := []) #[fy, fy, fy, fy, fy, fy, fy, fy, fy, fy, fy] (by kernel_rfl) rfl rfl ⟨(bC_ BK445.out 0).trans rfl, (bC_ BK426.out 0).trans rfl⟩ (fun hHeld => ?_); refine with_tabW impl_Pressed_open.tab12 impl_Pressed_open.bits12 (fun HT_ HW_ => ?_)
       generalize w55.drew = w56 at HO_4 HO_6 HO443 BK426 BK427 BK445 HB hHeld ⊢
       refine pure_ (i := 0) (N := some 42) (v := ?_) (a' := ?_) #[ty, fy, fy, fy, fy, fy, fy, fy, fy, fy, fy] rfl rfl (aO_ HT_.out (by kernel_rfl)) (fun _ _ _ h => h) (Or.inl ⟨by rfl, ?_⟩) ?_ ?_; rotate_left; (intro w'; go_simp; with_reducible rfl); rotate_left; (simp only [Act.put, sA_, sB_, sC_, i6_, i3_]; rfl)
       refine pure_ (i := 1) (N := some 43) (v := ?_) (a' := ?_) #[ty, ty, fy, fy, fy, fy, fy, fy, fy, fy, fy] rfl rfl (aO_ HT_.out (by kernel_rfl)) (fun _ _ _ h => h) (Or.inl ⟨by rfl, ?_⟩) ?_ ?_; rotate_left; (intro w'; go_simp; with_reducible rfl); rotate_left; (simp only [Act.put, sA_, sB_, sC_, i6_, i3_]; rfl)
       refine pure_ (i := 2) (N := some 44) (v := ?_) (a' := ?_) #[ty, ty, ty, fy, fy, fy, fy, fy, fy, fy, fy] rfl rfl (aO_ HT_.out (by kernel_rfl)) (fun _ _ _ h => h) (Or.inl ⟨by rfl, ?_⟩) ?_ ?_; rotate_left; (intro w'; go_simp; with_reducible rfl); rotate_left; (simp only [Act.put, sA_, sB_, sC_, i6_, i3_]; rfl)
       refine pure_ (i := 6) (N := some 48) (v := ?_) (a' := ?_) #[ty, ty, ty, fy, fy, fy, ty, fy, fy, fy, fy] rfl rfl (aO_ HT_.out (by kernel_rfl)) (fun _ _ _ h => h) (Or.inl ⟨by rfl, ?_⟩) ?_ ?_; rotate_left; (intro w'; go_simp; with_reducible rfl); rotate_left; (simp only [Act.put, sA_, sB_, sC_, i6_, i3_]; rfl)
       refine take_ (i := 3) (N := some 45) (v := ?_) (a' := ?_) #[ty, ty, ty, ty, fy, fy, ty, fy, fy, fy, fy] rfl rfl (tW_ HT_.out HW_.out (by kernel_rfl)) (fun _ _ _ h => h) (Or.inl ⟨by rfl, ?_⟩) hHeld ?_ ?_; rotate_left; (rintro w' ⟨s0, s1⟩; go_simp; with_reducible rfl); rotate_left; (simp only [Act.put, sA_, sB_, sC_, i6_, i3_]; rfl)
       refine take_ (i := 7) (N := some 49) (v := ?_) (a' := ?_) #[ty, ty, ty, ty, fy, fy, ty, ty, fy, fy, fy] rfl rfl (tW_ HT_.out HW_.out (by kernel_rfl)) (fun _ _ _ h => h) (Or.inl ⟨by rfl, ?_⟩) hHeld ?_ ?_; rotate_left; (rintro w' ⟨s0, s1⟩; go_simp; with_reducible rfl); rotate_left; (simp only [Act.put, sA_, sB_, sC_, i6_, i3_]; rfl)
       refine one_ (i := 4) (N := some 46) #[ty, ty, ty, ty, ty, fy, ty, ty, fy, fy, fy] rfl rfl (one_of HT_.out (by kernel_rfl)) (by decide) (fun K hK => ?_)
       refine goes_ Tryz.func63 (by kernel_rfl) rfl #[.agg #[.slice Ao51 t441.length co51]] (by rfl) rfl rfl (by (try simp only [sD_, sE_, sF_]); rfl) ?_
       with_reducible refine (impl_Trie_press.calls k1 _ _ t441 t446 _ ?side1 ?side2 A31.out).mono ?_
       (case side1 => repeat (first | exact (kR_ HO443.out).2.2 | (with_reducible refine Kd.C_alloc ?_ _) | (with_reducible refine Kd.C_drewN ?_ _) | (with_reducible refine Kd.C_drew ?_)))
       (case side2 => exact (kR_ HO443.out).2.1)
       rintro e w57 ⟨v447, rfl, ho0, hb⟩
       refine ⟨_, rfl, ?_⟩
       have n0_ := aM_ (kB_ HO_4.out hb)
       have n1_ := aM_ (kB_ HO_6.out hb)
       have n2_ := aM_ (kB_ HO443.out hb)
       have n3_ := aM_ (k5_ ho0 (bZ_ HB.out))
       have n4_ := aM_ (bB_ BK426.out hb)
       have n5_ := aM_ (bB_ BK427.out hb)
       have n6_ := aM_ (bB_ BK445.out hb)
       have n7_ := aM_ (bT_ HB.out hb)
       clear HO_4
       clear HO_6
       clear HO443
       clear BK426
       clear BK427
       clear BK445
       clear HB
       have HO_4 := n0_
       have HO_6 := n1_
       have HO443 := n2_
       have HO448 := n3_
       have BK426 := n4_
       have BK427 := n5_
       have BK445 := n6_
       have HB := n7_
       clear n0_ n1_ n2_ n3_ n4_ n5_ n6_ n7_
       (try clear hb)
       (try clear ho0)
       obtain ⟨Ao58, co58, eo58⟩ := kS_ HO448.out
       (subst eo58)
       refine hK.out _ _ ⟨(bC_ BK445.out 0).trans rfl, (bC_ BK426.out 0).trans rfl⟩ (fun hHeld => ?_)
       clear hK K
       refine norm_ (a' := ?_) ?_ ?_; rotate_left; (show Act.put _ (some 46) _ = _; simp only [Act.put, sA_, sB_, sC_, i6_, i3_]; rfl)
       refine pure_ (i := 5) (N := some 47) (v := ?_) (a' := ?_) #[ty, ty, ty, ty, ty, ty, ty, ty, fy, fy, fy] rfl rfl (aO_ HT_.out (by kernel_rfl)) (fun _ _ _ h => h) (Or.inl ⟨by rfl, ?_⟩) ?_ ?_; rotate_left; (intro w'; go_simp; with_reducible rfl); rotate_left; (simp only [Act.put, sA_, sB_, sC_, i6_, i3_]; rfl)
       refine one_ (i := 8) (N := some 50) #[ty, ty, ty, ty, ty, ty, ty, ty, ty, fy, fy] rfl rfl (one_of HT_.out (by kernel_rfl)) (by decide) (fun K hK => ?_)
       refine goes_ Tryz.func62 (by kernel_rfl) rfl #[.slice Ao58 t446.length co58, .slice A0_0 l0_0.length c0_0] (by rfl) rfl rfl (by (try simp only [sD_, sE_, sF_]); rfl) ?_
       with_reducible refine (impl_Branch.calls k1 _ _ t446 _ _ l0_0 false _ ?side1 ?side2 ?side3 ?side4 A32.out).mono ?_
       (case side1 => repeat (first | exact (kR_ HO448.out).2.2 | (with_reducible refine Kd.C_alloc ?_ _) | (with_reducible refine Kd.C_drewN ?_ _) | (with_reducible refine Kd.C_drew ?_)))
       (case side2 => exact (kR_ HO448.out).2.1)
       (case side3 => repeat (first | exact (k4_ HR0_0.out HB.out) | (with_reducible refine Kd.C_alloc ?_ _) | (with_reducible refine Kd.C_drewN ?_ _) | (with_reducible refine Kd.C_drew ?_)))
       (case side4 => exact HC0_0.out)
       rintro e w' ⟨rfl, ⟨nd, rfl⟩⟩
       refine ⟨_, rfl, ?_⟩
       refine hK.out _ _ ⟨(bC_ BK445.out 0).trans rfl, (bC_ BK426.out 0).trans rfl⟩ (fun hHeld => ?_)
       clear hK K
       refine norm_ (a' := ?_) ?_ ?_; rotate_left; (show Act.put _ (some 50) _ = _; simp only [Act.put, sA_, sB_, sC_, i6_, i3_]; rfl)
       refine pure_ (i := 9) (N := some 51) (v := ?_) (a' := ?_) #[ty, ty, ty, ty, ty, ty, ty, ty, ty, ty, fy] rfl rfl (aO_ HT_.out (by kernel_rfl)) (fun _ _ _ h => h) (Or.inl ⟨by rfl, ?_⟩) ?_ ?_; rotate_left; (intro w'; go_simp; with_reducible rfl); rotate_left; (simp only [Act.put, sA_, sB_, sC_, i6_, i3_]; rfl)
       refine pure_ (i := 10) (N := some 52) (v := ?_) (a' := ?_) #[ty, ty, ty, ty, ty, ty, ty, ty, ty, ty, ty] rfl rfl (aO_ HT_.out (by kernel_rfl)) (fun _ _ _ h => h) (Or.inl ⟨by rfl, ?_⟩) ?_ ?_; rotate_left; (intro w'; go_simp; with_reducible rfl); rotate_left; (simp only [Act.put, sA_, sB_, sC_, i6_, i3_]; rfl)
       refine done_ (done_of HT_.out (by kernel_rfl)) ?_
       have hnb59 := NB427_426.out
       have hnc59 := NB426_427.out
       have hcz60_0 : w57.cell? ⟨gb427, 0, none⟩ = some (.slice none 0 0) := (bC_ BK427.out 0).trans rfl
       have hfz60_0 := bF_ BK427.out 0
       try go_wp2
       refine bodyPost_ret (results_ct rfl _ _ gb427 36 #[.slice none 0 0] (0, 0) _ rfl (by refine bP_ (cs := #[.slice none 0 0]) ?_ 0 _ rfl; (with_reducible repeat (first | refine b2_ ?_ _ | refine b1_ ?_ | refine b3_ ?_ _)); exact BK427.out) Tryz.underlying36 rfl (by kernel_rfl)) rfl ?_
       exact ⟨_, by rfl, by exact Kd.R_nil _ _ _ _ _, by repeat (first | (with_reducible first | exact HB.out | apply bA_ | apply bN_ | apply bD_ | refine bS_ ?_ GE426.out | refine bS_ ?_ GE427.out | refine bS_ ?_ GE445.out) | exact HB.out)⟩
     ·
      replace c30 := Bool.eq_false_iff.mpr c30
      subst c30
      have H1 : (some (([] : List (S76)), false)) = some (r1, r2) := by rw [if_neg (show ¬ (false = true) by decide)] at H; exact H
      clear H
      have H := H1
      clear H1
      simp only [Option.some.injEq, Prod.mk.injEq] at H
      obtain ⟨rfl, rfl⟩ := H
      obtain ⟨Ao61, co61, eo61⟩ := kS_ HO_6.out
      subst eo61
      try go_wp2_with (first | ((with_reducible refine gC_ (f := 61) rfl ?_); refine goesL_ (some 39) rfl rfl Tryz.func61 (by kernel_rfl) rfl #[.slice Ao61 x6_1.length co61] rfl (by (try simp only [sD_, sE_, sF_]); rfl) ?_; (with_reducible refine (impl_ofWords.calls k1 _ _ x6_1 t441 false _ ?side1 ?side2 A29.out).mono ?_); (case side1 => repeat (first | exact (kR_ HO_6.out).2.2 | (with_reducible refine Kd.C_alloc ?_ _) | (with_reducible refine Kd.C_drewN ?_ _) | (with_reducible refine Kd.C_drew ?_))); (case side2 => exact (kR_ HO_6.out).2.1); rintro e w62 ⟨v442, rfl, ho0, hb⟩; refine ⟨_, rfl, ?_⟩; replace HO_4 := aM_ (kB_ HO_4.out hb); replace HO_6 := aM_ (kB_ HO_6.out hb); have HO443 := aM_ (k5_ ho0 (bZ_ HB.out)); replace BK426 := aM_ (bB_ BK426.out hb); replace BK427 := aM_ (bB_ BK427.out hb); replace HB := aM_ (bT_ HB.out hb); (try clear hb); (try clear ho0)) | ((with_reducible refine gD_ (N := 9) rfl ?_); refine bE_ ?hg (N := 9) ?hd (cs := #[.slice none 0 0]) (t := 36) ?hr ?_; (case hd => rfl); (case hg => rfl); (case hr => (go_simp; done)); intro gb445 hg w63 hbox hb; replace HO_4 := aM_ (kB_ HO_4.out hb); replace HO_6 := aM_ (kB_ HO_6.out hb); replace HO443 := aM_ (kB_ HO443.out hb); have BK445 := aM_ (hbox); have GW445 := aM_ ((by rw [hg]; exact (bZ_ HB.out) : w.heap.size ≤ gb445)); have GE445 := GW445; replace HB := aM_ (bT_ HB.out hb); have NB426_445 := aM_ ((by rw [hg]; exact Nat.ne_of_lt (bL_ BK426.out) : gb426 ≠ gb445)); have NB445_426 := aM_ NB426_445.out.symm; replace BK426 := aM_ (bB_ BK426.out hb); have NB427_445 := aM_ ((by rw [hg]; exact Nat.ne_of_lt (bL_ BK427.out) : gb427 ≠ gb445)); have NB445_427 := aM_ NB427_445.out.symm; replace BK427 := aM_ (bB_ BK427.out hb); clear hb hbox hg; obtain ⟨Ao64, co64, eo64⟩ := kS_ HO443.out; subst eo64; have hnb65 := NB445_426.out; have hnc65 := NB426_445.out; have hnb66 := NB445_427.out; have hnc66 := NB427_445.out; have hcz67_0 : w63.cell? ⟨gb445, 0, none⟩ = some (.slice none 0 0) := (bC_ BK445.out 0).trans rfl; have hfz67_0 := bF_ BK445.out 0))
      have n0_ : Aside0 (Kd.R Kd.string 9 (w63.setCell ⟨gb445, 0, none⟩ (.slice Ao64 t441.length co64)) w.heap.size (fun k_ => some k_ ≠ (.slice Ao61 x6_1.length co61 : Value).ownBlock) v429 t428) := ⟨by exact kM_ (kF_ (p := ⟨gb445, 0, none⟩) (kT_ HO_4.out BK445.out (by decide)) (fun _ hk => hk.2) (.slice Ao64 t441.length co64)) (fun _ hk => hk.1)⟩
      have n1_ : Aside0 (Kd.R Kd.string 9 (w63.setCell ⟨gb445, 0, none⟩ (.slice Ao64 t441.length co64)) w.heap.size (fun k_ => some k_ ≠ (v429 : Value).ownBlock) (.slice Ao61 x6_1.length co61) x6_1) := ⟨by exact kM_ (kF_ (p := ⟨gb445, 0, none⟩) (kT_ HO_6.out BK445.out (by decide)) (fun _ hk => hk.2) (.slice Ao64 t441.length co64)) (fun _ hk => hk.1)⟩
      have n2_ : Aside0 (Kd.R k76 76 (w63.setCell ⟨gb445, 0, none⟩ (.slice Ao64 t441.length co64)) w.heap.size (fun _ => True) (.slice Ao64 t441.length co64) t441) := ⟨by exact kM_ (kF_ (p := ⟨gb445, 0, none⟩) (kT_ HO443.out BK445.out (by decide)) (fun _ hk => hk.2) (.slice Ao64 t441.length co64)) (fun _ hk => trivial)⟩
      have n3_ : Aside0 ((w63.setCell ⟨gb445, 0, none⟩ (.slice Ao64 t441.length co64)).heap[gb426]? = some (.cells #[.slice A0_0 l0_0.length c0_0] 30 (0, 0))) := ⟨by refine bR_ ?_ NB426_445.out _; exact BK426.out⟩
      have n4_ : Aside0 ((w63.setCell ⟨gb445, 0, none⟩ (.slice Ao64 t441.length co64)).heap[gb427]? = some (.cells #[.slice none 0 0] 36 (0, 0))) := ⟨by refine bR_ ?_ NB427_445.out _; exact BK427.out⟩
      have n5_ : Aside0 ((w63.setCell ⟨gb445, 0, none⟩ (.slice Ao64 t441.length co64)).heap[gb445]? = some (.cells #[.slice Ao64 t441.length co64] 36 (0, 0))) := ⟨by refine bP_ (cs := #[.slice none 0 0]) ?_ 0 _ rfl; exact BK445.out⟩
      have n6_ : Aside0 (Below w.heap.size w (w63.setCell ⟨gb445, 0, none⟩ (.slice Ao64 t441.length co64))) := ⟨by repeat (first | (with_reducible first | exact HB.out | apply bA_ | apply bN_ | apply bD_ | refine bS_ ?_ GE426.out | refine bS_ ?_ GE427.out | refine bS_ ?_ GE445.out) | exact HB.out)⟩
      (try clear HO_4)
      (try clear HO_6)
      (try clear HO443)
      (try clear BK426)
      (try clear BK427)
      (try clear BK445)
      (try clear HB)
      generalize (w63.setCell ⟨gb445, 0, none⟩ (.slice Ao64 t441.length co64)) = w68 at n0_ n1_ n2_ n3_ n4_ n5_ n6_ ⊢
      have HO_4 := n0_
      have HO_6 := n1_
      have HO443 := n2_
      have BK426 := n3_
      have BK427 := n4_
      have BK445 := n5_
      have HB := n6_
      clear n0_ n1_ n2_ n3_ n4_ n5_ n6_
      have n0_ := aM_ (k3_ HO_4.out)
      have n1_ := aM_ (k3_ HO_6.out)
      have n2_ := aM_ (k3_ HO443.out)
      have n3_ := aM_ (b1_ BK426.out)
      have n4_ := aM_ (b1_ BK427.out)
      have n5_ := aM_ (b1_ BK445.out)
      have n6_ := aM_ (bD_ HB.out)
      clear HO_4
      clear HO_6
      clear HO443
      clear BK426
      clear BK427
      clear BK445
      clear HB
      have HO_4 := n0_
      have HO_6 := n1_
      have HO443 := n2_
      have BK426 := n3_
      have BK427 := n4_
      have BK445 := n5_
      have HB := n6_
      clear n0_ n1_ n2_ n3_ n4_ n5_ n6_
      refine start_ (n := 11) (S := fun w' => True) (ds := []) #[fy, fy, fy, fy, fy, fy, fy, fy, fy, fy, fy] (by kernel_rfl) rfl rfl trivial (fun hHeld => ?_); refine with_tabW impl_Pressed_open.tab12 impl_Pressed_open.bits12 (fun HT_ HW_ => ?_)
      generalize w68.drew = w69 at HO_4 HO_6 HO443 BK426 BK427 BK445 HB hHeld ⊢
      refine pure_ (i := 0) (N := some 42) (v := ?_) (a' := ?_) #[ty, fy, fy, fy, fy, fy, fy, fy, fy, fy, fy] rfl rfl (aO_ HT_.out (by kernel_rfl)) (fun _ _ _ h => h) (Or.inl ⟨by rfl, ?_⟩) ?_ ?_; rotate_left; (intro w'; go_simp; with_reducible rfl); rotate_left; (simp only [Act.put, sA_, sB_, sC_, i6_, i3_]; rfl)
      refine pure_ (i := 1) (N := some 43) (v := ?_) (a' := ?_) #[ty, ty, fy, fy, fy, fy, fy, fy, fy, fy, fy] rfl rfl (aO_ HT_.out (by kernel_rfl)) (fun _ _ _ h => h) (Or.inl ⟨by rfl, ?_⟩) ?_ ?_; rotate_left; (intro w'; go_simp; with_reducible rfl); rotate_left; (simp only [Act.put, sA_, sB_, sC_, i6_, i3_]; rfl)
      refine pure_ (i := 2) (N := some 44) (v := ?_) (a' := ?_) #[ty, ty, ty, fy, fy, fy, fy, fy, fy, fy, fy] rfl rfl (aO_ HT_.out (by kernel_rfl)) (fun _ _ _ h => h) (Or.inl ⟨by rfl, ?_⟩) ?_ ?_; rotate_left; (intro w'; go_simp; with_reducible rfl); rotate_left; (simp only [Act.put, sA_, sB_, sC_, i6_, i3_]; rfl)
      refine pure_ (i := 3) (N := some 45) (v := undef) (a' := ?_) #[ty, ty, ty, ty, fy, fy, fy, fy, fy, fy, fy] rfl rfl (aO_ HT_.out (by kernel_rfl)) (fun _ _ _ h => h) (Or.inr ⟨by rfl, rfl⟩) ?_ ?_
      rotate_left
      ·
       simp only [Act.put, sA_, sB_, sC_, i6_, i3_]
       rfl
      refine pure_ (i := 4) (N := some 46) (v := undef) (a' := ?_) #[ty, ty, ty, ty, ty, fy, fy, fy, fy, fy, fy] rfl rfl (aO_ HT_.out (by kernel_rfl)) (fun _ _ _ h => h) (Or.inr ⟨by rfl, rfl⟩) ?_ ?_
      rotate_left
      ·
       simp only [Act.put, sA_, sB_, sC_, i6_, i3_]
       rfl
      refine pure_ (i := 5) (N := some 47) (v := undef) (a' := ?_) #[ty, ty, ty, ty, ty, ty, fy, fy, fy, fy, fy] rfl rfl (aO_ HT_.out (by kernel_rfl)) (fun _ _ _ h => h) (Or.inr ⟨by rfl, rfl⟩) ?_ ?_
      rotate_left
      ·
       simp only [Act.put, sA_, sB_, sC_, i6_, i3_]
       rfl
      refine pure_ (i := 6) (N := some 48) (v := undef) (a' := ?_) #[ty, ty, ty, ty, ty, ty, ty, fy, fy, fy, fy] rfl rfl (aO_ HT_.out (by kernel_rfl)) (fun _ _ _ h => h) (Or.inr ⟨by rfl, rfl⟩) ?_ ?_
      rotate_left
      ·
       simp only [Act.put, sA_, sB_, sC_, i6_, i3_]
       rfl
      refine pure_ (i := 7) (N := some 49) (v := undef) (a' := ?_) #[ty, ty, ty, ty, ty, ty, ty, ty, fy, fy, fy] rfl rfl (aO_ HT_.out (by kernel_rfl)) (fun _ _ _ h => h) (Or.inr ⟨by rfl, rfl⟩) ?_ ?_
      rotate_left
      ·
       simp only [Act.put, sA_, sB_, sC_, i6_, i3_]
       rfl
      refine pure_ (i := 8) (N := some 50) (v := undef) (a' := ?_) #[ty, ty, ty, ty, ty, ty, ty, ty, ty, fy, fy] rfl rfl (aO_ HT_.out (by kernel_rfl)) (fun _ _ _ h => h) (Or.inr ⟨by rfl, rfl⟩) ?_ ?_
      rotate_left
      ·
       simp only [Act.put, sA_, sB_, sC_, i6_, i3_]
       rfl
      refine pure_ (i := 9) (N := some 51) (v := undef) (a' := ?_) #[ty, ty, ty, ty, ty, ty, ty, ty, ty, ty, fy] rfl rfl (aO_ HT_.out (by kernel_rfl)) (fun _ _ _ h => h) (Or.inr ⟨by rfl, rfl⟩) ?_ ?_
      rotate_left
      ·
       simp only [Act.put, sA_, sB_, sC_, i6_, i3_]
       rfl
      refine pure_ (i := 10) (N := some 52) (v := ?_) (a' := ?_) #[ty, ty, ty, ty, ty, ty, ty, ty, ty, ty, ty] rfl rfl (aO_ HT_.out (by kernel_rfl)) (fun _ _ _ h => h) (Or.inl ⟨by rfl, ?_⟩) ?_ ?_; rotate_left; (intro w'; go_simp; with_reducible rfl); rotate_left; (simp only [Act.put, sA_, sB_, sC_, i6_, i3_]; rfl)
      refine done_ (done_of HT_.out (by kernel_rfl)) ?_
      have hnb70 := NB427_426.out
      have hnc70 := NB426_427.out
      have hcz71_0 : w69.cell? ⟨gb427, 0, none⟩ = some (.slice none 0 0) := (bC_ BK427.out 0).trans rfl
      have hfz71_0 := bF_ BK427.out 0
      try go_wp2
      refine bodyPost_ret (results_ct rfl _ _ gb427 36 #[.slice none 0 0] (0, 0) _ rfl (by refine bP_ (cs := #[.slice none 0 0]) ?_ 0 _ rfl; exact BK427.out) Tryz.underlying36 rfl (by kernel_rfl)) rfl ?_
      exact ⟨_, by rfl, by exact Kd.R_nil _ _ _ _ _, by repeat (first | (with_reducible first | exact HB.out | apply bA_ | apply bN_ | apply bD_ | refine bS_ ?_ GE426.out | refine bS_ ?_ GE427.out | refine bS_ ?_ GE445.out) | exact HB.out)⟩
 ·
  replace c3 := Bool.eq_false_iff.mpr c3
  subst c3
  have H1 : (some (([] : List (S76)), false)) = some (r1, r2) := by rw [if_neg (show ¬ (false = true) by decide)] at H; exact H
  clear H
  have H := H1
  clear H1
  simp only [Option.some.injEq, Prod.mk.injEq] at H
  obtain ⟨rfl, rfl⟩ := H
  go_enter Tryz.func33, Tryz.ntmps33
  go_wp2_with (first | ((with_reducible refine gD_ (N := 1) rfl ?_); refine bE_ ?hg (N := 1) ?hd (cs := #[.slice A0_0 l0_0.length c0_0]) (t := 30) ?hr ?_; (case hd => rfl); (case hg => rfl); (case hr => (go_simp; done)); intro gb426 hg w72 hbox hb; have BK426 := aM_ (hbox); have GW426 := aM_ ((by rw [hg]; exact (bZ_ HB.out) : w.heap.size ≤ gb426)); have GE426 := GW426; replace HB := aM_ (bT_ HB.out hb); clear hb hbox hg) | ((with_reducible refine gD_ (N := 2) rfl ?_); refine bE_ ?hg (N := 2) ?hd (cs := #[.slice none 0 0]) (t := 36) ?hr ?_; (case hd => rfl); (case hg => rfl); (case hr => (go_simp; done)); intro gb427 hg w73 hbox hb; have BK427 := aM_ (hbox); have GW427 := aM_ ((by rw [hg]; exact (bZ_ HB.out) : w.heap.size ≤ gb427)); have GE427 := GW427; replace HB := aM_ (bT_ HB.out hb); have NB426_427 := aM_ ((by rw [hg]; exact Nat.ne_of_lt (bL_ BK426.out) : gb426 ≠ gb427)); have NB427_426 := aM_ NB426_427.out.symm; replace BK426 := aM_ (bB_ BK426.out hb); clear hb hbox hg; have hnb74 := NB426_427.out; have hnc74 := NB427_426.out; have hcz75_0 : w73.cell? ⟨gb426, 0, none⟩ = some (.slice A0_0 l0_0.length c0_0) := (bC_ BK426.out 0).trans rfl; have hfz75_0 := bF_ BK426.out 0) | ((with_reducible refine gC_ (f := 36) rfl ?_); refine goesL_ (some 12) rfl rfl Tryz.func36 (by kernel_rfl) rfl #[.agg #[.slice A0_0 l0_0.length c0_0]] rfl (by (try simp only [sD_, sE_, sF_]); rfl) ?_; (with_reducible refine (impl_Pressed_prefixes.calls k _ _ l0_0 t428 false _ ?side1 ?side2 A2.out).mono ?_); (case side1 => repeat (first | exact (k4_ HR0_0.out HB.out) | (with_reducible refine Kd.C_alloc ?_ _) | (with_reducible refine Kd.C_drewN ?_ _) | (with_reducible refine Kd.C_drew ?_))); (case side2 => exact HC0_0.out); rintro e w76 ⟨v429, rfl, ho0, hb⟩; refine ⟨_, rfl, ?_⟩; have HO430 := aM_ (k5_ ho0 (bZ_ HB.out)); replace BK426 := aM_ (bB_ BK426.out hb); replace BK427 := aM_ (bB_ BK427.out hb); replace HB := aM_ (bT_ HB.out hb); (try clear hb); (try clear ho0); have hcz77_0 : w76.cell? ⟨gb427, 0, none⟩ = some (.slice none 0 0) := (bC_ BK427.out 0).trans rfl; have hfz77_0 := bF_ BK427.out 0))
  refine bodyPost_ret (results_ct rfl _ _ gb427 36 #[.slice none 0 0] (0, 0) _ rfl (by refine bP_ (cs := #[.slice none 0 0]) ?_ 0 _ rfl; exact BK427.out) Tryz.underlying36 rfl (by kernel_rfl)) rfl ?_
  exact ⟨_, by rfl, by exact Kd.R_nil _ _ _ _ _, by repeat (first | (with_reducible first | exact HB.out | apply bA_ | apply bN_ | apply bD_ | refine bS_ ?_ GE426.out | refine bS_ ?_ GE427.out) | exact HB.out)⟩
def laws_eqBranch.f (a0_0 : ByteArray) (a0_1 : Int) (a0_2 : Bool) (a1_0 : ByteArray) (a1_1 : Int) (a1_2 : Bool) : Option (Bool) := if a0_0.toList = a1_0.toList then (if a0_1 = a1_1 then (if (a0_2 != a1_2) = true then (some false) else (some true)) else (some false)) else (some false)
theorem laws_eqBranch.calls (a0_0 : ByteArray) (a0_1 : Int) (a0_2 : Bool) (a1_0 : ByteArray) (a1_1 : Int) (a1_2 : Bool) (r : Bool) (w : World) (h : laws_eqBranch.f a0_0 a0_1 a0_2 a1_0 a1_1 a1_2 = some r) :
  Calls Tryz.prog 68 #[.agg #[.string a0_0, .int .i64 a0_1, .bool a0_2], .agg #[.string a1_0, .int .i64 a1_1, .bool a1_2]] w fun e w' => e = .returned (.bool r) ∧ Below w.heap.size w w' := by
 have hu60 := Tryz.underlying60
 have HB := aM_ (Below.refl w.heap.size w)
 have H : (if a0_0.toList = a1_0.toList then (if a0_1 = a1_1 then (if (a0_2 != a1_2) = true then (some false) else (some true)) else (some false)) else (some false)) = some r := h
 clear h
 by_cases c3 : a0_0.toList = a1_0.toList
 ·
  rw [if_pos c3] at H
  have c3b0 : (a0_0.toList == a1_0.toList) = true := beq_iff_eq.mpr c3
  have c3b1 : (a0_0.toList != a1_0.toList) = false := bne_eq_false_iff_eq.mpr c3
  clear c3
  by_cases c4 : a0_1 = a1_1
  ·
   rw [if_pos c4] at H
   have c4b0 : (a0_1 == a1_1) = true := beq_iff_eq.mpr c4
   have c4b1 : (a0_1 != a1_1) = false := bne_eq_false_iff_eq.mpr c4
   clear c4
   by_cases c5 : (a0_2 != a1_2) = true
   ·
    rw [if_pos c5] at H
    have c5b0 : (a0_2 != a1_2) = true := c5
    (try (have c5b1 : decide (a0_2 = a1_2) = false := by simpa using c5))
    (try (have c5b2 : (a0_2 == a1_2) = false := by simpa using c5))
    (try (have c5b3 : ¬ (a0_2 = a1_2) := by simpa using c5))
    clear c5
    obtain rfl := Option.some.inj H
    go_enter Tryz.func68, Tryz.ntmps68
    go_wp2_with (first | ((with_reducible refine gD_ (N := 2) rfl ?_); refine bE_ ?hg (N := 2) ?hd (cs := #[.string a0_0, .int .i64 a0_1, .bool a0_2]) (t := 60) ?hr ?_; (case hd => rfl); (case hg => rfl); (case hr => (go_simp; done)); intro gb485 hg w6 hbox hb; have BK485 := aM_ (hbox); have GW485 := aM_ ((by rw [hg]; exact (bZ_ HB.out) : w.heap.size ≤ gb485)); have GE485 := GW485; replace HB := aM_ (bT_ HB.out hb); clear hb hbox hg) | ((with_reducible refine gD_ (N := 3) rfl ?_); refine bE_ ?hg (N := 3) ?hd (cs := #[.string a1_0, .int .i64 a1_1, .bool a1_2]) (t := 60) ?hr ?_; (case hd => rfl); (case hg => rfl); (case hr => (go_simp; done)); intro gb486 hg w7 hbox hb; have BK486 := aM_ (hbox); have GW486 := aM_ ((by rw [hg]; exact (bZ_ HB.out) : w.heap.size ≤ gb486)); have GE486 := GW486; replace HB := aM_ (bT_ HB.out hb); have NB485_486 := aM_ ((by rw [hg]; exact Nat.ne_of_lt (bL_ BK485.out) : gb485 ≠ gb486)); have NB486_485 := aM_ NB485_486.out.symm; replace BK485 := aM_ (bB_ BK485.out hb); clear hb hbox hg; have hnb8 := NB485_486.out; have hnc8 := NB486_485.out; have hcz9_0 : w7.cell? ⟨gb485, 0, none⟩ = some (.string a0_0) := (bC_ BK485.out 0).trans rfl; have hcz9_1 : w7.cell? ⟨gb485, 1, none⟩ = some (.int .i64 a0_1) := (bC_ BK485.out 1).trans rfl; have hcz9_2 : w7.cell? ⟨gb485, 2, none⟩ = some (.bool a0_2) := (bC_ BK485.out 2).trans rfl; have hfz9_0 := bF_ BK485.out 0; have hfz9_1 := bF_ BK485.out 1; have hfz9_2 := bF_ BK485.out 2; have hcz10_0 : w7.cell? ⟨gb486, 0, none⟩ = some (.string a1_0) := (bC_ BK486.out 0).trans rfl; have hcz10_1 : w7.cell? ⟨gb486, 1, none⟩ = some (.int .i64 a1_1) := (bC_ BK486.out 1).trans rfl; have hcz10_2 : w7.cell? ⟨gb486, 2, none⟩ = some (.bool a1_2) := (bC_ BK486.out 2).trans rfl; have hfz10_0 := bF_ BK486.out 0; have hfz10_1 := bF_ BK486.out 1; have hfz10_2 := bF_ BK486.out 2))
    go_ret
    exact ⟨by rfl, by exact HB.out⟩
   ·
    rw [if_neg c5] at H
    have c5b0 : (a0_2 != a1_2) = false := by simpa using c5
    (try (have c5b1 : decide (a0_2 = a1_2) = true := by simpa using c5))
    (try (have c5b2 : (a0_2 == a1_2) = true := by simpa using c5))
    clear c5
    obtain rfl := Option.some.inj H
    go_enter Tryz.func68, Tryz.ntmps68
    go_wp2_with (first | ((with_reducible refine gD_ (N := 2) rfl ?_); refine bE_ ?hg (N := 2) ?hd (cs := #[.string a0_0, .int .i64 a0_1, .bool a0_2]) (t := 60) ?hr ?_; (case hd => rfl); (case hg => rfl); (case hr => (go_simp; done)); intro gb485 hg w11 hbox hb; have BK485 := aM_ (hbox); have GW485 := aM_ ((by rw [hg]; exact (bZ_ HB.out) : w.heap.size ≤ gb485)); have GE485 := GW485; replace HB := aM_ (bT_ HB.out hb); clear hb hbox hg) | ((with_reducible refine gD_ (N := 3) rfl ?_); refine bE_ ?hg (N := 3) ?hd (cs := #[.string a1_0, .int .i64 a1_1, .bool a1_2]) (t := 60) ?hr ?_; (case hd => rfl); (case hg => rfl); (case hr => (go_simp; done)); intro gb486 hg w12 hbox hb; have BK486 := aM_ (hbox); have GW486 := aM_ ((by rw [hg]; exact (bZ_ HB.out) : w.heap.size ≤ gb486)); have GE486 := GW486; replace HB := aM_ (bT_ HB.out hb); have NB485_486 := aM_ ((by rw [hg]; exact Nat.ne_of_lt (bL_ BK485.out) : gb485 ≠ gb486)); have NB486_485 := aM_ NB485_486.out.symm; replace BK485 := aM_ (bB_ BK485.out hb); clear hb hbox hg; have hnb13 := NB485_486.out; have hnc13 := NB486_485.out; have hcz14_0 : w12.cell? ⟨gb485, 0, none⟩ = some (.string a0_0) := (bC_ BK485.out 0).trans rfl; have hcz14_1 : w12.cell? ⟨gb485, 1, none⟩ = some (.int .i64 a0_1) := (bC_ BK485.out 1).trans rfl; have hcz14_2 : w12.cell? ⟨gb485, 2, none⟩ = some (.bool a0_2) := (bC_ BK485.out 2).trans rfl; have hfz14_0 := bF_ BK485.out 0; have hfz14_1 := bF_ BK485.out 1; have hfz14_2 := bF_ BK485.out 2; have hcz15_0 : w12.cell? ⟨gb486, 0, none⟩ = some (.string a1_0) := (bC_ BK486.out 0).trans rfl; have hcz15_1 : w12.cell? ⟨gb486, 1, none⟩ = some (.int .i64 a1_1) := (bC_ BK486.out 1).trans rfl; have hcz15_2 : w12.cell? ⟨gb486, 2, none⟩ = some (.bool a1_2) := (bC_ BK486.out 2).trans rfl; have hfz15_0 := bF_ BK486.out 0; have hfz15_1 := bF_ BK486.out 1; have hfz15_2 := bF_ BK486.out 2))
    go_ret
    exact ⟨by rfl, by exact HB.out⟩
  ·
   rw [if_neg c4] at H
   have c4b0 : (a0_1 == a1_1) = false := beq_eq_false_iff_ne.mpr c4
   have c4b1 : (a0_1 != a1_1) = true := bne_iff_ne.mpr c4
   obtain rfl := Option.some.inj H
   go_enter Tryz.func68, Tryz.ntmps68
   go_wp2_with (first | ((with_reducible refine gD_ (N := 2) rfl ?_); refine bE_ ?hg (N := 2) ?hd (cs := #[.string a0_0, .int .i64 a0_1, .bool a0_2]) (t := 60) ?hr ?_; (case hd => rfl); (case hg => rfl); (case hr => (go_simp; done)); intro gb485 hg w16 hbox hb; have BK485 := aM_ (hbox); have GW485 := aM_ ((by rw [hg]; exact (bZ_ HB.out) : w.heap.size ≤ gb485)); have GE485 := GW485; replace HB := aM_ (bT_ HB.out hb); clear hb hbox hg) | ((with_reducible refine gD_ (N := 3) rfl ?_); refine bE_ ?hg (N := 3) ?hd (cs := #[.string a1_0, .int .i64 a1_1, .bool a1_2]) (t := 60) ?hr ?_; (case hd => rfl); (case hg => rfl); (case hr => (go_simp; done)); intro gb486 hg w17 hbox hb; have BK486 := aM_ (hbox); have GW486 := aM_ ((by rw [hg]; exact (bZ_ HB.out) : w.heap.size ≤ gb486)); have GE486 := GW486; replace HB := aM_ (bT_ HB.out hb); have NB485_486 := aM_ ((by rw [hg]; exact Nat.ne_of_lt (bL_ BK485.out) : gb485 ≠ gb486)); have NB486_485 := aM_ NB485_486.out.symm; replace BK485 := aM_ (bB_ BK485.out hb); clear hb hbox hg; have hnb18 := NB485_486.out; have hnc18 := NB486_485.out; have hcz19_0 : w17.cell? ⟨gb485, 0, none⟩ = some (.string a0_0) := (bC_ BK485.out 0).trans rfl; have hcz19_1 : w17.cell? ⟨gb485, 1, none⟩ = some (.int .i64 a0_1) := (bC_ BK485.out 1).trans rfl; have hcz19_2 : w17.cell? ⟨gb485, 2, none⟩ = some (.bool a0_2) := (bC_ BK485.out 2).trans rfl; have hfz19_0 := bF_ BK485.out 0; have hfz19_1 := bF_ BK485.out 1; have hfz19_2 := bF_ BK485.out 2; have hcz20_0 : w17.cell? ⟨gb486, 0, none⟩ = some (.string a1_0) := (bC_ BK486.out 0).trans rfl; have hcz20_1 : w17.cell? ⟨gb486, 1, none⟩ = some (.int .i64 a1_1) := (bC_ BK486.out 1).trans rfl; have hcz20_2 : w17.cell? ⟨gb486, 2, none⟩ = some (.bool a1_2) := (bC_ BK486.out 2).trans rfl; have hfz20_0 := bF_ BK486.out 0; have hfz20_1 := bF_ BK486.out 1; have hfz20_2 := bF_ BK486.out 2))
   go_ret
   exact ⟨by rfl, by exact HB.out⟩
 ·
  rw [if_neg c3] at H
  have c3b0 : (a0_0.toList == a1_0.toList) = false := beq_eq_false_iff_ne.mpr c3
  have c3b1 : (a0_0.toList != a1_0.toList) = true := bne_iff_ne.mpr c3
  obtain rfl := Option.some.inj H
  go_enter Tryz.func68, Tryz.ntmps68
  go_wp2_with (first | ((with_reducible refine gD_ (N := 2) rfl ?_); refine bE_ ?hg (N := 2) ?hd (cs := #[.string a0_0, .int .i64 a0_1, .bool a0_2]) (t := 60) ?hr ?_; (case hd => rfl); (case hg => rfl); (case hr => (go_simp; done)); intro gb485 hg w21 hbox hb; have BK485 := aM_ (hbox); have GW485 := aM_ ((by rw [hg]; exact (bZ_ HB.out) : w.heap.size ≤ gb485)); have GE485 := GW485; replace HB := aM_ (bT_ HB.out hb); clear hb hbox hg) | ((with_reducible refine gD_ (N := 3) rfl ?_); refine bE_ ?hg (N := 3) ?hd (cs := #[.string a1_0, .int .i64 a1_1, .bool a1_2]) (t := 60) ?hr ?_; (case hd => rfl); (case hg => rfl); (case hr => (go_simp; done)); intro gb486 hg w22 hbox hb; have BK486 := aM_ (hbox); have GW486 := aM_ ((by rw [hg]; exact (bZ_ HB.out) : w.heap.size ≤ gb486)); have GE486 := GW486; replace HB := aM_ (bT_ HB.out hb); have NB485_486 := aM_ ((by rw [hg]; exact Nat.ne_of_lt (bL_ BK485.out) : gb485 ≠ gb486)); have NB486_485 := aM_ NB485_486.out.symm; replace BK485 := aM_ (bB_ BK485.out hb); clear hb hbox hg; have hnb23 := NB485_486.out; have hnc23 := NB486_485.out; have hcz24_0 : w22.cell? ⟨gb485, 0, none⟩ = some (.string a0_0) := (bC_ BK485.out 0).trans rfl; have hcz24_1 : w22.cell? ⟨gb485, 1, none⟩ = some (.int .i64 a0_1) := (bC_ BK485.out 1).trans rfl; have hcz24_2 : w22.cell? ⟨gb485, 2, none⟩ = some (.bool a0_2) := (bC_ BK485.out 2).trans rfl; have hfz24_0 := bF_ BK485.out 0; have hfz24_1 := bF_ BK485.out 1; have hfz24_2 := bF_ BK485.out 2; have hcz25_0 : w22.cell? ⟨gb486, 0, none⟩ = some (.string a1_0) := (bC_ BK486.out 0).trans rfl; have hcz25_1 : w22.cell? ⟨gb486, 1, none⟩ = some (.int .i64 a1_1) := (bC_ BK486.out 1).trans rfl; have hcz25_2 : w22.cell? ⟨gb486, 2, none⟩ = some (.bool a1_2) := (bC_ BK486.out 2).trans rfl; have hfz25_0 := bF_ BK486.out 0; have hfz25_1 := bF_ BK486.out 1; have hfz25_2 := bF_ BK486.out 2))
  go_ret
  exact ⟨by rfl, by exact HB.out⟩
end Go.Proofs.YtfhffcefpnkllaaGreatDoor.P
