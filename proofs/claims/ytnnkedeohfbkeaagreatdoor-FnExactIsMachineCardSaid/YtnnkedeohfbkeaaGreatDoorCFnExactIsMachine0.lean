/-
  Part 1 of the proof that FnExactIsMachine returns true for every input: the functions that it reaches, each with its contract, and the law.
  Conditions: those of the given statement, no others.
-/
import Derived.Test.YtnnkedeohfbkeaaGreatDoorKMW0
import Derived.Test.YtnnkedeohfbkeaaGreatDoorRows
import Derived.WalkKit
import Derived.ProofKit
import Derived.OpenShut
import Derived.ShutString
import Derived.ChangeOld
import Derived.Below
import Derived.SizedLaws
import Derived.Lay
import Derived.LaidOnce
import Derived.SevenTiedAt
import Derived.Test.YtnnkedeohfbkeaaGreatDoorCards
import Derived.Test.YtnnkedeohfbkeaaGreatDoorTie
import Derived.Test.YtnnkedeohfbkeaaGreatDoorKM0
import Derived.Test.YtnnkedeohfbkeaaGreatDoorKM2
import Derived.Test.YtnnkedeohfbkeaaGreatDoorKM3
import Derived.Test.YtnnkedeohfbkeaaGreatDoorKM4
set_option linter.unusedVariables false
set_option linter.unusedSimpArgs false
set_option maxHeartbeats 8000000
set_option maxRecDepth 100000
namespace Go.Proofs.YtnnkedeohfbkeaaGreatDoor.P
open Go.RowKit Go.Proofs.YtnnkedeohfbkeaaGreatDoorW.PrintWords Go.Proofs.YtnnkedeohfbkeaaGreatDoorW.PrintLast Go.Proofs.YtnnkedeohfbkeaaGreatDoorW.PrintMore
open Go.Proofs.YtnnkedeohfbkeaaGreatDoorW.PrintWords renaming blk_frozen → bF_, blk_cell → bC_, below_set → bS_, blk_below → bB_, below_step → bT_, pw_below_drewN → bN_, below_size → bZ_, below_drew1 → bD_, below_alloc → bA_, blk_far → bR_, gate_callee → gC_, gate_dst → gD_, box_event → bE_, blk_drew → b1_, blk_put → bP_, blk_drewN → b2_, blk_alloc → b3_, blk_lt → bL_, cell_far → cF_
open Go.Proofs.YtnnkedeohfbkeaaGreatDoorW.PrintLast renaming any_of → aO_, i64_w → i6_, i32_w → i3_, take_ofW → tW_
open Go.Proofs.YtnnkedeohfbkeaaGreatDoorW.PrintWords.Kd renaming R_below → kB_, R_mono → kM_, R_far → kF_, R_reads' → kR_, R_types → kT_, R_slice → kS_, R_celln → kC_, R_alloc → k1_, R_drewN → k2_, R_drew → k3_, C_below → k4_, R_lower → k5_, R_ne → k6_, own_blk → k7_
open Go.Proofs.YtnnkedeohfbkeaaGreatDoorW.PrintWords.LeO renaming none → l0_, bind → l1_, ite → l2_, refl → l3_
open World renaming block_lt_of_cell? → wB_
open _root_.Option renaming bind_eq_some_iff → oB_
open _root_.ByteArray renaming empty → eB_
open List renaming setIfInBounds_toArray → sA_, set_cons_zero → sB_, set_cons_succ → sC_, map_toArray → sD_, map_cons → sE_, map_nil → sF_, length_drop → sG_, length_take → sH_
open Bool renaming true → ty, false → fy
open Aside0 renaming mk → aM_
attribute [local go_sem] max2_int min2_int max_two min_two max_three min_three max_four min_four
def impl_IsMachine.f (k : Nat) (l0_0 : List (S72)) : Option (Bool) := (impl_Machine_open.f k l0_0).bind fun bt544 => (some bt544.2)
theorem impl_IsMachine.mono : ∀ a0 k, LeO (impl_IsMachine.f k a0) (impl_IsMachine.f (k + 1) a0) := by
 intro a0 k
 unfold impl_IsMachine.f
 repeat' with_reducible first | exact impl_Machine_open.mono _ _ | exact l3_ _ | exact l0_ _ | refine l2_ ?_ ?_ | refine l1_ ?_ (fun _ => ?_)
theorem impl_IsMachine.calls (k : Nat) (A0_0 : Option Addr) (c0_0 : Nat) (l0_0 : List (S72)) (r : Bool) (w : World) (hr0_0 : Kd.C k72 w A0_0 l0_0.length l0_0) (hc0_0 : l0_0.length ≤ c0_0) (h : impl_IsMachine.f k l0_0 = some r) :
  Calls Tryz.prog 23 #[.agg #[.slice A0_0 l0_0.length c0_0]] w fun e w' => e = .returned (.bool r) ∧ Below w.heap.size w w' := by
 have hu33 := Tryz.underlying33
 have hu28 := Tryz.underlying28
 have HR0_0 := aM_ hr0_0
 have HC0_0 := aM_ hc0_0
 clear hr0_0 hc0_0
 have HB := aM_ (Below.refl w.heap.size w)
 have H : ((impl_Machine_open.f k l0_0).bind fun bt544 => (some bt544.2)) = some r := h
 clear h
 replace H := oB_.mp H
 obtain ⟨⟨t544, t547⟩, A20, H⟩ := H
 try dsimp only at H
 have A2 := aM_ A20
 clear A20
 obtain rfl := Option.some.inj H
 go_enter Tryz.func23, Tryz.ntmps23
 go_wp2_with (first | (refine bx_ 1 #[.slice A0_0 l0_0.length c0_0] 33 ?_; intro gb543 hg w3 hbox hb; have BK543 := aM_ (hbox); have GW543 := gw_ hg HB; replace HB := b4_ HB hb; clear hb hbox hg; have hcz4_0 := c0_ BK543; have hfz4_0 := bF_ BK543.out 0) | (refine gs_ 7 Tryz.func51 #[.agg #[.slice A0_0 l0_0.length c0_0]] ?_; (with_reducible refine (impl_Machine_open.calls k _ _ l0_0 t544 t547 _ ?side1 HC0_0.out A2.out).mono ?_); (case side1 => repeat (first | exact (k4_ HR0_0.out HB.out) | with_reducible first | apply cA_ | apply cN_ | apply cD_)); rintro e w5 ⟨v545, rfl, ho0, hb⟩; refine ⟨_, rfl, ?_⟩; have HO546 := aM_ (k5_ ho0 (bZ_ HB.out)); replace BK543 := b5_ BK543 hb; replace HB := b4_ HB hb; (try clear hb); (try clear ho0)) | (refine bx_ 3 #[.slice none 0 0] 28 ?_; intro gb548 hg w6 hbox hb; replace HO546 := k9_ HO546 hb; have BK548 := aM_ (hbox); have GW548 := gw_ hg HB; replace HB := b4_ HB hb; have NB543_548 := nb_ hg BK543; have NB548_543 := ns_ NB543_548; replace BK543 := b5_ BK543 hb; clear hb hbox hg; obtain ⟨Ao7, co7, eo7⟩ := kS_ HO546.out; subst eo7; have hnb8 := NB548_543.out; have hnc8 := NB543_548.out; have hcz9_0 := c0_ BK548; have hfz9_0 := bF_ BK548.out 0))
 go_ret
 exact ⟨by rfl, by repeat with_reducible first | exact HB.out | apply bA_ | apply bN_ | apply bD_ | refine bS_ ?_ (Aside0.out ‹_›)⟩
def spec_IsMachine.f (k : Nat) (l0_0 : List (S72)) : Option (Bool) := (spec_l7Valid.f k l0_0).bind fun t542 => (some t542)
theorem spec_IsMachine.mono : ∀ a0 k, LeO (spec_IsMachine.f k a0) (spec_IsMachine.f (k + 1) a0) := by
 intro a0 k
 unfold spec_IsMachine.f
 repeat' with_reducible first | exact spec_l7Valid.mono _ _ | exact l3_ _ | exact l0_ _ | refine l2_ ?_ ?_ | refine l1_ ?_ (fun _ => ?_)
theorem spec_IsMachine.calls (k : Nat) (A0_0 : Option Addr) (c0_0 : Nat) (l0_0 : List (S72)) (r : Bool) (w : World) (hr0_0 : Kd.C k72 w A0_0 l0_0.length l0_0) (hc0_0 : l0_0.length ≤ c0_0) (h : spec_IsMachine.f k l0_0 = some r) :
  Calls Tryz.prog 22 #[.agg #[.slice A0_0 l0_0.length c0_0]] w fun e w' => e = .returned (.bool r) ∧ Below w.heap.size w w' := by
 have hu33 := Tryz.underlying33
 have HR0_0 := aM_ hr0_0
 have HC0_0 := aM_ hc0_0
 clear hr0_0 hc0_0
 have HB := aM_ (Below.refl w.heap.size w)
 have H : ((spec_l7Valid.f k l0_0).bind fun t542 => (some t542)) = some r := h
 clear h
 replace H := oB_.mp H
 obtain ⟨t542, A20, H⟩ := H
 try dsimp only at H
 have A2 := aM_ A20
 clear A20
 obtain rfl := Option.some.inj H
 go_enter Tryz.func22, Tryz.ntmps22
 go_wp2_with (first | (refine bx_ 1 #[.slice A0_0 l0_0.length c0_0] 33 ?_; intro gb541 hg w3 hbox hb; have BK541 := aM_ (hbox); have GW541 := gw_ hg HB; replace HB := b4_ HB hb; clear hb hbox hg; have hcz4_0 := c0_ BK541; have hfz4_0 := bF_ BK541.out 0) | (refine gs_ 4 Tryz.func47 #[.agg #[.slice A0_0 l0_0.length c0_0]] ?_; (with_reducible refine (spec_l7Valid.calls k _ _ l0_0 t542 _ ?side1 HC0_0.out A2.out).mono ?_); (case side1 => repeat (first | exact (k4_ HR0_0.out HB.out) | with_reducible first | apply cA_ | apply cN_ | apply cD_)); rintro e w5 ⟨rfl, hb⟩; refine ⟨_, rfl, ?_⟩; replace BK541 := b5_ BK541 hb; replace HB := b4_ HB hb; (try clear hb)))
 go_ret
 exact ⟨by rfl, by exact HB.out⟩
def laws_FnExactIsMachine.f (k : Nat) (l0_0 : List (S90)) : Option (Bool) := (laws_szMachine.f k l0_0 1048576).bind fun t550 => (if t550 < 0 then (some true) else ((laws_toMachine.f k l0_0).bind fun t551 => ((spec_IsMachine.f k t551).bind fun t554 => ((laws_toMachine.f k l0_0).bind fun t555 => ((impl_IsMachine.f k t555).bind fun t559 => (if (t559 != t554) = true then (some false) else ((laws_toMachine.f k l0_0).bind fun t560 => ((laws_eqMachine.f k t555 t560).bind fun t563 => (if t563 = true then (some true) else (some false))))))))))
theorem laws_FnExactIsMachine.mono : ∀ a0 k, LeO (laws_FnExactIsMachine.f k a0) (laws_FnExactIsMachine.f (k + 1) a0) := by
 intro a0 k
 unfold laws_FnExactIsMachine.f
 repeat' with_reducible first | exact impl_IsMachine.mono _ _ | exact laws_eqMachine.mono _ _ _ | exact laws_szMachine.mono _ _ _ | exact laws_toMachine.mono _ _ | exact spec_IsMachine.mono _ _ | exact l3_ _ | exact l0_ _ | refine l2_ ?_ ?_ | refine l1_ ?_ (fun _ => ?_)
theorem laws_FnExactIsMachine.calls (k : Nat) (A0_0 : Option Addr) (c0_0 : Nat) (l0_0 : List (S90)) (r : Bool) (w : World) (hr0_0 : Kd.C k90 w A0_0 l0_0.length l0_0) (hc0_0 : l0_0.length ≤ c0_0) (h : laws_FnExactIsMachine.f k l0_0 = some r) :
  Calls Tryz.prog 4 #[.agg #[.slice A0_0 l0_0.length c0_0]] w fun e w' => e = .returned (.bool r) ∧ Below w.heap.size w w' := by
 have hu24 := Tryz.underlying24
 have hu33 := Tryz.underlying33
 have HR0_0 := aM_ hr0_0
 have HC0_0 := aM_ hc0_0
 clear hr0_0 hc0_0
 have HB := aM_ (Below.refl w.heap.size w)
 have H : ((laws_szMachine.f k l0_0 1048576).bind fun t550 => (if t550 < 0 then (some true) else ((laws_toMachine.f k l0_0).bind fun t551 => ((spec_IsMachine.f k t551).bind fun t554 => ((laws_toMachine.f k l0_0).bind fun t555 => ((impl_IsMachine.f k t555).bind fun t559 => (if (t559 != t554) = true then (some false) else ((laws_toMachine.f k l0_0).bind fun t560 => ((laws_eqMachine.f k t555 t560).bind fun t563 => (if t563 = true then (some true) else (some false))))))))))) = some r := h
 clear h
 replace H := oB_.mp H
 obtain ⟨t550, A20, H⟩ := H
 try dsimp only at H
 have A2 := aM_ A20
 clear A20
 by_cases c3 : t550 < 0
 ·
  rw [if_pos c3] at H
  have c3b0 := dT_ c3
  clear c3
  obtain rfl := Option.some.inj H
  go_enter Tryz.func4, Tryz.ntmps4
  go_wp2_with (first | (refine bx_ 1 #[.slice A0_0 l0_0.length c0_0] 24 ?_; intro gb549 hg w4 hbox hb; have BK549 := aM_ (hbox); have GW549 := gw_ hg HB; replace HB := b4_ HB hb; clear hb hbox hg; have hcz5_0 := c0_ BK549; have hfz5_0 := bF_ BK549.out 0) | (refine gs_ 9 Tryz.func13 #[.agg #[.slice A0_0 l0_0.length c0_0], .int .i64 1048576] ?_; (with_reducible refine (laws_szMachine.calls k _ _ l0_0 1048576 t550 _ ?side1 HC0_0.out A2.out).mono ?_); (case side1 => repeat (first | exact (k4_ HR0_0.out HB.out) | with_reducible first | apply cA_ | apply cN_ | apply cD_)); rintro e w6 ⟨rfl, hb⟩; refine ⟨_, rfl, ?_⟩; replace BK549 := b5_ BK549 hb; replace HB := b4_ HB hb; (try clear hb)))
  go_ret
  exact ⟨by rfl, by exact HB.out⟩
 rw [if_neg c3] at H
 have c3b0 := dF_ c3
 clear c3
 replace H := oB_.mp H
 obtain ⟨t551, A70, H⟩ := H
 try dsimp only at H
 have A7 := aM_ A70
 clear A70
 replace H := oB_.mp H
 obtain ⟨t554, A80, H⟩ := H
 try dsimp only at H
 have A8 := aM_ A80
 clear A80
 replace H := oB_.mp H
 obtain ⟨t555, A90, H⟩ := H
 try dsimp only at H
 have A9 := aM_ A90
 clear A90
 replace H := oB_.mp H
 obtain ⟨t559, A100, H⟩ := H
 try dsimp only at H
 have A10 := aM_ A100
 clear A100
 by_cases c11 : (t559 != t554) = true
 ·
  rw [if_pos c11] at H
  have c11b0 : (t559 != t554) = true := c11
  (try (have c11b1 : decide (t559 = t554) = false := by simpa using c11))
  (try (have c11b2 : (t559 == t554) = false := by simpa using c11))
  (try (have c11b3 : ¬ (t559 = t554) := by simpa using c11))
  clear c11
  obtain rfl := Option.some.inj H
  go_enter Tryz.func4, Tryz.ntmps4
  go_wp2_with (first | (refine bx_ 1 #[.slice A0_0 l0_0.length c0_0] 24 ?_; intro gb549 hg w12 hbox hb; have BK549 := aM_ (hbox); have GW549 := gw_ hg HB; replace HB := b4_ HB hb; clear hb hbox hg; have hcz13_0 := c0_ BK549; have hfz13_0 := bF_ BK549.out 0) | (refine gs_ 9 Tryz.func13 #[.agg #[.slice A0_0 l0_0.length c0_0], .int .i64 1048576] ?_; (with_reducible refine (laws_szMachine.calls k _ _ l0_0 1048576 t550 _ ?side1 HC0_0.out A2.out).mono ?_); (case side1 => repeat (first | exact (k4_ HR0_0.out HB.out) | with_reducible first | apply cA_ | apply cN_ | apply cD_)); rintro e w14 ⟨rfl, hb⟩; refine ⟨_, rfl, ?_⟩; replace BK549 := b5_ BK549 hb; replace HB := b4_ HB hb; (try clear hb); have hcz15_0 := c0_ BK549; have hfz15_0 := bF_ BK549.out 0) | (refine gs_ 13 Tryz.func15 #[.agg #[.slice A0_0 l0_0.length c0_0]] ?_; (with_reducible refine (laws_toMachine.calls k _ _ l0_0 t551 _ ?side1 HC0_0.out A7.out).mono ?_); (case side1 => repeat (first | exact (k4_ HR0_0.out HB.out) | with_reducible first | apply cA_ | apply cN_ | apply cD_)); rintro e w16 ⟨v552, rfl, ho0, hb⟩; refine ⟨_, rfl, ?_⟩; have HO553 := aM_ (Kd.S_lower ho0 (bZ_ HB.out)); replace BK549 := b5_ BK549 hb; replace HB := b4_ HB hb; (try clear hb); (try clear ho0); obtain ⟨Ao17, co17, eo17⟩ := Kd.S_slice HO553.out; subst eo17) | (refine gs_ 14 Tryz.func22 #[.agg #[.slice Ao17 t551.length co17]] ?_; (with_reducible refine (spec_IsMachine.calls k _ _ t551 t554 _ ?side1 ?side2 A8.out).mono ?_); (case side1 => repeat (first | exact (Kd.S_reads' HO553.out).2.2 | with_reducible first | apply cA_ | apply cN_ | apply cD_)); (case side2 => exact (Kd.S_reads' HO553.out).2.1); rintro e w18 ⟨rfl, hb⟩; refine ⟨_, rfl, ?_⟩; replace HO553 := aM_ (Kd.S_below (by (with_reducible repeat (first | apply Kd.S_alloc | apply Kd.S_drewN | apply Kd.S_drew)); exact HO553.out) hb); replace BK549 := b5_ BK549 hb; replace HB := b4_ HB hb; (try clear hb); have hcz19_0 := c0_ BK549; have hfz19_0 := bF_ BK549.out 0) | (refine gs_ 16 Tryz.func15 #[.agg #[.slice A0_0 l0_0.length c0_0]] ?_; (with_reducible refine (laws_toMachine.calls k _ _ l0_0 t555 _ ?side1 HC0_0.out A9.out).mono ?_); (case side1 => repeat (first | exact (k4_ HR0_0.out HB.out) | with_reducible first | apply cA_ | apply cN_ | apply cD_)); rintro e w20 ⟨v556, rfl, ho0, hb⟩; refine ⟨_, rfl, ?_⟩; have HO557 := aM_ (Kd.S_lower (Kd.S_new' ho0 (Kd.S_lt (by (with_reducible repeat (first | apply Kd.S_alloc | apply Kd.S_drewN | apply Kd.S_drew)); exact HO553.out))) (bZ_ HB.out)); replace HO553 := aM_ (Kd.S_elder' (by (with_reducible repeat (first | apply Kd.S_alloc | apply Kd.S_drewN | apply Kd.S_drew)); exact HO553.out) (Kd.S_base ho0) hb); replace BK549 := b5_ BK549 hb; replace HB := b4_ HB hb; (try clear hb); (try clear ho0)) | (refine bx_ 5 #[.slice none 0 0] 33 ?_; intro gb558 hg w21 hbox hb; replace HO553 := aM_ (Kd.S_below (by (with_reducible repeat (first | apply Kd.S_alloc | apply Kd.S_drewN | apply Kd.S_drew)); exact HO553.out) hb); replace HO557 := aM_ (Kd.S_below (by (with_reducible repeat (first | apply Kd.S_alloc | apply Kd.S_drewN | apply Kd.S_drew)); exact HO557.out) hb); have BK558 := aM_ (hbox); have GW558 := gw_ hg HB; replace HB := b4_ HB hb; have NB549_558 := nb_ hg BK549; have NB558_549 := ns_ NB549_558; replace BK549 := b5_ BK549 hb; clear hb hbox hg; obtain ⟨Ao22, co22, eo22⟩ := Kd.S_slice HO557.out; subst eo22; have hnb23 := NB558_549.out; have hnc23 := NB549_558.out; have hcz24_0 := c0_ BK558; have hfz24_0 := bF_ BK558.out 0) | (refine gs_ 18 Tryz.func23 #[.agg #[.slice Ao22 t555.length co22]] ?_; (with_reducible refine (impl_IsMachine.calls k _ _ t555 t559 _ ?side1 ?side2 A10.out).mono ?_); (case side1 => refine (Kd.S_reads' (e := 72) (base := w.heap.size) (ok := fun k_ => (True ∧ some k_ ≠ (.slice Ao17 t551.length co17 : Value).ownBlock)) (n := t555.length) (c := co22) ?_).2.2; exact (by (with_reducible repeat (first | apply Kd.S_alloc | apply Kd.S_drewN | apply Kd.S_drew)); exact (Kd.S_mono (Kd.S_far (p := ⟨gb558, 0, none⟩) (Kd.S_types HO557.out BK558.out (by decide)) (fun _ hk => hk.2) (.slice Ao22 t555.length co22)) (fun _ h_ => h_.1)))); (case side2 => exact (Kd.S_reads' HO557.out).2.1); rintro e w25 ⟨rfl, hb⟩; refine ⟨_, rfl, ?_⟩; replace HO553 := aM_ (Kd.S_below (by (with_reducible repeat (first | apply Kd.S_alloc | apply Kd.S_drewN | apply Kd.S_drew)); exact (Kd.S_mono (Kd.S_far (p := ⟨gb558, 0, none⟩) (Kd.S_types HO553.out BK558.out (by decide)) (fun _ hk => hk.2) (.slice Ao22 t555.length co22)) (fun _ h_ => h_.1))) hb); replace HO557 := aM_ (Kd.S_below (by (with_reducible repeat (first | apply Kd.S_alloc | apply Kd.S_drewN | apply Kd.S_drew)); exact (Kd.S_mono (Kd.S_far (p := ⟨gb558, 0, none⟩) (Kd.S_types HO557.out BK558.out (by decide)) (fun _ hk => hk.2) (.slice Ao22 t555.length co22)) (fun _ h_ => h_.1))) hb); replace BK549 := aM_ (bB_ (g := gb549) (o := .cells #[.slice A0_0 l0_0.length c0_0] 24 (0, 0)) (by exact br_ NB549_558.out (BK549.out)) hb); replace BK558 := aM_ (bB_ (g := gb558) (o := .cells #[.slice Ao22 t555.length co22] 33 (0, 0)) (by refine bP_ (cs := #[.slice none 0 0]) ?_ 0 _ rfl; exact BK558.out) hb); replace HB := aM_ (bT_ (by repeat with_reducible first | exact HB.out | apply bA_ | apply bN_ | apply bD_ | refine bS_ ?_ (Aside0.out ‹_›)) hb); (try clear hb)))
  go_ret
  exact ⟨by rfl, by exact HB.out⟩
 rw [if_neg c11] at H
 have c11b0 : (t559 != t554) = false := by simpa using c11
 (try (have c11b1 : decide (t559 = t554) = true := by simpa using c11))
 (try (have c11b2 : (t559 == t554) = true := by simpa using c11))
 clear c11
 replace H := oB_.mp H
 obtain ⟨t560, A260, H⟩ := H
 try dsimp only at H
 have A26 := aM_ A260
 clear A260
 replace H := oB_.mp H
 obtain ⟨t563, A270, H⟩ := H
 try dsimp only at H
 have A27 := aM_ A270
 clear A270
 by_cases c28 : t563 = true
 ·
  subst c28
  rw [if_pos rfl] at H
  obtain rfl := Option.some.inj H
  go_enter Tryz.func4, Tryz.ntmps4
  try go_wp2_with (first | (refine bx_ 1 #[.slice A0_0 l0_0.length c0_0] 24 ?_; intro gb549 hg w29 hbox hb; have BK549 := aM_ (hbox); have GW549 := gw_ hg HB; replace HB := b4_ HB hb; clear hb hbox hg; have hcz30_0 := c0_ BK549; have hfz30_0 := bF_ BK549.out 0) | (refine gs_ 9 Tryz.func13 #[.agg #[.slice A0_0 l0_0.length c0_0], .int .i64 1048576] ?_; (with_reducible refine (laws_szMachine.calls k _ _ l0_0 1048576 t550 _ ?side1 HC0_0.out A2.out).mono ?_); (case side1 => repeat (first | exact (k4_ HR0_0.out HB.out) | with_reducible first | apply cA_ | apply cN_ | apply cD_)); rintro e w31 ⟨rfl, hb⟩; refine ⟨_, rfl, ?_⟩; replace BK549 := b5_ BK549 hb; replace HB := b4_ HB hb; (try clear hb); have hcz32_0 := c0_ BK549; have hfz32_0 := bF_ BK549.out 0) | (refine gs_ 13 Tryz.func15 #[.agg #[.slice A0_0 l0_0.length c0_0]] ?_; (with_reducible refine (laws_toMachine.calls k _ _ l0_0 t551 _ ?side1 HC0_0.out A7.out).mono ?_); (case side1 => repeat (first | exact (k4_ HR0_0.out HB.out) | with_reducible first | apply cA_ | apply cN_ | apply cD_)); rintro e w33 ⟨v552, rfl, ho0, hb⟩; refine ⟨_, rfl, ?_⟩; have HO553 := aM_ (Kd.S_lower ho0 (bZ_ HB.out)); replace BK549 := b5_ BK549 hb; replace HB := b4_ HB hb; (try clear hb); (try clear ho0); obtain ⟨Ao34, co34, eo34⟩ := Kd.S_slice HO553.out; subst eo34) | (refine gs_ 14 Tryz.func22 #[.agg #[.slice Ao34 t551.length co34]] ?_; (with_reducible refine (spec_IsMachine.calls k _ _ t551 t554 _ ?side1 ?side2 A8.out).mono ?_); (case side1 => repeat (first | exact (Kd.S_reads' HO553.out).2.2 | with_reducible first | apply cA_ | apply cN_ | apply cD_)); (case side2 => exact (Kd.S_reads' HO553.out).2.1); rintro e w35 ⟨rfl, hb⟩; refine ⟨_, rfl, ?_⟩; replace HO553 := aM_ (Kd.S_below (by (with_reducible repeat (first | apply Kd.S_alloc | apply Kd.S_drewN | apply Kd.S_drew)); exact HO553.out) hb); replace BK549 := b5_ BK549 hb; replace HB := b4_ HB hb; (try clear hb); have hcz36_0 := c0_ BK549; have hfz36_0 := bF_ BK549.out 0) | (refine gs_ 16 Tryz.func15 #[.agg #[.slice A0_0 l0_0.length c0_0]] ?_; (with_reducible refine (laws_toMachine.calls k _ _ l0_0 t555 _ ?side1 HC0_0.out A9.out).mono ?_); (case side1 => repeat (first | exact (k4_ HR0_0.out HB.out) | with_reducible first | apply cA_ | apply cN_ | apply cD_)); rintro e w37 ⟨v556, rfl, ho0, hb⟩; refine ⟨_, rfl, ?_⟩; have HO557 := aM_ (Kd.S_lower (Kd.S_new' ho0 (Kd.S_lt (by (with_reducible repeat (first | apply Kd.S_alloc | apply Kd.S_drewN | apply Kd.S_drew)); exact HO553.out))) (bZ_ HB.out)); replace HO553 := aM_ (Kd.S_elder' (by (with_reducible repeat (first | apply Kd.S_alloc | apply Kd.S_drewN | apply Kd.S_drew)); exact HO553.out) (Kd.S_base ho0) hb); replace BK549 := b5_ BK549 hb; replace HB := b4_ HB hb; (try clear hb); (try clear ho0)) | (refine bx_ 5 #[.slice none 0 0] 33 ?_; intro gb558 hg w38 hbox hb; replace HO553 := aM_ (Kd.S_below (by (with_reducible repeat (first | apply Kd.S_alloc | apply Kd.S_drewN | apply Kd.S_drew)); exact HO553.out) hb); replace HO557 := aM_ (Kd.S_below (by (with_reducible repeat (first | apply Kd.S_alloc | apply Kd.S_drewN | apply Kd.S_drew)); exact HO557.out) hb); have BK558 := aM_ (hbox); have GW558 := gw_ hg HB; replace HB := b4_ HB hb; have NB549_558 := nb_ hg BK549; have NB558_549 := ns_ NB549_558; replace BK549 := b5_ BK549 hb; clear hb hbox hg; obtain ⟨Ao39, co39, eo39⟩ := Kd.S_slice HO557.out; subst eo39; have hnb40 := NB558_549.out; have hnc40 := NB549_558.out; have hcz41_0 := c0_ BK558; have hfz41_0 := bF_ BK558.out 0) | (refine gs_ 18 Tryz.func23 #[.agg #[.slice Ao39 t555.length co39]] ?_; (with_reducible refine (impl_IsMachine.calls k _ _ t555 t559 _ ?side1 ?side2 A10.out).mono ?_); (case side1 => refine (Kd.S_reads' (e := 72) (base := w.heap.size) (ok := fun k_ => (True ∧ some k_ ≠ (.slice Ao34 t551.length co34 : Value).ownBlock)) (n := t555.length) (c := co39) ?_).2.2; exact (by (with_reducible repeat (first | apply Kd.S_alloc | apply Kd.S_drewN | apply Kd.S_drew)); exact (Kd.S_mono (Kd.S_far (p := ⟨gb558, 0, none⟩) (Kd.S_types HO557.out BK558.out (by decide)) (fun _ hk => hk.2) (.slice Ao39 t555.length co39)) (fun _ h_ => h_.1)))); (case side2 => exact (Kd.S_reads' HO557.out).2.1); rintro e w42 ⟨rfl, hb⟩; refine ⟨_, rfl, ?_⟩; replace HO553 := aM_ (Kd.S_below (by (with_reducible repeat (first | apply Kd.S_alloc | apply Kd.S_drewN | apply Kd.S_drew)); exact (Kd.S_mono (Kd.S_far (p := ⟨gb558, 0, none⟩) (Kd.S_types HO553.out BK558.out (by decide)) (fun _ hk => hk.2) (.slice Ao39 t555.length co39)) (fun _ h_ => h_.1))) hb); replace HO557 := aM_ (Kd.S_below (by (with_reducible repeat (first | apply Kd.S_alloc | apply Kd.S_drewN | apply Kd.S_drew)); exact (Kd.S_mono (Kd.S_far (p := ⟨gb558, 0, none⟩) (Kd.S_types HO557.out BK558.out (by decide)) (fun _ hk => hk.2) (.slice Ao39 t555.length co39)) (fun _ h_ => h_.1))) hb); replace BK549 := aM_ (bB_ (g := gb549) (o := .cells #[.slice A0_0 l0_0.length c0_0] 24 (0, 0)) (by exact br_ NB549_558.out (BK549.out)) hb); replace BK558 := aM_ (bB_ (g := gb558) (o := .cells #[.slice Ao39 t555.length co39] 33 (0, 0)) (by refine bP_ (cs := #[.slice none 0 0]) ?_ 0 _ rfl; exact BK558.out) hb); replace HB := aM_ (bT_ (by repeat with_reducible first | exact HB.out | apply bA_ | apply bN_ | apply bD_ | refine bS_ ?_ (Aside0.out ‹_›)) hb); (try clear hb)))
  have n0_ := aM_ (Kd.S_drew HO553.out)
  have n1_ := aM_ (Kd.S_drew HO557.out)
  have n2_ := aM_ (b1_ BK549.out)
  have n3_ := aM_ (b1_ BK558.out)
  have n4_ := aM_ (bD_ HB.out)
  clear HO553
  clear HO557
  clear BK549
  clear BK558
  clear HB
  have HO553 := n0_
  have HO557 := n1_
  have BK549 := n2_
  have BK558 := n3_
  have HB := n4_
  clear n0_ n1_ n2_ n3_ n4_
  refine start_ (n := 5) (S := fun w' => w'.cell? ⟨gb558, 0, none⟩ = some (.slice Ao39 t555.length co39) ∧ w'.cell? ⟨gb549, 0, none⟩ = some (.slice A0_0 l0_0.length c0_0)) (ds := []) #[fy, fy, fy, fy, fy] (by kernel_rfl) rfl rfl ⟨(bC_ BK558.out 0).trans rfl, (bC_ BK549.out 0).trans rfl⟩ (fun hHeld => ?_)
  generalize w42.drew = w43 at HO553 HO557 BK549 BK558 HB hHeld ⊢
  refine take_ (i := 0) (N := some 22) (v := ?_) (a' := ?_) #[ty, fy, fy, fy, fy] rfl rfl (by kernel_rfl) (fun _ _ _ h => h) (Or.inl ⟨by rfl, ?_⟩) hHeld ?_ ?_; rotate_left; (rintro w' ⟨s0, s1⟩; go_simp; with_reducible rfl); rotate_left; (simp only [Act.put, sA_, sB_, sC_, i6_, i3_]; rfl)
  refine take_ (i := 1) (N := some 23) (v := ?_) (a' := ?_) #[ty, ty, fy, fy, fy] rfl rfl (by kernel_rfl) (fun _ _ _ h => h) (Or.inl ⟨by rfl, ?_⟩) hHeld ?_ ?_; rotate_left; (rintro w' ⟨s0, s1⟩; go_simp; with_reducible rfl); rotate_left; (simp only [Act.put, sA_, sB_, sC_, i6_, i3_]; rfl)
  refine one_ (i := 2) (N := some 24) #[ty, ty, ty, fy, fy] rfl rfl (by kernel_rfl) (by decide) (fun K hK => ?_)
  refine goes_ Tryz.func15 (by kernel_rfl) rfl #[.agg #[.slice A0_0 l0_0.length c0_0]] (by rfl) rfl rfl (by (try simp only [sD_, sE_, sF_]); rfl) ?_
  with_reducible refine (laws_toMachine.calls k _ _ l0_0 t560 _ ?side1 ?side2 A26.out).mono ?_
  (case side1 => repeat (first | exact (k4_ HR0_0.out HB.out) | with_reducible first | apply cA_ | apply cN_ | apply cD_))
  (case side2 => exact HC0_0.out)
  rintro e w44 ⟨v561, rfl, ho0, hb⟩
  refine ⟨_, rfl, ?_⟩
  have n0_ := aM_ (Kd.S_elder' (by (with_reducible repeat (first | apply Kd.S_alloc | apply Kd.S_drewN | apply Kd.S_drew)); exact HO553.out) (Kd.S_base ho0) hb)
  have n1_ := aM_ (Kd.S_elder' (by (with_reducible repeat (first | apply Kd.S_alloc | apply Kd.S_drewN | apply Kd.S_drew)); exact HO557.out) (Kd.S_base ho0) hb)
  have n2_ := aM_ (Kd.S_lower (Kd.S_new' (Kd.S_new' ho0 (Kd.S_lt (by (with_reducible repeat (first | apply Kd.S_alloc | apply Kd.S_drewN | apply Kd.S_drew)); exact HO553.out))) (Kd.S_lt (by (with_reducible repeat (first | apply Kd.S_alloc | apply Kd.S_drewN | apply Kd.S_drew)); exact HO557.out))) (bZ_ HB.out))
  have n3_ := b5_ BK549 hb
  have n4_ := b5_ BK558 hb
  have n5_ := b4_ HB hb
  clear HO553
  clear HO557
  clear BK549
  clear BK558
  clear HB
  have HO553 := n0_
  have HO557 := n1_
  have HO562 := n2_
  have BK549 := n3_
  have BK558 := n4_
  have HB := n5_
  clear n0_ n1_ n2_ n3_ n4_ n5_
  (try clear hb)
  (try clear ho0)
  obtain ⟨Ao45, co45, eo45⟩ := Kd.S_slice HO562.out
  (subst eo45)
  refine hK.out _ _ ⟨(bC_ BK558.out 0).trans rfl, (bC_ BK549.out 0).trans rfl⟩ (fun hHeld => ?_)
  clear hK K
  refine norm_ (by show Act.put _ (some 24) _ = _; simp only [Act.put, sA_, sB_, sC_, i6_, i3_]; rfl) ?_
  refine one_ (i := 3) (N := some 25) #[ty, ty, ty, ty, fy] rfl rfl (by kernel_rfl) (by decide) (fun K hK => ?_)
  refine goes_ Tryz.func18 (by kernel_rfl) rfl #[.agg #[.slice Ao39 t555.length co39], .agg #[.slice Ao45 t560.length co45]] (by rfl) rfl rfl (by (try simp only [sD_, sE_, sF_]); rfl) ?_
  with_reducible refine (laws_eqMachine.calls k _ _ t555 _ _ t560 true _ ?side1 ?side2 ?side3 ?side4 A27.out).mono ?_
  (case side1 => repeat (first | exact (Kd.S_reads' HO557.out).2.2 | with_reducible first | apply cA_ | apply cN_ | apply cD_))
  (case side2 => exact (Kd.S_reads' HO557.out).2.1)
  (case side3 => repeat (first | exact (Kd.S_reads' HO562.out).2.2 | with_reducible first | apply cA_ | apply cN_ | apply cD_))
  (case side4 => exact (Kd.S_reads' HO562.out).2.1)
  rintro e w46 ⟨rfl, hb⟩
  refine ⟨_, rfl, ?_⟩
  have n0_ := aM_ (Kd.S_below (by (with_reducible repeat (first | apply Kd.S_alloc | apply Kd.S_drewN | apply Kd.S_drew)); exact HO553.out) hb)
  have n1_ := aM_ (Kd.S_below (by (with_reducible repeat (first | apply Kd.S_alloc | apply Kd.S_drewN | apply Kd.S_drew)); exact HO557.out) hb)
  have n2_ := aM_ (Kd.S_below (by (with_reducible repeat (first | apply Kd.S_alloc | apply Kd.S_drewN | apply Kd.S_drew)); exact HO562.out) hb)
  have n3_ := b5_ BK549 hb
  have n4_ := b5_ BK558 hb
  have n5_ := b4_ HB hb
  clear HO553
  clear HO557
  clear HO562
  clear BK549
  clear BK558
  clear HB
  have HO553 := n0_
  have HO557 := n1_
  have HO562 := n2_
  have BK549 := n3_
  have BK558 := n4_
  have HB := n5_
  clear n0_ n1_ n2_ n3_ n4_ n5_
  (try clear hb)
  refine hK.out _ _ ⟨(bC_ BK558.out 0).trans rfl, (bC_ BK549.out 0).trans rfl⟩ (fun hHeld => ?_)
  clear hK K
  refine norm_ (by show Act.put _ (some 25) _ = _; simp only [Act.put, sA_, sB_, sC_, i6_, i3_]; rfl) ?_
  refine pure_ (i := 4) (N := some 26) (v := ?_) (a' := ?_) #[ty, ty, ty, ty, ty] rfl rfl (by kernel_rfl) (fun _ _ _ h => h) (Or.inl ⟨by rfl, ?_⟩) ?_ ?_; rotate_left; (intro w'; go_simp; with_reducible rfl); rotate_left; (simp only [Act.put, sA_, sB_, sC_, i6_, i3_]; rfl)
  refine done_ (by kernel_rfl) ?_
  try go_wp2
  go_ret
  exact ⟨by rfl, by exact HB.out⟩
 replace c28 := Bool.eq_false_iff.mpr c28
 subst c28
 replace H : (some false) = some r := by rw [if_neg (show ¬ (false = true) by decide)] at H; exact H
 obtain rfl := Option.some.inj H
 go_enter Tryz.func4, Tryz.ntmps4
 try go_wp2_with (first | (refine bx_ 1 #[.slice A0_0 l0_0.length c0_0] 24 ?_; intro gb549 hg w47 hbox hb; have BK549 := aM_ (hbox); have GW549 := gw_ hg HB; replace HB := b4_ HB hb; clear hb hbox hg; have hcz48_0 := c0_ BK549; have hfz48_0 := bF_ BK549.out 0) | (refine gs_ 9 Tryz.func13 #[.agg #[.slice A0_0 l0_0.length c0_0], .int .i64 1048576] ?_; (with_reducible refine (laws_szMachine.calls k _ _ l0_0 1048576 t550 _ ?side1 HC0_0.out A2.out).mono ?_); (case side1 => repeat (first | exact (k4_ HR0_0.out HB.out) | with_reducible first | apply cA_ | apply cN_ | apply cD_)); rintro e w49 ⟨rfl, hb⟩; refine ⟨_, rfl, ?_⟩; replace BK549 := b5_ BK549 hb; replace HB := b4_ HB hb; (try clear hb); have hcz50_0 := c0_ BK549; have hfz50_0 := bF_ BK549.out 0) | (refine gs_ 13 Tryz.func15 #[.agg #[.slice A0_0 l0_0.length c0_0]] ?_; (with_reducible refine (laws_toMachine.calls k _ _ l0_0 t551 _ ?side1 HC0_0.out A7.out).mono ?_); (case side1 => repeat (first | exact (k4_ HR0_0.out HB.out) | with_reducible first | apply cA_ | apply cN_ | apply cD_)); rintro e w51 ⟨v552, rfl, ho0, hb⟩; refine ⟨_, rfl, ?_⟩; have HO553 := aM_ (Kd.S_lower ho0 (bZ_ HB.out)); replace BK549 := b5_ BK549 hb; replace HB := b4_ HB hb; (try clear hb); (try clear ho0); obtain ⟨Ao52, co52, eo52⟩ := Kd.S_slice HO553.out; subst eo52) | (refine gs_ 14 Tryz.func22 #[.agg #[.slice Ao52 t551.length co52]] ?_; (with_reducible refine (spec_IsMachine.calls k _ _ t551 t554 _ ?side1 ?side2 A8.out).mono ?_); (case side1 => repeat (first | exact (Kd.S_reads' HO553.out).2.2 | with_reducible first | apply cA_ | apply cN_ | apply cD_)); (case side2 => exact (Kd.S_reads' HO553.out).2.1); rintro e w53 ⟨rfl, hb⟩; refine ⟨_, rfl, ?_⟩; replace HO553 := aM_ (Kd.S_below (by (with_reducible repeat (first | apply Kd.S_alloc | apply Kd.S_drewN | apply Kd.S_drew)); exact HO553.out) hb); replace BK549 := b5_ BK549 hb; replace HB := b4_ HB hb; (try clear hb); have hcz54_0 := c0_ BK549; have hfz54_0 := bF_ BK549.out 0) | (refine gs_ 16 Tryz.func15 #[.agg #[.slice A0_0 l0_0.length c0_0]] ?_; (with_reducible refine (laws_toMachine.calls k _ _ l0_0 t555 _ ?side1 HC0_0.out A9.out).mono ?_); (case side1 => repeat (first | exact (k4_ HR0_0.out HB.out) | with_reducible first | apply cA_ | apply cN_ | apply cD_)); rintro e w55 ⟨v556, rfl, ho0, hb⟩; refine ⟨_, rfl, ?_⟩; have HO557 := aM_ (Kd.S_lower (Kd.S_new' ho0 (Kd.S_lt (by (with_reducible repeat (first | apply Kd.S_alloc | apply Kd.S_drewN | apply Kd.S_drew)); exact HO553.out))) (bZ_ HB.out)); replace HO553 := aM_ (Kd.S_elder' (by (with_reducible repeat (first | apply Kd.S_alloc | apply Kd.S_drewN | apply Kd.S_drew)); exact HO553.out) (Kd.S_base ho0) hb); replace BK549 := b5_ BK549 hb; replace HB := b4_ HB hb; (try clear hb); (try clear ho0)) | (refine bx_ 5 #[.slice none 0 0] 33 ?_; intro gb558 hg w56 hbox hb; replace HO553 := aM_ (Kd.S_below (by (with_reducible repeat (first | apply Kd.S_alloc | apply Kd.S_drewN | apply Kd.S_drew)); exact HO553.out) hb); replace HO557 := aM_ (Kd.S_below (by (with_reducible repeat (first | apply Kd.S_alloc | apply Kd.S_drewN | apply Kd.S_drew)); exact HO557.out) hb); have BK558 := aM_ (hbox); have GW558 := gw_ hg HB; replace HB := b4_ HB hb; have NB549_558 := nb_ hg BK549; have NB558_549 := ns_ NB549_558; replace BK549 := b5_ BK549 hb; clear hb hbox hg; obtain ⟨Ao57, co57, eo57⟩ := Kd.S_slice HO557.out; subst eo57; have hnb58 := NB558_549.out; have hnc58 := NB549_558.out; have hcz59_0 := c0_ BK558; have hfz59_0 := bF_ BK558.out 0) | (refine gs_ 18 Tryz.func23 #[.agg #[.slice Ao57 t555.length co57]] ?_; (with_reducible refine (impl_IsMachine.calls k _ _ t555 t559 _ ?side1 ?side2 A10.out).mono ?_); (case side1 => refine (Kd.S_reads' (e := 72) (base := w.heap.size) (ok := fun k_ => (True ∧ some k_ ≠ (.slice Ao52 t551.length co52 : Value).ownBlock)) (n := t555.length) (c := co57) ?_).2.2; exact (by (with_reducible repeat (first | apply Kd.S_alloc | apply Kd.S_drewN | apply Kd.S_drew)); exact (Kd.S_mono (Kd.S_far (p := ⟨gb558, 0, none⟩) (Kd.S_types HO557.out BK558.out (by decide)) (fun _ hk => hk.2) (.slice Ao57 t555.length co57)) (fun _ h_ => h_.1)))); (case side2 => exact (Kd.S_reads' HO557.out).2.1); rintro e w60 ⟨rfl, hb⟩; refine ⟨_, rfl, ?_⟩; replace HO553 := aM_ (Kd.S_below (by (with_reducible repeat (first | apply Kd.S_alloc | apply Kd.S_drewN | apply Kd.S_drew)); exact (Kd.S_mono (Kd.S_far (p := ⟨gb558, 0, none⟩) (Kd.S_types HO553.out BK558.out (by decide)) (fun _ hk => hk.2) (.slice Ao57 t555.length co57)) (fun _ h_ => h_.1))) hb); replace HO557 := aM_ (Kd.S_below (by (with_reducible repeat (first | apply Kd.S_alloc | apply Kd.S_drewN | apply Kd.S_drew)); exact (Kd.S_mono (Kd.S_far (p := ⟨gb558, 0, none⟩) (Kd.S_types HO557.out BK558.out (by decide)) (fun _ hk => hk.2) (.slice Ao57 t555.length co57)) (fun _ h_ => h_.1))) hb); replace BK549 := aM_ (bB_ (g := gb549) (o := .cells #[.slice A0_0 l0_0.length c0_0] 24 (0, 0)) (by exact br_ NB549_558.out (BK549.out)) hb); replace BK558 := aM_ (bB_ (g := gb558) (o := .cells #[.slice Ao57 t555.length co57] 33 (0, 0)) (by refine bP_ (cs := #[.slice none 0 0]) ?_ 0 _ rfl; exact BK558.out) hb); replace HB := aM_ (bT_ (by repeat with_reducible first | exact HB.out | apply bA_ | apply bN_ | apply bD_ | refine bS_ ?_ (Aside0.out ‹_›)) hb); (try clear hb)))
 have n0_ := aM_ (Kd.S_drew HO553.out)
 have n1_ := aM_ (Kd.S_drew HO557.out)
 have n2_ := aM_ (b1_ BK549.out)
 have n3_ := aM_ (b1_ BK558.out)
 have n4_ := aM_ (bD_ HB.out)
 clear HO553
 clear HO557
 clear BK549
 clear BK558
 clear HB
 have HO553 := n0_
 have HO557 := n1_
 have BK549 := n2_
 have BK558 := n3_
 have HB := n4_
 clear n0_ n1_ n2_ n3_ n4_
 refine start_ (n := 5) (S := fun w' => w'.cell? ⟨gb558, 0, none⟩ = some (.slice Ao57 t555.length co57) ∧ w'.cell? ⟨gb549, 0, none⟩ = some (.slice A0_0 l0_0.length c0_0)) (ds := []) #[fy, fy, fy, fy, fy] (by kernel_rfl) rfl rfl ⟨(bC_ BK558.out 0).trans rfl, (bC_ BK549.out 0).trans rfl⟩ (fun hHeld => ?_)
 generalize w60.drew = w61 at HO553 HO557 BK549 BK558 HB hHeld ⊢
 refine take_ (i := 0) (N := some 22) (v := ?_) (a' := ?_) #[ty, fy, fy, fy, fy] rfl rfl (by kernel_rfl) (fun _ _ _ h => h) (Or.inl ⟨by rfl, ?_⟩) hHeld ?_ ?_; rotate_left; (rintro w' ⟨s0, s1⟩; go_simp; with_reducible rfl); rotate_left; (simp only [Act.put, sA_, sB_, sC_, i6_, i3_]; rfl)
 refine take_ (i := 1) (N := some 23) (v := ?_) (a' := ?_) #[ty, ty, fy, fy, fy] rfl rfl (by kernel_rfl) (fun _ _ _ h => h) (Or.inl ⟨by rfl, ?_⟩) hHeld ?_ ?_; rotate_left; (rintro w' ⟨s0, s1⟩; go_simp; with_reducible rfl); rotate_left; (simp only [Act.put, sA_, sB_, sC_, i6_, i3_]; rfl)
 refine one_ (i := 2) (N := some 24) #[ty, ty, ty, fy, fy] rfl rfl (by kernel_rfl) (by decide) (fun K hK => ?_)
 refine goes_ Tryz.func15 (by kernel_rfl) rfl #[.agg #[.slice A0_0 l0_0.length c0_0]] (by rfl) rfl rfl (by (try simp only [sD_, sE_, sF_]); rfl) ?_
 with_reducible refine (laws_toMachine.calls k _ _ l0_0 t560 _ ?side1 ?side2 A26.out).mono ?_
 (case side1 => repeat (first | exact (k4_ HR0_0.out HB.out) | with_reducible first | apply cA_ | apply cN_ | apply cD_))
 (case side2 => exact HC0_0.out)
 rintro e w62 ⟨v561, rfl, ho0, hb⟩
 refine ⟨_, rfl, ?_⟩
 have n0_ := aM_ (Kd.S_elder' (by (with_reducible repeat (first | apply Kd.S_alloc | apply Kd.S_drewN | apply Kd.S_drew)); exact HO553.out) (Kd.S_base ho0) hb)
 have n1_ := aM_ (Kd.S_elder' (by (with_reducible repeat (first | apply Kd.S_alloc | apply Kd.S_drewN | apply Kd.S_drew)); exact HO557.out) (Kd.S_base ho0) hb)
 have n2_ := aM_ (Kd.S_lower (Kd.S_new' (Kd.S_new' ho0 (Kd.S_lt (by (with_reducible repeat (first | apply Kd.S_alloc | apply Kd.S_drewN | apply Kd.S_drew)); exact HO553.out))) (Kd.S_lt (by (with_reducible repeat (first | apply Kd.S_alloc | apply Kd.S_drewN | apply Kd.S_drew)); exact HO557.out))) (bZ_ HB.out))
 have n3_ := b5_ BK549 hb
 have n4_ := b5_ BK558 hb
 have n5_ := b4_ HB hb
 clear HO553
 clear HO557
 clear BK549
 clear BK558
 clear HB
 have HO553 := n0_
 have HO557 := n1_
 have HO562 := n2_
 have BK549 := n3_
 have BK558 := n4_
 have HB := n5_
 clear n0_ n1_ n2_ n3_ n4_ n5_
 (try clear hb)
 (try clear ho0)
 obtain ⟨Ao63, co63, eo63⟩ := Kd.S_slice HO562.out
 (subst eo63)
 refine hK.out _ _ ⟨(bC_ BK558.out 0).trans rfl, (bC_ BK549.out 0).trans rfl⟩ (fun hHeld => ?_)
 clear hK K
 refine norm_ (by show Act.put _ (some 24) _ = _; simp only [Act.put, sA_, sB_, sC_, i6_, i3_]; rfl) ?_
 refine one_ (i := 3) (N := some 25) #[ty, ty, ty, ty, fy] rfl rfl (by kernel_rfl) (by decide) (fun K hK => ?_)
 refine goes_ Tryz.func18 (by kernel_rfl) rfl #[.agg #[.slice Ao57 t555.length co57], .agg #[.slice Ao63 t560.length co63]] (by rfl) rfl rfl (by (try simp only [sD_, sE_, sF_]); rfl) ?_
 with_reducible refine (laws_eqMachine.calls k _ _ t555 _ _ t560 false _ ?side1 ?side2 ?side3 ?side4 A27.out).mono ?_
 (case side1 => repeat (first | exact (Kd.S_reads' HO557.out).2.2 | with_reducible first | apply cA_ | apply cN_ | apply cD_))
 (case side2 => exact (Kd.S_reads' HO557.out).2.1)
 (case side3 => repeat (first | exact (Kd.S_reads' HO562.out).2.2 | with_reducible first | apply cA_ | apply cN_ | apply cD_))
 (case side4 => exact (Kd.S_reads' HO562.out).2.1)
 rintro e w64 ⟨rfl, hb⟩
 refine ⟨_, rfl, ?_⟩
 have n0_ := aM_ (Kd.S_below (by (with_reducible repeat (first | apply Kd.S_alloc | apply Kd.S_drewN | apply Kd.S_drew)); exact HO553.out) hb)
 have n1_ := aM_ (Kd.S_below (by (with_reducible repeat (first | apply Kd.S_alloc | apply Kd.S_drewN | apply Kd.S_drew)); exact HO557.out) hb)
 have n2_ := aM_ (Kd.S_below (by (with_reducible repeat (first | apply Kd.S_alloc | apply Kd.S_drewN | apply Kd.S_drew)); exact HO562.out) hb)
 have n3_ := b5_ BK549 hb
 have n4_ := b5_ BK558 hb
 have n5_ := b4_ HB hb
 clear HO553
 clear HO557
 clear HO562
 clear BK549
 clear BK558
 clear HB
 have HO553 := n0_
 have HO557 := n1_
 have HO562 := n2_
 have BK549 := n3_
 have BK558 := n4_
 have HB := n5_
 clear n0_ n1_ n2_ n3_ n4_ n5_
 (try clear hb)
 refine hK.out _ _ ⟨(bC_ BK558.out 0).trans rfl, (bC_ BK549.out 0).trans rfl⟩ (fun hHeld => ?_)
 clear hK K
 refine norm_ (by show Act.put _ (some 25) _ = _; simp only [Act.put, sA_, sB_, sC_, i6_, i3_]; rfl) ?_
 refine pure_ (i := 4) (N := some 26) (v := ?_) (a' := ?_) #[ty, ty, ty, ty, ty] rfl rfl (by kernel_rfl) (fun _ _ _ h => h) (Or.inl ⟨by rfl, ?_⟩) ?_ ?_; rotate_left; (intro w'; go_simp; with_reducible rfl); rotate_left; (simp only [Act.put, sA_, sB_, sC_, i6_, i3_]; rfl)
 refine done_ (by kernel_rfl) ?_
 try go_wp2
 go_ret
 exact ⟨by rfl, by exact HB.out⟩
def laws_FnExactIsMachine.Pure : Prop := ∀ (l0_0 : List S90), l0_0.length ≤ 9223372036854775807 → (∀ x ∈ l0_0, x.f1.length ≤ 9223372036854775807) → ∃ k, laws_FnExactIsMachine.f k l0_0 = some true
theorem laws_FnExactIsMachine.walk (P : laws_FnExactIsMachine.Pure) (w : World) (A0 : Option Addr) (c0 : Nat) (l0_0 : List S90) (hr0 : Kd.C k90 w A0 l0_0.length l0_0) (hc0 : l0_0.length ≤ c0) :
  Calls Tryz.prog 4 #[.agg #[.slice A0 l0_0.length c0]] w fun e w' => e = .returned (.bool true) ∧ Below w.heap.size w w' := by
 obtain ⟨k, h⟩ := P l0_0 hr0.2.1 (by intro x hx; obtain ⟨i, hi, rfl⟩ := List.getElem_of_mem hx; obtain ⟨_, _, _, _, _, _, _, h9⟩ := at_T90 hr0 (i : Int) (by omega) (by omega); have h8 := h9.2.1; unfold rd_T90 at h8; rw [Int.toNat_natCast, List.getD_eq_getElem?_getD, List.getElem?_eq_getElem hi] at h8; exact h8)
 refine (laws_FnExactIsMachine.calls k _ _ l0_0 true w hr0 hc0 h).mono ?_
 rintro e w' ⟨rfl, hd⟩
 exact ⟨rfl, hd⟩
end Go.Proofs.YtnnkedeohfbkeaaGreatDoor.P
namespace Go.Proofs.YtnnkedeohfbkeaaGreatDoor.Pure
open Go.RowKit Go.Proofs.YtnnkedeohfbkeaaGreatDoor.P Go.Proofs.YtnnkedeohfbkeaaGreatDoor.M Go.Proofs.YtnnkedeohfbkeaaGreatDoorW.PrintWords Go.Proofs.YtnnkedeohfbkeaaGreatDoorW.PrintLast Go.Proofs.YtnnkedeohfbkeaaGreatDoorW.PrintMore
open Go.Proofs.YtnnkedeohfbkeaaGreatDoor.L
open Mach
theorem both (m : List Stt) (hx : ∀ x ∈ m, x.f1.length ≤ 1048576) : ∃ r : Bool, Ev (fun k => spec_IsMachine.f k m) r ∧ Ev (fun k => impl_IsMachine.f k m) r := by
 unfold spec_IsMachine.f impl_IsMachine.f
 rcases mach_both m hx with ⟨ws, h, rfl, h1, h2⟩ | ⟨h1, h2⟩
 ·
  exact ⟨true, Ev.bind h1 (Ev.now _), Ev.bind h2 (Ev.now _)⟩
 exact ⟨false, Ev.bind h1 (Ev.now _), Ev.bind h2 (Ev.now _)⟩
theorem FnExactIsMachine : laws_FnExactIsMachine.Pure := by
 intro l hl hx
 refine Ev.rounds ?_
 unfold laws_FnExactIsMachine.f
 obtain ⟨c, hc, hr⟩ := szMachine_ev l hl hx
 refine Ev.bind hc ?_
 rcases hr with hneg | ⟨h0, h1, h2⟩
 ·
  exact Ev.ifT hneg (Ev.now _)
 obtain ⟨r, e1, e2⟩ := both (toM l) (toM_edges h2)
 have ht := toMachine_ev l h1 h2
 refine Ev.ifF (by omega) (Ev.bind ht (Ev.bind e1 (Ev.bind ht (Ev.bind e2 (Ev.ifF (by simp) (Ev.bind ht (Ev.bind (MMk.eqMachine_ev _ (by rw [toM_length]; omega) (fun x hx => by have := toM_edges h2 x hx; omega)) (Ev.ifT rfl (Ev.now _)))))))))
end Go.Proofs.YtnnkedeohfbkeaaGreatDoor.Pure
namespace Go.Proofs.YtnnkedeohfbkeaaGreatDoor.fnExactIsMachine
open Go.ChangeShapes Go.WideShapes Go.ChangeAt Go.RowKit Go.Proofs.YtnnkedeohfbkeaaGreatDoor.P
open Go.ChangeMaps (open_string shut_string)
def laidL : List (String × DataW Unit) := [("unicode/utf8.acceptRanges", Rows.laid_unicode_utf8_acceptRanges), ("unicode/utf8.first", Rows.laid_unicode_utf8_first)]
theorem own : ownKnob Tryz.prog.godebug = none := by kernel_rfl
theorem laidOut : laidOutB Tryz.prog = true := by kernel_rfl
theorem lifted (os : Os) (started : os.Started) (H : Type) (enc : TypeId × Value → H) :
    ReturnsInHanded {} Tryz.checked os 4 .any (fun w args => (Rows.fnExactIsMachineSpec.pre enc Tryz.prog Tryz.f4 [] false w args ∧ laidMetH Tryz.prog laidL w) ∧ sizedMet enc Tryz.prog Tryz.f4 (OpenSpec.ofChange Rows.fnExactIsMachineSpec) false w args) (Rows.fnExactIsMachineSpec.post enc Tryz.prog Tryz.f4 false true false false) := by
  refine returnsInHanded_of_change_and (C := Tryz.checked) (X := fun w _ => laidMetH Tryz.prog laidL w) (fun _ _ _ hh h => h.of_heap hh) own started (by kernel_rfl) Tryz.func4
    (ChangeSpec.witness_shaped (enc := enc) (C := Tryz.checked) (os := os) (X := fun w _ => laidMetH Tryz.prog laidL w) false (World.laidAll Tryz.prog os laidL) #[.agg #[.slice none 0 0]] 8 (World.laidAll_os _ _ _) (World.shaped_of_ZipB (by kernel_rfl) (by kernel_rfl)) (by kernel_rfl) (by kernel_rfl) (by kernel_rfl)
      (by rw [MakeChecks.laidMetH_plain _ _ _ (by kernel_rfl)]; exact laidMet_laidAll _ (by kernel_rfl) (by kernel_rfl))) ?_
  intro W base args ds gs before hval0 hW hcnd hsz0 hL_ _
  have hsz : (DataW.weightsEach Tryz.prog (Tryz.f4.params.toList ++ Rows.fnExactIsMachineSpec.plain.varTypes Tryz.prog) (ds ++ gs)).all (· ≤ reachBytes) = true := hsz0
  have hval : ∀ (j : Nat) t v, Tryz.f4.params[j]? = some t → args[j]? = some v → Value.okWide Tryz.prog W .any base t v := hval0
  have hW' := hW
  obtain ⟨p, q, hA0, hV, rfl, hfz, hnd⟩ := hW
  have hA : DataW.TrodAll enc Tryz.prog W 0 (fun _ => true) true Tryz.f4.params.toList args.toList ds p := hA0
  rw [Tryz.params4] at hA hval hsz
  obtain ⟨v0, vs0, d0, ds0, p0, q0, hargs, rfl, rfl, h0, r0⟩ := trodAll_cons hA
  obtain ⟨rfl, rfl, rfl⟩ := trodAll_nil r0
  obtain rfl : args = #[v0] := by cases args; simp_all
  obtain ⟨rfl, rfl⟩ := trodVars_none hV
  have k0 := h0
  have lt0 : ∀ x ∈ p0, x.block < W.heap.size := by obtain ⟨m, hm⟩ := k0; exact DataW.trod_lt m _ _ _ hm
  obtain ⟨A0, c0, l0, ev0, hc0, hr0⟩ := OM.machine (hval 0 24 v0 rfl rfl) h0
  subst ev0
  clear hA0 hval0 hsz0 hsz
  refine (laws_FnExactIsMachine.walk Pure.FnExactIsMachine W A0 c0 l0 hr0 hc0).mono fun e W' ⟨he, bel⟩ => ?_
  subst he
  exact ⟨_, rfl, _, _, _, [], _, [], hW', trodAll_mk1 (shut_bool Tryz.underlying4 _), (trodAll_cons_mk (Below.trod laidOut (by kernel_rfl) (of_decide_eq_true (by kernel_rfl)) k0 bel lt0) trodAll_mk0), rfl, bel.frame _, fun h => by cases h⟩
theorem over : Rows.fnExactIsMachineRow.holds Tryz.pinned (OpenSpec.ofChange Rows.fnExactIsMachineSpec) :=
  OpenClaim.holds_of_wide 4 Tryz.f4 rfl rfl rfl rfl rfl rfl rfl ⟨rfl, rfl, rfl, rfl, rfl⟩ rfl rfl rfl rfl rfl (by kernel_rfl) Tryz.func4 (by kernel_rfl)
    (of_decide_eq_true (by kernel_rfl)) (by unfold Func.isWrapper; first | (rw [if_pos (by decide +kernel)]; kernel_rfl) | (rw [if_neg (by decide +kernel)]; exact ⟨rfl, rfl⟩))
    (fun os started H enc _ => lifted os started H enc)
theorem proved : Rows.FnExactIsMachineSaid := over
end Go.Proofs.YtnnkedeohfbkeaaGreatDoor.fnExactIsMachine
namespace Go.Proofs.YtnnkedeohfbkeaaGreatDoor
theorem fnExactIsMachine_holds : Rows.FnExactIsMachineSaid := fnExactIsMachine.proved
theorem fnExactIsMachine_card : Rows.FnExactIsMachineCardSaid :=
  Claim7.holds_tied_plain_at .later [] [.data, .pinned] true (true, "d24746f385e5a6b2389916c9b9ccdfc43770af261716950c3f87901a77ac8579") false
    fnExactIsMachine_holds (fun _ h => by cases h) (by kernel_rfl) (fun _ h => by cases h) fnExactIsMachine_row_tie rfl ⟨rfl, rfl⟩ (by kernel_rfl) rfl
    (fun f fn hf hfn => by
      obtain rfl : f = 4 := Option.some.inj ((show Tryz.prog.funcNamed "loop.example/g01243/laws.FnExactIsMachine" = some 4 by kernel_rfl).symm.trans hf) |>.symm
      obtain rfl : fn = Tryz.f4 := (Option.some.inj (Tryz.func4.symm.trans hfn)).symm
      exact ⟨by kernel_rfl, fun j t ht => by
        rw [Tryz.params4] at ht
        have hm : t ∈ [24] := by simpa using Array.mem_of_getElem? ht
        have hall : ([24].all fun u => !Tryz.prog.wantsStandIn u) = true := by kernel_rfl
        exact (show Tryz.prog.wantsStandIn t = false by simpa using List.all_eq_true.1 hall t hm)⟩)
    (by kernel_rfl)
end Go.Proofs.YtnnkedeohfbkeaaGreatDoor
