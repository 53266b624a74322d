/-
  Part 5 of the proof that FnExactStateOf returns true for every input: the functions that it reaches, each with its contract, and the law.
  Conditions: those of the given statement, no others.
-/
import Derived.Test.YtnnkedeohfbkeaaGreatDoorCFnExactStateOfW0
import Derived.Lib.SlicesCompact
import Derived.Test.YtnnkedeohfbkeaaGreatDoorRows
import Derived.WalkKit
import Derived.ProofKit
import Derived.OpenShut
import Derived.ShutString
import Derived.ChangeOld
import Derived.Below
import Derived.SizedLaws
import Derived.Lay
import Derived.LaidOnce
import Derived.SevenTiedAt
import Derived.Test.YtnnkedeohfbkeaaGreatDoorCards
import Derived.Test.YtnnkedeohfbkeaaGreatDoorTie
import Derived.Test.YtnnkedeohfbkeaaGreatDoorCFnExactStateOf0
import Derived.Test.YtnnkedeohfbkeaaGreatDoorCFnExactStateOf3
import Derived.Test.YtnnkedeohfbkeaaGreatDoorCFnExactStateOf2
import Derived.Test.YtnnkedeohfbkeaaGreatDoorCFnExactStateOf1
set_option linter.unusedVariables false
set_option linter.unusedSimpArgs false
set_option maxHeartbeats 8000000
set_option maxRecDepth 100000
namespace Go.Proofs.YtnnkedeohfbkeaaGreatDoor.P
open Go.RowKit Go.Proofs.YtnnkedeohfbkeaaGreatDoorW.PrintWords Go.Proofs.YtnnkedeohfbkeaaGreatDoorW.PrintLast Go.Proofs.YtnnkedeohfbkeaaGreatDoorW.PrintMore
open Go.Proofs.YtnnkedeohfbkeaaGreatDoorW.PrintWords renaming blk_frozen → bF_, blk_cell → bC_, below_set → bS_, blk_below → bB_, below_step → bT_, pw_below_drewN → bN_, below_size → bZ_, below_drew1 → bD_, below_alloc → bA_, blk_far → bR_, gate_callee → gC_, gate_dst → gD_, box_event → bE_, blk_drew → b1_, blk_put → bP_, blk_drewN → b2_, blk_alloc → b3_, blk_lt → bL_, cell_far → cF_
open Go.Proofs.YtnnkedeohfbkeaaGreatDoorW.PrintLast renaming any_of → aO_, i64_w → i6_, i32_w → i3_, take_ofW → tW_
open Go.Proofs.YtnnkedeohfbkeaaGreatDoorW.PrintWords.Kd renaming R_below → kB_, R_mono → kM_, R_far → kF_, R_reads' → kR_, R_types → kT_, R_slice → kS_, R_celln → kC_, R_alloc → k1_, R_drewN → k2_, R_drew → k3_, C_below → k4_, R_lower → k5_, R_ne → k6_, own_blk → k7_
open Go.Proofs.YtnnkedeohfbkeaaGreatDoorW.PrintWords.LeO renaming none → l0_, bind → l1_, ite → l2_, refl → l3_
open World renaming block_lt_of_cell? → wB_
open _root_.Option renaming bind_eq_some_iff → oB_
open _root_.ByteArray renaming empty → eB_
open List renaming setIfInBounds_toArray → sA_, set_cons_zero → sB_, set_cons_succ → sC_, map_toArray → sD_, map_cons → sE_, map_nil → sF_, length_drop → sG_, length_take → sH_
open Bool renaming true → ty, false → fy
open Aside0 renaming mk → aM_
attribute [local go_sem] max2_int min2_int max_two min_two max_three min_three max_four min_four
def wF29.j0 : Nat → Bool → List (S90) → List (S72) → Option (Bool)
 | 0, _, _, _ => none
 | k + 1, x41, x843000, x853000 => if x41 = true then (some false) else ((wF44.f k x843000).bind fun t855 => ((wF32.f k x853000 t855).bind fun t858 => (if t858 = true then (some true) else (some false))))
def wF29.f (k : Nat) (l0_0 : List (S90)) (a1 : ByteArray) : Option (Bool) := if (a1.size : Int) > 1048576 then (some true) else ((wF39.f k l0_0 1048576).bind fun t843 => (if t843 < 0 then (some true) else ((wF44.f k l0_0).bind fun t844 => ((sF53.f k t844 a1).bind fun bt847 => ((wF44.f k l0_0).bind fun t849 => ((iF10.f k t849 a1).bind fun bt853 => (if bt853.1 = bt847.1 then (wF29.j0 k (bt853.2 != bt847.2) l0_0 t849) else (wF29.j0 k true l0_0 t849))))))))
theorem wF29.mono_l : ∀ k, (∀ y0 y1 y2, LeO (wF29.j0 k y0 y1 y2) (wF29.j0 (k + 1) y0 y1 y2))
 | 0 => fun _ _ _ r h => by simp [wF29.j0] at h
 | k + 1 => by
  have ih0 := wF29.mono_l k
  intro y0 y1 y2
  unfold wF29.j0
  repeat' with_reducible first | exact ih0 _ _ _ | exact iF10.mono _ _ _ | exact wF32.mono _ _ _ | exact wF39.mono _ _ _ | exact wF44.mono _ _ | exact sF53.mono _ _ _ | exact l3_ _ | exact l0_ _ | refine l2_ ?_ ?_ | refine l1_ ?_ (fun _ => ?_)
theorem wF29.mono : ∀ a0 a1 k, LeO (wF29.f k a0 a1) (wF29.f (k + 1) a0 a1) := by
 intro a0 a1 k
 have ih0 := wF29.mono_l k
 unfold wF29.f
 repeat' with_reducible first | exact ih0 _ _ _ | exact iF10.mono _ _ _ | exact wF32.mono _ _ _ | exact wF39.mono _ _ _ | exact wF44.mono _ _ | exact sF53.mono _ _ _ | exact l3_ _ | exact l0_ _ | refine l2_ ?_ ?_ | refine l1_ ?_ (fun _ => ?_)
theorem wF29.calls (k : Nat) (A0_0 : Option Addr) (c0_0 : Nat) (l0_0 : List (S90)) (a1 : ByteArray) (r : Bool) (w : World) (hr0_0 : Kd.C k90 w A0_0 l0_0.length l0_0) (hc0_0 : l0_0.length ≤ c0_0) (h : wF29.f k l0_0 a1 = some r) :
  Calls Tryz.prog 10 #[.agg #[.slice A0_0 l0_0.length c0_0], .string a1] w fun e w' => e = .returned (.bool r) ∧ Below w.heap.size w w' := by
 have hu24 := Tryz.underlying24
 have hu33 := Tryz.underlying33
 have HR0_0 := aM_ hr0_0
 have HC0_0 := aM_ hc0_0
 clear hr0_0 hc0_0
 have HB := aM_ (Below.refl w.heap.size w)
 have H : (if (a1.size : Int) > 1048576 then (some true) else ((wF39.f k l0_0 1048576).bind fun t843 => (if t843 < 0 then (some true) else ((wF44.f k l0_0).bind fun t844 => ((sF53.f k t844 a1).bind fun bt847 => ((wF44.f k l0_0).bind fun t849 => ((iF10.f k t849 a1).bind fun bt853 => (if bt853.1 = bt847.1 then (wF29.j0 k (bt853.2 != bt847.2) l0_0 t849) else (wF29.j0 k true l0_0 t849))))))))) = some r := h
 clear h
 by_cases c3 : (a1.size : Int) > 1048576
 ·
  rw [if_pos c3] at H
  have c3b0 := dT_ c3
  have c3b1 : decide (1048576 < a1.size) = true := dT_ (by omega)
  clear c3
  obtain rfl := Option.some.inj H
  go_enter Tryz.func10, Tryz.ntmps10
  go_wp2_with (first | (refine bx_ 2 #[.slice A0_0 l0_0.length c0_0] 24 ?_; intro gb842 hg w4 hbox hb; have BK842 := aM_ (hbox); have GW842 := gw_ hg HB; replace HB := b4_ HB hb; clear hb hbox hg))
  go_ret
  exact ⟨by rfl, by exact HB.out⟩
 rw [if_neg c3] at H
 have c3b0 := dF_ c3
 have c3b1 : decide (1048576 < a1.size) = false := dF_ (by omega)
 clear c3
 replace H := oB_.mp H
 obtain ⟨t843, A50, H⟩ := H
 try dsimp only at H
 have A5 := aM_ A50
 clear A50
 by_cases c6 : t843 < 0
 ·
  rw [if_pos c6] at H
  have c6b0 := dT_ c6
  clear c6
  obtain rfl := Option.some.inj H
  go_enter Tryz.func10, Tryz.ntmps10
  go_wp2_with (first | (refine bx_ 2 #[.slice A0_0 l0_0.length c0_0] 24 ?_; intro gb842 hg w7 hbox hb; have BK842 := aM_ (hbox); have GW842 := gw_ hg HB; replace HB := b4_ HB hb; clear hb hbox hg; have hcz8_0 := c0_ BK842; have hfz8_0 := bF_ BK842.out 0) | (refine gs_ 16 Tryz.func13 #[.agg #[.slice A0_0 l0_0.length c0_0], .int .i64 1048576] ?_; (with_reducible refine (wF39.calls k _ _ l0_0 1048576 t843 _ ?side1 HC0_0.out A5.out).mono ?_); (case side1 => repeat (first | exact (k4_ HR0_0.out HB.out) | with_reducible first | apply cA_ | apply cN_ | apply cD_)); rintro e w9 ⟨rfl, hb⟩; refine ⟨_, rfl, ?_⟩; replace BK842 := b5_ BK842 hb; replace HB := b4_ HB hb; (try clear hb)))
  go_ret
  exact ⟨by rfl, by exact HB.out⟩
 rw [if_neg c6] at H
 have c6b0 := dF_ c6
 clear c6
 replace H := oB_.mp H
 obtain ⟨t844, A100, H⟩ := H
 try dsimp only at H
 have A10 := aM_ A100
 clear A100
 replace H := oB_.mp H
 obtain ⟨⟨t847, t848⟩, A110, H⟩ := H
 try dsimp only at H
 have A11 := aM_ A110
 clear A110
 replace H := oB_.mp H
 obtain ⟨t849, A120, H⟩ := H
 try dsimp only at H
 have A12 := aM_ A120
 clear A120
 replace H := oB_.mp H
 obtain ⟨⟨t853, t854⟩, A130, H⟩ := H
 try dsimp only at H
 have A13 := aM_ A130
 clear A130
 have HC14 := aM_ H
 clear H
 go_enter Tryz.func10, Tryz.ntmps10
 go_upto_region 10 with (first | (refine bx_ 2 #[.slice A0_0 l0_0.length c0_0] 24 ?_; intro gb842 hg w15 hbox hb; have BK842 := aM_ (hbox); have GW842 := gw_ hg HB; replace HB := b4_ HB hb; clear hb hbox hg; have hcz16_0 := c0_ BK842; have hfz16_0 := bF_ BK842.out 0) | (refine gs_ 16 Tryz.func13 #[.agg #[.slice A0_0 l0_0.length c0_0], .int .i64 1048576] ?_; (with_reducible refine (wF39.calls k _ _ l0_0 1048576 t843 _ ?side1 HC0_0.out A5.out).mono ?_); (case side1 => repeat (first | exact (k4_ HR0_0.out HB.out) | with_reducible first | apply cA_ | apply cN_ | apply cD_)); rintro e w17 ⟨rfl, hb⟩; refine ⟨_, rfl, ?_⟩; replace BK842 := b5_ BK842 hb; replace HB := b4_ HB hb; (try clear hb); have hcz18_0 := c0_ BK842; have hfz18_0 := bF_ BK842.out 0) | (refine gs_ 21 Tryz.func15 #[.agg #[.slice A0_0 l0_0.length c0_0]] ?_; (with_reducible refine (wF44.calls k _ _ l0_0 t844 _ ?side1 HC0_0.out A10.out).mono ?_); (case side1 => repeat (first | exact (k4_ HR0_0.out HB.out) | with_reducible first | apply cA_ | apply cN_ | apply cD_)); rintro e w19 ⟨v845, rfl, ho0, hb⟩; refine ⟨_, rfl, ?_⟩; have HO846 := aM_ (Kd.S_lower ho0 (bZ_ HB.out)); replace BK842 := b5_ BK842 hb; replace HB := b4_ HB hb; (try clear hb); (try clear ho0); obtain ⟨Ao20, co20, eo20⟩ := Kd.S_slice HO846.out; subst eo20) | (refine gs_ 23 Tryz.func34 #[.agg #[.slice Ao20 t844.length co20], .string a1] ?_; (with_reducible refine (sF53.calls k _ _ t844 a1 t847 t848 _ ?side1 ?side2 A11.out).mono ?_); (case side1 => repeat (first | exact (Kd.S_reads' HO846.out).2.2 | with_reducible first | apply cA_ | apply cN_ | apply cD_)); (case side2 => exact (Kd.S_reads' HO846.out).2.1); rintro e w21 ⟨rfl, hb⟩; refine ⟨_, rfl, ?_⟩; replace HO846 := aM_ (Kd.S_below (by (with_reducible repeat (first | apply Kd.S_alloc | apply Kd.S_drewN | apply Kd.S_drew)); exact HO846.out) hb); replace BK842 := b5_ BK842 hb; replace HB := b4_ HB hb; (try clear hb); have hcz22_0 := c0_ BK842; have hfz22_0 := bF_ BK842.out 0) | (refine gs_ 27 Tryz.func15 #[.agg #[.slice A0_0 l0_0.length c0_0]] ?_; (with_reducible refine (wF44.calls k _ _ l0_0 t849 _ ?side1 HC0_0.out A12.out).mono ?_); (case side1 => repeat (first | exact (k4_ HR0_0.out HB.out) | with_reducible first | apply cA_ | apply cN_ | apply cD_)); rintro e w23 ⟨v850, rfl, ho0, hb⟩; refine ⟨_, rfl, ?_⟩; have HO851 := aM_ (Kd.S_lower (Kd.S_new' ho0 (Kd.S_lt (by (with_reducible repeat (first | apply Kd.S_alloc | apply Kd.S_drewN | apply Kd.S_drew)); exact HO846.out))) (bZ_ HB.out)); replace HO846 := aM_ (Kd.S_elder' (by (with_reducible repeat (first | apply Kd.S_alloc | apply Kd.S_drewN | apply Kd.S_drew)); exact HO846.out) (Kd.S_base ho0) hb); replace BK842 := b5_ BK842 hb; replace HB := b4_ HB hb; (try clear hb); (try clear ho0)) | (refine bx_ 8 #[.slice none 0 0] 33 ?_; intro gb852 hg w24 hbox hb; replace HO846 := aM_ (Kd.S_below (by (with_reducible repeat (first | apply Kd.S_alloc | apply Kd.S_drewN | apply Kd.S_drew)); exact HO846.out) hb); replace HO851 := aM_ (Kd.S_below (by (with_reducible repeat (first | apply Kd.S_alloc | apply Kd.S_drewN | apply Kd.S_drew)); exact HO851.out) hb); have BK852 := aM_ (hbox); have GW852 := gw_ hg HB; replace HB := b4_ HB hb; have NB842_852 := nb_ hg BK842; have NB852_842 := ns_ NB842_852; replace BK842 := b5_ BK842 hb; clear hb hbox hg; obtain ⟨Ao25, co25, eo25⟩ := Kd.S_slice HO851.out; subst eo25; have hnb26 := NB852_842.out; have hnc26 := NB842_852.out; have hcz27_0 := c0_ BK852; have hfz27_0 := bF_ BK852.out 0) | (refine gs_ 31 Tryz.func35 #[.agg #[.slice Ao25 t849.length co25], .string a1] ?_; (with_reducible refine (iF10.calls k _ _ t849 a1 t853 t854 _ ?side1 ?side2 A13.out).mono ?_); (case side1 => refine (Kd.S_reads' (e := 72) (base := w.heap.size) (ok := fun k_ => (True ∧ some k_ ≠ (.slice Ao20 t844.length co20 : Value).ownBlock)) (n := t849.length) (c := co25) ?_).2.2; exact (by (with_reducible repeat (first | apply Kd.S_alloc | apply Kd.S_drewN | apply Kd.S_drew)); exact (Kd.S_mono (Kd.S_far (p := ⟨gb852, 0, none⟩) (Kd.S_types HO851.out BK852.out (by decide)) (fun _ hk => hk.2) (.slice Ao25 t849.length co25)) (fun _ h_ => h_.1)))); (case side2 => exact (Kd.S_reads' HO851.out).2.1); rintro e w28 ⟨rfl, hb⟩; refine ⟨_, rfl, ?_⟩; replace HO846 := aM_ (Kd.S_below (by (with_reducible repeat (first | apply Kd.S_alloc | apply Kd.S_drewN | apply Kd.S_drew)); exact (Kd.S_mono (Kd.S_far (p := ⟨gb852, 0, none⟩) (Kd.S_types HO846.out BK852.out (by decide)) (fun _ hk => hk.2) (.slice Ao25 t849.length co25)) (fun _ h_ => h_.1))) hb); replace HO851 := aM_ (Kd.S_below (by (with_reducible repeat (first | apply Kd.S_alloc | apply Kd.S_drewN | apply Kd.S_drew)); exact (Kd.S_mono (Kd.S_far (p := ⟨gb852, 0, none⟩) (Kd.S_types HO851.out BK852.out (by decide)) (fun _ hk => hk.2) (.slice Ao25 t849.length co25)) (fun _ h_ => h_.1))) hb); replace BK842 := aM_ (bB_ (g := gb842) (o := .cells #[.slice A0_0 l0_0.length c0_0] 24 (0, 0)) (by exact br_ NB842_852.out (BK842.out)) hb); replace BK852 := aM_ (bB_ (g := gb852) (o := .cells #[.slice Ao25 t849.length co25] 33 (0, 0)) (by refine bP_ (cs := #[.slice none 0 0]) ?_ 0 _ rfl; exact BK852.out) hb); replace HB := aM_ (bT_ (by repeat with_reducible first | exact HB.out | apply bA_ | apply bN_ | apply bD_ | refine bS_ ?_ (Aside0.out ‹_›)) hb); (try clear hb)))
 (try simp only [Act.put, sA_, sB_, sC_])
 go_cut [41] (fun v41 wc => ∃ (kq : Nat) (x41_13 : Bool), v41 = .bool x41_13 ∧ Aside0 (wF29.j0 kq x41_13 l0_0 t849 = some r) ∧ Aside0 (kq ≤ k) ∧ Aside0 (Kd.S k72 72 wc w.heap.size (fun _ => True) (.slice Ao25 t849.length co25) t849) ∧ Aside0 (wc.heap[gb842]? = some (.cells #[(.slice A0_0 l0_0.length c0_0)] 24 (0, 0))) ∧ Aside0 (wc.heap[gb852]? = some (.cells #[(.slice Ao25 t849.length co25)] 33 (0, 0))) ∧ Aside0 (Below w.heap.size w wc))
 case first =>
  have H := HC14.out
  clear HC14
  by_cases c29 : t853 = t847
  ·
   rw [if_pos c29] at H
   have c29b0 : (t853 == t847) = true := beq_iff_eq.mpr c29
   have c29b1 : (t853 != t847) = false := bne_eq_false_iff_eq.mpr c29
   clear c29
   (skip)
   have H' := aM_ H
   clear H
   go_wp2
   go_meet
   case rel => exact ⟨_, ((t854 != t848)), (by rfl), H', ⟨by omega⟩, ⟨by (with_reducible repeat (first | apply Kd.S_alloc | apply Kd.S_drewN | apply Kd.S_drew)); exact Kd.S_mono HO851.out (fun _ hk => trivial)⟩, ⟨BK842.out⟩, ⟨BK852.out⟩, ⟨HB.out⟩⟩
  rw [if_neg c29] at H
  have c29b0 : (t853 == t847) = false := beq_eq_false_iff_ne.mpr c29
  have c29b1 : (t853 != t847) = true := bne_iff_ne.mpr c29
  (skip)
  have H' := aM_ H
  clear H
  go_wp2
  go_meet
  case rel => exact ⟨_, (true), (by rfl), H', ⟨by omega⟩, ⟨by (with_reducible repeat (first | apply Kd.S_alloc | apply Kd.S_drewN | apply Kd.S_drew)); exact Kd.S_mono HO851.out (fun _ hk => trivial)⟩, ⟨BK842.out⟩, ⟨BK852.out⟩, ⟨HB.out⟩⟩
 clear HC14
 try clear p2
 try clear c3b0
 try clear c3b1
 try clear c6b0
 try clear c29b0
 try clear c29b1
 try clear hcz16_0
 try clear hcz18_0
 try clear hcz22_0
 try clear hcz27_0
 try clear hcz8_0
 try clear hfz16_0
 try clear hfz18_0
 try clear hfz22_0
 try clear hfz27_0
 try clear hfz8_0
 obtain ⟨kq, x41_13, rfl, HA, HJ13, HO_853000, BK842, BK852, HB⟩ := hcut
 cases kq with
 | zero => exact absurd HA.out (by simp [wF29.j0])
 | succ kj13 =>
  have H := HA.out
  clear HA
  simp only [wF29.j0] at H
  by_cases c30 : x41_13 = true
  ·
   subst c30
   rw [if_pos rfl] at H
   obtain rfl := Option.some.inj H
   go_wp2
   go_ret
   exact ⟨by rfl, by exact HB.out⟩
  replace c30 := Bool.eq_false_iff.mpr c30
  subst c30
  replace H : ((wF44.f kj13 l0_0).bind fun t855 => ((wF32.f kj13 t849 t855).bind fun t858 => (if t858 = true then (some true) else (some false)))) = some r := by rw [if_neg (show ¬ (false = true) by decide)] at H; exact H
  replace H := oB_.mp H
  obtain ⟨t855, A310, H⟩ := H
  try dsimp only at H
  have A31 := aM_ A310
  clear A310
  replace H := oB_.mp H
  obtain ⟨t858, A320, H⟩ := H
  try dsimp only at H
  have A32 := aM_ A320
  clear A320
  by_cases c33 : t858 = true
  ·
   subst c33
   rw [if_pos rfl] at H
   obtain rfl := Option.some.inj H
   try go_wp2
   have n0_ := aM_ (Kd.S_drew HO_853000.out)
   have n1_ := aM_ (b1_ BK842.out)
   have n2_ := aM_ (b1_ BK852.out)
   have n3_ := aM_ (bD_ HB.out)
   clear HO_853000
   clear BK842
   clear BK852
   clear HB
   have HO_853000 := n0_
   have BK842 := n1_
   have BK852 := n2_
   have HB := n3_
   clear n0_ n1_ n2_ n3_
   refine start_ (n := 5) (S := fun w' => w'.cell? ⟨gb852, 0, none⟩ = some (.slice Ao25 t849.length co25) ∧ w'.cell? ⟨gb842, 0, none⟩ = some (.slice A0_0 l0_0.length c0_0)) (ds := []) #[fy, fy, fy, fy, fy] (by kernel_rfl) rfl rfl ⟨(bC_ BK852.out 0).trans rfl, (bC_ BK842.out 0).trans rfl⟩ (fun hHeld => ?_)
   generalize wc.drew = w34 at HO_853000 BK842 BK852 HB hHeld ⊢
   refine take_ (i := 0) (N := some 42) (v := ?_) (a' := ?_) #[ty, fy, fy, fy, fy] rfl rfl (by kernel_rfl) (fun _ _ _ h => h) (Or.inl ⟨by rfl, ?_⟩) hHeld ?_ ?_; rotate_left; (rintro w' ⟨s0, s1⟩; go_simp; with_reducible rfl); rotate_left; (simp only [Act.put, sA_, sB_, sC_, i6_, i3_]; rfl)
   refine take_ (i := 1) (N := some 43) (v := ?_) (a' := ?_) #[ty, ty, fy, fy, fy] rfl rfl (by kernel_rfl) (fun _ _ _ h => h) (Or.inl ⟨by rfl, ?_⟩) hHeld ?_ ?_; rotate_left; (rintro w' ⟨s0, s1⟩; go_simp; with_reducible rfl); rotate_left; (simp only [Act.put, sA_, sB_, sC_, i6_, i3_]; rfl)
   refine one_ (i := 2) (N := some 44) #[ty, ty, ty, fy, fy] rfl rfl (by kernel_rfl) (by decide) (fun K hK => ?_)
   refine goes_ Tryz.func15 (by kernel_rfl) rfl #[.agg #[.slice A0_0 l0_0.length c0_0]] (by rfl) rfl rfl (by (try simp only [sD_, sE_, sF_]); rfl) ?_
   with_reducible refine (wF44.calls kj13 _ _ l0_0 t855 _ ?side1 ?side2 A31.out).mono ?_
   (case side1 => repeat (first | exact (k4_ HR0_0.out HB.out) | with_reducible first | apply cA_ | apply cN_ | apply cD_))
   (case side2 => exact HC0_0.out)
   rintro e w35 ⟨v856, rfl, ho0, hb⟩
   refine ⟨_, rfl, ?_⟩
   have n0_ := aM_ (Kd.S_elder' (by (with_reducible repeat (first | apply Kd.S_alloc | apply Kd.S_drewN | apply Kd.S_drew)); exact HO_853000.out) (Kd.S_base ho0) hb)
   have n1_ := aM_ (Kd.S_lower (Kd.S_new' ho0 (Kd.S_lt (by (with_reducible repeat (first | apply Kd.S_alloc | apply Kd.S_drewN | apply Kd.S_drew)); exact HO_853000.out))) (bZ_ HB.out))
   have n2_ := b5_ BK842 hb
   have n3_ := b5_ BK852 hb
   have n4_ := b4_ HB hb
   clear HO_853000
   clear BK842
   clear BK852
   clear HB
   have HO_853000 := n0_
   have HO857 := n1_
   have BK842 := n2_
   have BK852 := n3_
   have HB := n4_
   clear n0_ n1_ n2_ n3_ n4_
   (try clear hb)
   (try clear ho0)
   obtain ⟨Ao36, co36, eo36⟩ := Kd.S_slice HO857.out
   (subst eo36)
   refine hK.out _ _ ⟨(bC_ BK852.out 0).trans rfl, (bC_ BK842.out 0).trans rfl⟩ (fun hHeld => ?_)
   clear hK K
   refine norm_ (by show Act.put _ (some 44) _ = _; simp only [Act.put, sA_, sB_, sC_, i6_, i3_]; rfl) ?_
   refine one_ (i := 3) (N := some 45) #[ty, ty, ty, ty, fy] rfl rfl (by kernel_rfl) (by decide) (fun K hK => ?_)
   refine goes_ Tryz.func18 (by kernel_rfl) rfl #[.agg #[.slice Ao25 t849.length co25], .agg #[.slice Ao36 t855.length co36]] (by rfl) rfl rfl (by (try simp only [sD_, sE_, sF_]); rfl) ?_
   with_reducible refine (wF32.calls kj13 _ _ t849 _ _ t855 true _ ?side1 ?side2 ?side3 ?side4 A32.out).mono ?_
   (case side1 => repeat (first | exact (Kd.S_reads' HO_853000.out).2.2 | with_reducible first | apply cA_ | apply cN_ | apply cD_))
   (case side2 => exact (Kd.S_reads' HO_853000.out).2.1)
   (case side3 => repeat (first | exact (Kd.S_reads' HO857.out).2.2 | with_reducible first | apply cA_ | apply cN_ | apply cD_))
   (case side4 => exact (Kd.S_reads' HO857.out).2.1)
   rintro e w37 ⟨rfl, hb⟩
   refine ⟨_, rfl, ?_⟩
   have n0_ := aM_ (Kd.S_below (by (with_reducible repeat (first | apply Kd.S_alloc | apply Kd.S_drewN | apply Kd.S_drew)); exact HO_853000.out) hb)
   have n1_ := aM_ (Kd.S_below (by (with_reducible repeat (first | apply Kd.S_alloc | apply Kd.S_drewN | apply Kd.S_drew)); exact HO857.out) hb)
   have n2_ := b5_ BK842 hb
   have n3_ := b5_ BK852 hb
   have n4_ := b4_ HB hb
   clear HO_853000
   clear HO857
   clear BK842
   clear BK852
   clear HB
   have HO_853000 := n0_
   have HO857 := n1_
   have BK842 := n2_
   have BK852 := n3_
   have HB := n4_
   clear n0_ n1_ n2_ n3_ n4_
   (try clear hb)
   refine hK.out _ _ ⟨(bC_ BK852.out 0).trans rfl, (bC_ BK842.out 0).trans rfl⟩ (fun hHeld => ?_)
   clear hK K
   refine norm_ (by show Act.put _ (some 45) _ = _; simp only [Act.put, sA_, sB_, sC_, i6_, i3_]; rfl) ?_
   refine pure_ (i := 4) (N := some 46) (v := ?_) (a' := ?_) #[ty, ty, ty, ty, ty] rfl rfl (by kernel_rfl) (fun _ _ _ h => h) (Or.inl ⟨by rfl, ?_⟩) ?_ ?_; rotate_left; (intro w'; go_simp; with_reducible rfl); rotate_left; (simp only [Act.put, sA_, sB_, sC_, i6_, i3_]; rfl)
   refine done_ (by kernel_rfl) ?_
   try go_wp2
   go_ret
   exact ⟨by rfl, by exact HB.out⟩
  replace c33 := Bool.eq_false_iff.mpr c33
  subst c33
  replace H : (some false) = some r := by rw [if_neg (show ¬ (false = true) by decide)] at H; exact H
  obtain rfl := Option.some.inj H
  try go_wp2
  have n0_ := aM_ (Kd.S_drew HO_853000.out)
  have n1_ := aM_ (b1_ BK842.out)
  have n2_ := aM_ (b1_ BK852.out)
  have n3_ := aM_ (bD_ HB.out)
  clear HO_853000
  clear BK842
  clear BK852
  clear HB
  have HO_853000 := n0_
  have BK842 := n1_
  have BK852 := n2_
  have HB := n3_
  clear n0_ n1_ n2_ n3_
  refine start_ (n := 5) (S := fun w' => w'.cell? ⟨gb852, 0, none⟩ = some (.slice Ao25 t849.length co25) ∧ w'.cell? ⟨gb842, 0, none⟩ = some (.slice A0_0 l0_0.length c0_0)) (ds := []) #[fy, fy, fy, fy, fy] (by kernel_rfl) rfl rfl ⟨(bC_ BK852.out 0).trans rfl, (bC_ BK842.out 0).trans rfl⟩ (fun hHeld => ?_)
  generalize wc.drew = w38 at HO_853000 BK842 BK852 HB hHeld ⊢
  refine take_ (i := 0) (N := some 42) (v := ?_) (a' := ?_) #[ty, fy, fy, fy, fy] rfl rfl (by kernel_rfl) (fun _ _ _ h => h) (Or.inl ⟨by rfl, ?_⟩) hHeld ?_ ?_; rotate_left; (rintro w' ⟨s0, s1⟩; go_simp; with_reducible rfl); rotate_left; (simp only [Act.put, sA_, sB_, sC_, i6_, i3_]; rfl)
  refine take_ (i := 1) (N := some 43) (v := ?_) (a' := ?_) #[ty, ty, fy, fy, fy] rfl rfl (by kernel_rfl) (fun _ _ _ h => h) (Or.inl ⟨by rfl, ?_⟩) hHeld ?_ ?_; rotate_left; (rintro w' ⟨s0, s1⟩; go_simp; with_reducible rfl); rotate_left; (simp only [Act.put, sA_, sB_, sC_, i6_, i3_]; rfl)
  refine one_ (i := 2) (N := some 44) #[ty, ty, ty, fy, fy] rfl rfl (by kernel_rfl) (by decide) (fun K hK => ?_)
  refine goes_ Tryz.func15 (by kernel_rfl) rfl #[.agg #[.slice A0_0 l0_0.length c0_0]] (by rfl) rfl rfl (by (try simp only [sD_, sE_, sF_]); rfl) ?_
  with_reducible refine (wF44.calls kj13 _ _ l0_0 t855 _ ?side1 ?side2 A31.out).mono ?_
  (case side1 => repeat (first | exact (k4_ HR0_0.out HB.out) | with_reducible first | apply cA_ | apply cN_ | apply cD_))
  (case side2 => exact HC0_0.out)
  rintro e w39 ⟨v856, rfl, ho0, hb⟩
  refine ⟨_, rfl, ?_⟩
  have n0_ := aM_ (Kd.S_elder' (by (with_reducible repeat (first | apply Kd.S_alloc | apply Kd.S_drewN | apply Kd.S_drew)); exact HO_853000.out) (Kd.S_base ho0) hb)
  have n1_ := aM_ (Kd.S_lower (Kd.S_new' ho0 (Kd.S_lt (by (with_reducible repeat (first | apply Kd.S_alloc | apply Kd.S_drewN | apply Kd.S_drew)); exact HO_853000.out))) (bZ_ HB.out))
  have n2_ := b5_ BK842 hb
  have n3_ := b5_ BK852 hb
  have n4_ := b4_ HB hb
  clear HO_853000
  clear BK842
  clear BK852
  clear HB
  have HO_853000 := n0_
  have HO857 := n1_
  have BK842 := n2_
  have BK852 := n3_
  have HB := n4_
  clear n0_ n1_ n2_ n3_ n4_
  (try clear hb)
  (try clear ho0)
  obtain ⟨Ao40, co40, eo40⟩ := Kd.S_slice HO857.out
  (subst eo40)
  refine hK.out _ _ ⟨(bC_ BK852.out 0).trans rfl, (bC_ BK842.out 0).trans rfl⟩ (fun hHeld => ?_)
  clear hK K
  refine norm_ (by show Act.put _ (some 44) _ = _; simp only [Act.put, sA_, sB_, sC_, i6_, i3_]; rfl) ?_
  refine one_ (i := 3) (N := some 45) #[ty, ty, ty, ty, fy] rfl rfl (by kernel_rfl) (by decide) (fun K hK => ?_)
  refine goes_ Tryz.func18 (by kernel_rfl) rfl #[.agg #[.slice Ao25 t849.length co25], .agg #[.slice Ao40 t855.length co40]] (by rfl) rfl rfl (by (try simp only [sD_, sE_, sF_]); rfl) ?_
  with_reducible refine (wF32.calls kj13 _ _ t849 _ _ t855 false _ ?side1 ?side2 ?side3 ?side4 A32.out).mono ?_
  (case side1 => repeat (first | exact (Kd.S_reads' HO_853000.out).2.2 | with_reducible first | apply cA_ | apply cN_ | apply cD_))
  (case side2 => exact (Kd.S_reads' HO_853000.out).2.1)
  (case side3 => repeat (first | exact (Kd.S_reads' HO857.out).2.2 | with_reducible first | apply cA_ | apply cN_ | apply cD_))
  (case side4 => exact (Kd.S_reads' HO857.out).2.1)
  rintro e w41 ⟨rfl, hb⟩
  refine ⟨_, rfl, ?_⟩
  have n0_ := aM_ (Kd.S_below (by (with_reducible repeat (first | apply Kd.S_alloc | apply Kd.S_drewN | apply Kd.S_drew)); exact HO_853000.out) hb)
  have n1_ := aM_ (Kd.S_below (by (with_reducible repeat (first | apply Kd.S_alloc | apply Kd.S_drewN | apply Kd.S_drew)); exact HO857.out) hb)
  have n2_ := b5_ BK842 hb
  have n3_ := b5_ BK852 hb
  have n4_ := b4_ HB hb
  clear HO_853000
  clear HO857
  clear BK842
  clear BK852
  clear HB
  have HO_853000 := n0_
  have HO857 := n1_
  have BK842 := n2_
  have BK852 := n3_
  have HB := n4_
  clear n0_ n1_ n2_ n3_ n4_
  (try clear hb)
  refine hK.out _ _ ⟨(bC_ BK852.out 0).trans rfl, (bC_ BK842.out 0).trans rfl⟩ (fun hHeld => ?_)
  clear hK K
  refine norm_ (by show Act.put _ (some 45) _ = _; simp only [Act.put, sA_, sB_, sC_, i6_, i3_]; rfl) ?_
  refine pure_ (i := 4) (N := some 46) (v := ?_) (a' := ?_) #[ty, ty, ty, ty, ty] rfl rfl (by kernel_rfl) (fun _ _ _ h => h) (Or.inl ⟨by rfl, ?_⟩) ?_ ?_; rotate_left; (intro w'; go_simp; with_reducible rfl); rotate_left; (simp only [Act.put, sA_, sB_, sC_, i6_, i3_]; rfl)
  refine done_ (by kernel_rfl) ?_
  try go_wp2
  go_ret
  exact ⟨by rfl, by exact HB.out⟩
def wF29.Pure : Prop := ∀ (l0_0 : List S90) (a1 : ByteArray), l0_0.length ≤ 9223372036854775807 → (∀ x ∈ l0_0, x.f1.length ≤ 9223372036854775807) → a1.size ≤ 140737488351232 → ∃ k, wF29.f k l0_0 a1 = some true
theorem wF29.walk (P : wF29.Pure) (w : World) (A0 : Option Addr) (c0 : Nat) (l0_0 : List S90) (hr0 : Kd.C k90 w A0 l0_0.length l0_0) (hc0 : l0_0.length ≤ c0) (a1 : ByteArray) (w1 : a1.size ≤ 140737488351232) :
  Calls Tryz.prog 10 #[.agg #[.slice A0 l0_0.length c0], .string a1] w fun e w' => e = .returned (.bool true) ∧ Below w.heap.size w w' := by
 obtain ⟨k, h⟩ := P l0_0 a1 hr0.2.1 (by intro x hx; obtain ⟨i, hi, rfl⟩ := List.getElem_of_mem hx; obtain ⟨_, _, _, _, _, _, _, h9⟩ := at_T90 hr0 (i : Int) (by omega) (by omega); have h8 := h9.2.1; unfold rd_T90 at h8; rw [Int.toNat_natCast, List.getD_eq_getElem?_getD, List.getElem?_eq_getElem hi] at h8; exact h8) w1
 refine (wF29.calls k _ _ l0_0 a1 true w hr0 hc0 h).mono ?_
 rintro e w' ⟨rfl, hd⟩
 exact ⟨rfl, hd⟩
end Go.Proofs.YtnnkedeohfbkeaaGreatDoor.P
namespace Go.Proofs.YtnnkedeohfbkeaaGreatDoor.M
theorem txt_lt_snoc : ∀ (p : Txt) (x : UInt8), p < p ++ [x]
 | [], x => List.nil_lt_cons x []
 | a :: p, x => List.cons_lt_cons_iff.2 (.inr ⟨rfl, txt_lt_snoc p x⟩)
theorem dropLast_getD (p : Txt) (h : p ≠ []) : p.dropLast ++ [p.getD (p.length - 1) 0] = p := by
 have h0 := List.length_pos_iff.2 h
 have h1 : p.length - 1 < p.length := by omega
 rw [List.dropLast_eq_take, getD_lt 0 h1, ← List.take_succ_eq_append_getElem h1, List.take_of_length_le (by omega)]
theorem txt_dropLast_lt (p : Txt) (h : p ≠ []) : p.dropLast < p := by
 have := txt_lt_snoc p.dropLast (p.getD (p.length - 1) 0)
 rwa [dropLast_getD p h] at this
def Clo (P : List Txt) : Prop := [] ∈ P ∧ ∀ p ∈ P, p ≠ [] → p.dropLast ∈ P
def begs (w : Txt) : List Txt := (List.range w.length).map fun n => w.take (n + 1)
def preL (ws : List Txt) : List Txt := setL ([] :: ws.flatMap begs)
theorem mem_begs {w p : Txt} : p ∈ begs w ↔ p ≠ [] ∧ p <+: w := by
 constructor
 ·
  intro h
  obtain ⟨n, hn, rfl⟩ := List.mem_map.1 h
  rw [List.mem_range] at hn
  exact ⟨fun e => by have := congrArg List.length e; rw [List.length_take, List.length_nil] at this; omega, List.take_prefix _ _⟩
 rintro ⟨h1, h2⟩
 have h3 := h2.length_le
 have h4 := List.length_pos_iff.2 h1
 refine List.mem_map.2 ⟨p.length - 1, List.mem_range.2 (by omega), ?_⟩
 rw [show p.length - 1 + 1 = p.length from by omega]
 exact (List.prefix_iff_eq_take.1 h2).symm
theorem mem_preL {ws : List Txt} {p : Txt} : p ∈ preL ws ↔ p = [] ∨ ∃ w ∈ ws, p ≠ [] ∧ p <+: w := by
 unfold preL
 rw [mem_setL, List.mem_cons, List.mem_flatMap]
 simp only [mem_begs]
theorem clo_preL (ws : List Txt) : Clo (preL ws) := by
 refine ⟨mem_preL.2 (.inl rfl), fun p hp hne => ?_⟩
 rcases mem_preL.1 hp with rfl | ⟨w, hw, _, h⟩
 ·
  exact absurd rfl hne
 by_cases h0 : p.dropLast = []
 ·
  rw [h0]; exact mem_preL.2 (.inl rfl)
 exact mem_preL.2 (.inr ⟨w, hw, h0, (List.dropLast_prefix p).trans h⟩)
theorem asc_preL (ws : List Txt) : Asc (preL ws) := asc_setL _
theorem self_preL {ws : List Txt} {w : Txt} (h : w ∈ ws) : w ∈ preL ws := by
 by_cases h0 : w = []
 ·
  rw [h0]; exact mem_preL.2 (.inl rfl)
 exact mem_preL.2 (.inr ⟨w, h, h0, List.prefix_refl _⟩)
theorem preL_congr {ws vs : List Txt} (h : ∀ w, w ∈ ws ↔ w ∈ vs) : preL ws = preL vs :=
 asc_ext _ _ (asc_preL _) (asc_preL _) fun y => by rw [mem_preL, mem_preL]; simp only [h]
theorem foldl_putL_len : ∀ (l acc : List Txt), (l.foldl putL acc).length ≤ acc.length + l.length
 | [], _ => Nat.le_refl _
 | x :: l, acc => by
  have h1 := foldl_putL_len l (putL acc x)
  have h2 := putL_length_le acc x
  rw [List.foldl_cons, List.length_cons]; omega
theorem setL_length_le (l : List Txt) : (setL l).length ≤ l.length := by have := foldl_putL_len l []; simpa [setL] using this
theorem begs_length (w : Txt) : (begs w).length = w.length := by simp [begs]
theorem flatMap_begs_length : ∀ (ws : List Txt), (∀ w ∈ ws, w.length ≤ 12) → (ws.flatMap begs).length ≤ 12 * ws.length
 | [], _ => by simp
 | w :: ws, h => by
  have h1 := flatMap_begs_length ws fun x hx => h x (List.mem_cons_of_mem _ hx)
  have h2 := h w (by simp)
  rw [List.flatMap_cons, List.length_append, begs_length, List.length_cons]; omega
theorem preL_length {ws : List Txt} (h : ∀ w ∈ ws, w.length ≤ 12) : (preL ws).length ≤ 12 * ws.length + 1 := by
 have h1 := flatMap_begs_length ws h
 have h2 := setL_length_le ([] :: ws.flatMap begs)
 unfold preL
 rw [List.length_cons] at h2
 omega
def placeL : List Txt → Txt → Nat
 | [], _ => 0
 | x :: r, p => if x = p then 0 else placeL r p + 1
theorem placeL_mem : ∀ {P : List Txt} {p : Txt}, p ∈ P → placeL P p < P.length ∧ P.getD (placeL P p) [] = p
 | [], _, h => by simp at h
 | x :: r, p, h => by
  by_cases h0 : x = p
  ·
   simp [placeL, h0]
  have h1 : p ∈ r := by
   rcases List.mem_cons.1 h with e | e
   ·
    exact absurd e.symm h0
   exact e
  obtain ⟨h2, h3⟩ := placeL_mem h1
  simp only [placeL, if_neg h0, List.length_cons]
  exact ⟨by omega, by simpa using h3⟩
theorem getD_mem {P : List Txt} {i : Nat} (h : i < P.length) : P.getD i [] ∈ P := by rw [getD_lt [] h]; exact List.getElem_mem h
theorem asc_get {P : List Txt} (hA : Asc P) {i j : Nat} (hj : j < P.length) (hij : i < j) : P.getD i [] < P.getD j [] := by
 have := List.pairwise_iff_getElem.1 hA i j (by omega) hj hij
 rwa [getD_lt [] hj, getD_lt [] (show i < P.length by omega)]
theorem asc_get_lt {P : List Txt} (hA : Asc P) {i j : Nat} (hi : i < P.length) (hj : j < P.length) (h : P.getD i [] < P.getD j []) : i < j := by
 rcases Nat.lt_trichotomy i j with h1 | h1 | h1
 ·
  exact h1
 ·
  subst h1; exact absurd h (txt_irrefl _)
 exact absurd (asc_get hA hi h1) (txt_asymm h)
theorem asc_inj {P : List Txt} (hA : Asc P) {i j : Nat} (hi : i < P.length) (hj : j < P.length) (h : P.getD i [] = P.getD j []) : i = j := by
 rcases Nat.lt_trichotomy i j with h1 | h1 | h1
 ·
  exact absurd (h ▸ asc_get hA hj h1) (txt_irrefl _)
 ·
  exact h1
 exact absurd (h ▸ asc_get hA hi h1) (txt_irrefl _)
theorem placeL_get {P : List Txt} (hA : Asc P) {i : Nat} (hi : i < P.length) : placeL P (P.getD i []) = i := by
 obtain ⟨h1, h2⟩ := placeL_mem (getD_mem hi)
 exact asc_inj hA h1 hi h2
theorem clo_zero {P : List Txt} (hA : Asc P) (hC : Clo P) : 0 < P.length ∧ P.getD 0 [] = [] := by
 obtain ⟨h1, h2⟩ := placeL_mem hC.1
 refine ⟨by omega, ?_⟩
 rcases Nat.eq_zero_or_pos (placeL P []) with h0 | h0
 ·
  rwa [h0] at h2
 have := asc_get hA h1 h0
 rw [h2] at this
 exact absurd this (List.not_lt_nil _)
theorem clo_pos {P : List Txt} (hA : Asc P) (hC : Clo P) {i : Nat} (hi : i < P.length) (h0 : 0 < i) : P.getD i [] ≠ [] := fun e => by
 obtain ⟨h1, h2⟩ := clo_zero hA hC
 have := asc_inj hA hi h1 (e.trans h2.symm)
 omega
theorem clo_parent {P : List Txt} (hA : Asc P) (hC : Clo P) {i : Nat} (hi : i < P.length) (h0 : 0 < i) :
  placeL P (P.getD i []).dropLast < i ∧ P.getD (placeL P (P.getD i []).dropLast) [] = (P.getD i []).dropLast := by
 have hne := clo_pos hA hC hi h0
 obtain ⟨h1, h2⟩ := placeL_mem (hC.2 _ (getD_mem hi) hne)
 exact ⟨asc_get_lt hA h1 hi (by rw [h2]; exact txt_dropLast_lt _ hne), h2⟩
def ltrOf (p : Txt) : Int := (((p.getD (p.length - 1) 0).toNat : Int) - 97) % 256
def ndL (P ws : List Txt) (p : Txt) : Int × Int × Bool := (if p = [] then -1 else ltrOf p, if p = [] then -1 else (placeL P p.dropLast : Int), decide (p ∈ ws))
def nodesL (P ws : List Txt) : List (Int × Int × Bool) := P.map (ndL P ws)
def wordL (w : Txt) : Bool := w.all letterB && decide (w.length ≤ 12)
structure OkW (ws : List Txt) : Prop where
 asc : Asc ws
 len : ws.length ≤ 40
 word : ∀ w ∈ ws, wordL w = true
theorem wordL_iff {w : Txt} : wordL w = true ↔ (∀ c ∈ w, letterB c = true) ∧ w.length ≤ 12 := by
 unfold wordL
 rw [Bool.and_eq_true, List.all_eq_true, decide_eq_true_eq]
theorem OkW.le {ws : List Txt} (h : OkW ws) : ∀ w ∈ ws, w.length ≤ 12 := fun w hw => (wordL_iff.1 (h.word w hw)).2
theorem OkW.pre {ws : List Txt} (h : OkW ws) : (preL ws).length ≤ 481 := by
 have h1 := preL_length h.le
 have h2 := h.len
 omega
theorem wordL_pre {p w : Txt} (h : p <+: w) (hw : wordL w = true) : wordL p = true := by
 obtain ⟨h1, h2⟩ := wordL_iff.1 hw
 exact wordL_iff.2 ⟨fun c hc => h1 c (h.subset hc), Nat.le_trans h.length_le h2⟩
theorem preL_word {ws : List Txt} (h : ∀ w ∈ ws, wordL w = true) {p : Txt} (hp : p ∈ preL ws) : wordL p = true := by
 rcases mem_preL.1 hp with rfl | ⟨w, hw, _, h1⟩
 ·
  rfl
 exact wordL_pre h1 (h w hw)
theorem letter_bd {c : UInt8} (h : letterB c = true) : 97 ≤ c.toNat ∧ c.toNat ≤ 122 := by simpa [letterB] using h
theorem getLast_mem {p : Txt} (h : p ≠ []) : p.getD (p.length - 1) 0 ∈ p := by
 have := List.length_pos_iff.2 h
 rw [getD_lt 0 (show p.length - 1 < p.length by omega)]
 exact List.getElem_mem _
theorem ltrOf_bd {p : Txt} (hw : wordL p = true) (h : p ≠ []) : ltrOf p = ((p.getD (p.length - 1) 0).toNat : Int) - 97 ∧ 0 ≤ ltrOf p ∧ ltrOf p ≤ 25 := by
 have h1 := letter_bd ((wordL_iff.1 hw).1 _ (getLast_mem h))
 unfold ltrOf
 omega
theorem filter_preL {ws : List Txt} (h : Asc ws) : (preL ws).filter (fun p => decide (p ∈ ws)) = ws := by
 refine asc_ext _ _ ((asc_preL ws).filter _) h fun y => ?_
 rw [List.mem_filter, decide_eq_true_eq]
 exact ⟨fun h => h.2, fun h => ⟨self_preL h, h⟩⟩
def kidsL (P : List Txt) (p : Txt) : List Txt := P.filter fun q => decide (q ≠ [] ∧ q.dropLast = p)
def hasPre (s p : List UInt8) : Bool := s.take p.length == p
theorem hasPre_pre {s p : Txt} : hasPre s p = true ↔ p <+: s := by
 unfold hasPre
 rw [beq_iff_eq]
 exact ⟨fun h => h ▸ List.take_prefix _ _, fun h => (List.prefix_iff_eq_take.1 h).symm⟩
def behL (ws : List Txt) (p : Txt) : List Txt := (ws.filter fun w => hasPre w p).map fun w => w.drop p.length
def succL (b : List Txt) (c : UInt8) : List Txt := (b.filter fun w => hasPre w [c]).map fun w => w.drop 1
theorem mem_behL {ws : List Txt} {p x : Txt} : x ∈ behL ws p ↔ p ++ x ∈ ws := by
 unfold behL
 rw [List.mem_map]
 constructor
 ·
  rintro ⟨w, hw, rfl⟩
  obtain ⟨h1, h2⟩ := List.mem_filter.1 hw
  obtain ⟨r, rfl⟩ := hasPre_pre.1 h2
  rw [List.drop_left]
  exact h1
 intro h
 exact ⟨p ++ x, List.mem_filter.2 ⟨h, hasPre_pre.2 (List.prefix_append _ _)⟩, List.drop_left⟩
theorem mem_succL {b : List Txt} {c : UInt8} {x : Txt} : x ∈ succL b c ↔ c :: x ∈ b := mem_behL (p := [c])
theorem append_ltL : ∀ (p : Txt) {x y : Txt}, p ++ x < p ++ y → x < y
 | [], _, _, h => h
 | a :: p, x, y, h => by
  rcases List.cons_lt_cons_iff.1 h with h | ⟨_, h⟩
  ·
   exact absurd h (UInt8.lt_irrefl _)
  exact append_ltL p h
theorem lt_appendL : ∀ (p : Txt) {x y : Txt}, x < y → p ++ x < p ++ y
 | [], _, _, h => h
 | _ :: p, _, _, h => List.cons_lt_cons_iff.2 (.inr ⟨rfl, lt_appendL p h⟩)
theorem asc_behL {ws : List Txt} (h : Asc ws) (p : Txt) : Asc (behL ws p) := by
 unfold behL Asc
 rw [List.pairwise_map]
 refine List.Pairwise.imp_of_mem ?_ (List.Pairwise.filter _ h)
 intro a b ha hb hab
 obtain ⟨r, rfl⟩ := hasPre_pre.1 (List.mem_filter.1 ha).2
 obtain ⟨q, rfl⟩ := hasPre_pre.1 (List.mem_filter.1 hb).2
 rw [List.drop_left, List.drop_left]
 exact append_ltL p hab
theorem asc_succL {b : List Txt} (h : Asc b) (c : UInt8) : Asc (succL b c) := asc_behL h [c]
theorem behL_nil (ws : List Txt) (h : Asc ws) : behL ws [] = ws := asc_ext _ _ (asc_behL h _) h fun y => by rw [mem_behL]; rfl
theorem behL_snoc {ws : List Txt} (h : Asc ws) (p : Txt) (c : UInt8) : behL ws (p ++ [c]) = succL (behL ws p) c :=
 asc_ext _ _ (asc_behL h _) (asc_succL (asc_behL h _) _) fun y => by rw [mem_behL, mem_succL, mem_behL, List.append_assoc]; rfl
def letsL (b : List Txt) : List UInt8 := ((List.range 26).map fun n => UInt8.ofNat (97 + n)).filter fun c => b.any fun w => hasPre w [c]
structure Res (n : Nat) (b : List Txt) : Prop where
 asc : Asc b
 let_ : ∀ w ∈ b, ∀ c ∈ w, letterB c = true
 len : ∀ w ∈ b, w.length ≤ n
theorem mem_letsL {n : Nat} {b : List Txt} (h : Res n b) {c : UInt8} : c ∈ letsL b ↔ ∃ x, c :: x ∈ b := by
 unfold letsL
 rw [List.mem_filter, List.any_eq_true]
 constructor
 ·
  rintro ⟨_, w, hw, hp⟩
  obtain ⟨r, rfl⟩ := hasPre_pre.1 hp
  exact ⟨r, hw⟩
 rintro ⟨x, hx⟩
 refine ⟨?_, _, hx, hasPre_pre.2 ⟨x, rfl⟩⟩
 have h1 := letter_bd (h.let_ _ hx c List.mem_cons_self)
 refine List.mem_map.2 ⟨c.toNat - 97, List.mem_range.2 (by omega), ?_⟩
 rw [show 97 + (c.toNat - 97) = c.toNat from by omega]
 simp
theorem letsL_ne {n : Nat} {b : List Txt} (h : Res n b) {c : UInt8} : c ∈ letsL b ↔ succL b c ≠ [] := by
 rw [mem_letsL h]
 constructor
 ·
  rintro ⟨x, hx⟩ e
  have := mem_succL.2 hx
  rw [e] at this
  cases this
 intro hne
 obtain ⟨x, hx⟩ := List.exists_mem_of_ne_nil _ hne
 exact ⟨x, mem_succL.1 hx⟩
theorem letsL_let {b : List Txt} {c : UInt8} (h : c ∈ letsL b) : 97 ≤ c.toNat ∧ c.toNat ≤ 122 := by
 obtain ⟨n, hn, rfl⟩ := List.mem_map.1 (List.mem_filter.1 h).1
 rw [List.mem_range] at hn
 simp
 omega
theorem letsL_asc (b : List Txt) : (letsL b).Pairwise (· < ·) := by
 unfold letsL
 refine List.Pairwise.filter _ ?_
 rw [List.pairwise_map]
 refine List.Pairwise.imp_of_mem ?_ (List.pairwise_lt_range (n := 26))
 intro a b ha hb hab
 rw [List.mem_range] at ha hb
 rw [UInt8.lt_iff_toNat_lt]
 simp
 omega
theorem letsL_length (b : List Txt) : (letsL b).length ≤ 26 := by
 unfold letsL
 refine Nat.le_trans (List.length_filter_le _ _) ?_
 simp
theorem Res.succ {n : Nat} {b : List Txt} (h : Res (n + 1) b) (c : UInt8) : Res n (succL b c) := by
 refine ⟨asc_succL h.asc c, fun w hw x hx => h.let_ _ (mem_succL.1 hw) x (List.mem_cons_of_mem _ hx), fun w hw => ?_⟩
 have := h.len _ (mem_succL.1 hw)
 rw [List.length_cons] at this
 omega
theorem Res.mono {n m : Nat} {b : List Txt} (h : Res n b) (hm : n ≤ m) : Res m b := ⟨h.asc, h.let_, fun w hw => Nat.le_trans (h.len w hw) hm⟩
theorem Res.zero_lets {b : List Txt} (h : Res 0 b) : letsL b = [] := by
 rw [List.eq_nil_iff_forall_not_mem]
 intro c hc
 obtain ⟨x, hx⟩ := (mem_letsL h).1 hc
 have := h.len _ hx
 simp at this
theorem Res.beh {ws : List Txt} (h : OkW ws) (p : Txt) : Res (12 - p.length) (behL ws p) := by
 refine ⟨asc_behL h.asc p, fun w hw c hc => ?_, fun w hw => ?_⟩
 ·
  exact (wordL_iff.1 (h.word _ (mem_behL.1 hw))).1 c (List.mem_append_right _ hc)
 have := h.le _ (mem_behL.1 hw)
 rw [List.length_append] at this
 omega
theorem Res.beh12 {ws : List Txt} (h : OkW ws) (p : Txt) : Res 12 (behL ws p) := (Res.beh h p).mono (by omega)
theorem decL {n : Nat} {b : List Txt} (h : Res n b) : b = (if [] ∈ b then [[]] else []) ++ (letsL b).flatMap fun c => (succL b c).map (c :: ·) := by
 refine asc_ext _ _ h.asc ?_ fun y => ?_
 ·
  unfold Asc
  rw [List.pairwise_append]
  refine ⟨by split <;> simp, ?_, ?_⟩
  ·
   rw [List.pairwise_flatMap]
   refine ⟨fun c _ => ?_, List.Pairwise.imp ?_ (letsL_asc b)⟩
   ·
    rw [List.pairwise_map]
    exact List.Pairwise.imp (fun hab => List.cons_lt_cons_iff.2 (.inr ⟨rfl, hab⟩)) (asc_succL h.asc c)
   intro c d hcd x hx y hy
   obtain ⟨x', _, rfl⟩ := List.mem_map.1 hx
   obtain ⟨y', _, rfl⟩ := List.mem_map.1 hy
   exact List.cons_lt_cons_iff.2 (.inl hcd)
  intro a ha x hx
  obtain rfl : a = [] := by
   split at ha
   ·
    exact List.mem_singleton.1 ha
   cases ha
  obtain ⟨c, _, hx⟩ := List.mem_flatMap.1 hx
  obtain ⟨x', _, rfl⟩ := List.mem_map.1 hx
  exact List.nil_lt_cons _ _
 rw [List.mem_append, List.mem_flatMap]
 constructor
 ·
  intro hy
  cases y with
  | nil => left; rw [if_pos hy]; exact List.mem_singleton.2 rfl
  | cons c y => exact .inr ⟨c, (mem_letsL h).2 ⟨y, hy⟩, List.mem_map.2 ⟨y, mem_succL.2 hy, rfl⟩⟩
 rintro (hy | ⟨c, _, hy⟩)
 ·
  split at hy
  ·
   rename_i h0; rw [List.mem_singleton.1 hy]; exact h0
  cases hy
 obtain ⟨x, hx, rfl⟩ := List.mem_map.1 hy
 exact mem_succL.1 hx
theorem res_eq {n m : Nat} {a b : List Txt} (ha : Res n a) (hb : Res m b) (h0 : decide ([] ∈ a) = decide ([] ∈ b)) (h1 : letsL a = letsL b) (h2 : ∀ c ∈ letsL a, succL a c = succL b c) : a = b := by
 rw [decL ha, decL hb, ← h1]
 have e0 : ([] ∈ a) ↔ ([] ∈ b) := by simpa using h0
 congr 1
 ·
  by_cases h : [] ∈ a
  ·
   rw [if_pos h, if_pos (e0.1 h)]
  rw [if_neg h, if_neg (fun k => h (e0.2 k))]
 rw [List.flatMap_def, List.flatMap_def]
 congr 1
 refine List.map_congr_left fun c hc => ?_
 rw [h2 c hc]
def cntL : Nat → List Txt → Nat
 | 0, _ => 1
 | n + 1, b => 1 + ((letsL b).map fun c => cntL n (succL b c)).sum
theorem cntL_le : ∀ (n : Nat) (b : List Txt), Res n b → cntL n b ≤ 1 + (b.map List.length).sum
 | 0, b, _ => by simp [cntL]
 | n + 1, b, h => by
  have key : ∀ l : List UInt8, (∀ c ∈ l, c ∈ letsL b) → (l.map fun c => cntL n (succL b c)).sum ≤ ((l.flatMap fun c => (succL b c).map (c :: ·)).map List.length).sum := by
   intro l
   induction l with
   | nil => intro _; simp
   | cons c l ih =>
    intro hl
    have h1 := ih fun x hx => hl x (List.mem_cons_of_mem _ hx)
    have h2 := cntL_le n (succL b c) (h.succ c)
    have h3 := (letsL_ne h).1 (hl c List.mem_cons_self)
    have h4 : (((succL b c).map (c :: ·)).map List.length).sum = ((succL b c).map List.length).sum + (succL b c).length := by
     rw [List.map_map]
     induction succL b c with
     | nil => rfl
     | cons x r ih => simp only [List.map_cons, List.sum_cons, List.length_cons, ih, Function.comp]; omega
    have h5 := List.length_pos_iff.2 h3
    rw [List.map_cons, List.sum_cons, List.flatMap_cons, List.map_append, List.sum_append, h4]
    omega
  have h1 := key (letsL b) fun _ hc => hc
  have h2 := congrArg (fun l : List Txt => (l.map List.length).sum) (decL h)
  simp only [List.map_append, List.sum_append] at h2
  rw [cntL, h2]
  omega
theorem sum_len_le : ∀ (ws : List Txt) (m : Nat), (∀ w ∈ ws, w.length ≤ m) → (ws.map List.length).sum ≤ ws.length * m
 | [], _, _ => by simp
 | w :: ws, m, h => by
  have h1 := sum_len_le ws m fun x hx => h x (List.mem_cons_of_mem _ hx)
  have h2 := h w List.mem_cons_self
  rw [List.map_cons, List.sum_cons, List.length_cons, Nat.succ_mul]
  omega
theorem cntL_ok {ws : List Txt} (h : OkW ws) (p : Txt) : cntL 12 (behL ws p) ≤ 481 := by
 have h1 := cntL_le 12 _ (Res.beh12 h p)
 have h2 := sum_len_le _ 12 (Res.beh12 h p).len
 have h3 : (behL ws p).length ≤ 40 := by
  unfold behL
  rw [List.length_map]
  exact Nat.le_trans (List.length_filter_le _ _) h.len
 have h4 : (behL ws p).length * 12 ≤ 40 * 12 := Nat.mul_le_mul_right _ h3
 omega
def firstL : List (List Txt) → List (List Txt) → List (List Txt)
 | acc, [] => acc
 | acc, x :: r => firstL (if x ∈ acc then acc else acc ++ [x]) r
theorem firstL_pre : ∀ (r acc : List (List Txt)), acc <+: firstL acc r
 | [], acc => List.prefix_refl _
 | x :: r, acc => by
  rw [firstL]
  refine List.IsPrefix.trans ?_ (firstL_pre r _)
  split
  ·
   exact List.prefix_refl _
  exact List.prefix_append _ _
theorem mem_firstL : ∀ (r acc : List (List Txt)) (y : List Txt), y ∈ firstL acc r ↔ y ∈ acc ∨ y ∈ r
 | [], acc, y => by simp [firstL]
 | x :: r, acc, y => by
  rw [firstL, mem_firstL r, List.mem_cons]
  by_cases h : x ∈ acc
  ·
   rw [if_pos h]
   constructor
   ·
    rintro (h1 | h1)
    ·
     exact .inl h1
    exact .inr (.inr h1)
   rintro (h1 | rfl | h1)
   ·
    exact .inl h1
   ·
    exact .inl h
   exact .inr h1
  rw [if_neg h, List.mem_append, List.mem_singleton]
  constructor
  ·
   rintro ((h1 | h1) | h1)
   ·
    exact .inl h1
   ·
    exact .inr (.inl h1)
   exact .inr (.inr h1)
  rintro (h1 | h1 | h1)
  ·
   exact .inl (.inl h1)
  ·
   exact .inl (.inr h1)
  exact .inr h1
theorem firstL_length : ∀ (r acc : List (List Txt)), (firstL acc r).length ≤ acc.length + r.length
 | [], acc => Nat.le_refl _
 | x :: r, acc => by
  rw [firstL]
  have := firstL_length r (if x ∈ acc then acc else acc ++ [x])
  refine Nat.le_trans this ?_
  split
  ·
   rw [List.length_cons]; omega
  rw [List.length_append, List.length_cons]; simp; omega
theorem firstL_nodup : ∀ (r acc : List (List Txt)), acc.Nodup → (firstL acc r).Nodup
 | [], _, h => h
 | x :: r, acc, h => by
  rw [firstL]
  refine firstL_nodup r _ ?_
  split
  ·
   exact h
  rename_i hx
  rw [List.nodup_append]
  exact ⟨h, by simp, fun a ha b hb e => hx (by rw [← List.mem_singleton.1 hb, ← e]; exact ha)⟩
theorem firstL_snoc (r acc : List (List Txt)) (x : List Txt) : firstL acc (r ++ [x]) = if x ∈ firstL acc r then firstL acc r else firstL acc r ++ [x] := by
 induction r generalizing acc with
 | nil => rfl
 | cons y r ih => rw [List.cons_append, firstL, firstL, ih]
theorem idx_pre {a b : List (List Txt)} (h : a <+: b) {x : List Txt} (hx : x ∈ a) : b.idxOf x = a.idxOf x := by
 obtain ⟨r, rfl⟩ := h
 rw [List.idxOf_append, if_pos hx]
theorem idx_new {a : List (List Txt)} {x : List Txt} (hx : x ∉ a) : (a ++ [x]).idxOf x = a.length := by
 rw [List.idxOf_append, if_neg hx]
 simp
def resL (ws : List Txt) : List (List Txt) := (preL ws).map (behL ws)
def dL (ws : List Txt) : List (List Txt) := firstL [] (resL ws)
def stL (D : List (List Txt)) (b : List Txt) : Bool × List (Int × Int) := (decide ([] ∈ b), (letsL b).map fun c => ((c.toNat : Int) - 97, (D.idxOf (succL b c) : Int)))
theorem resL_length (ws : List Txt) : (resL ws).length = (preL ws).length := List.length_map _
theorem dL_length {ws : List Txt} (h : OkW ws) : (dL ws).length ≤ 481 := by
 have h1 := firstL_length (resL ws) []
 rw [resL_length] at h1
 have h2 := h.pre
 unfold dL
 simp at h1
 omega
theorem mem_dL {ws : List Txt} {b : List Txt} : b ∈ dL ws ↔ ∃ p ∈ preL ws, behL ws p = b := by
 unfold dL
 rw [mem_firstL, resL, List.mem_map]
 simp
theorem dL_res {ws : List Txt} (h : OkW ws) {b : List Txt} (hb : b ∈ dL ws) : Res 12 b := by
 obtain ⟨p, _, rfl⟩ := mem_dL.1 hb
 exact Res.beh12 h p
theorem pre_snoc {ws : List Txt} {p : Txt} {c : UInt8} : p ++ [c] ∈ preL ws ↔ ∃ x, c :: x ∈ behL ws p := by
 rw [mem_preL]
 constructor
 ·
  rintro (h | ⟨w, hw, _, x, rfl⟩)
  ·
   simp at h
  exact ⟨x, mem_behL.2 (by simpa using hw)⟩
 rintro ⟨x, hx⟩
 exact .inr ⟨_, mem_behL.1 hx, by simp, ⟨x, by simp⟩⟩
theorem dL_succ {ws : List Txt} (h : OkW ws) {b : List Txt} (hb : b ∈ dL ws) {c : UInt8} (hc : c ∈ letsL b) : succL b c ∈ dL ws := by
 obtain ⟨p, hp, rfl⟩ := mem_dL.1 hb
 refine mem_dL.2 ⟨p ++ [c], pre_snoc.2 ((mem_letsL (Res.beh12 h p)).1 hc), behL_snoc h.asc p c⟩
theorem nil_preL (ws : List Txt) : [] ∈ preL ws := (clo_preL ws).1
theorem self_dL {ws : List Txt} (h : OkW ws) : ws ∈ dL ws := mem_dL.2 ⟨[], nil_preL ws, behL_nil ws h.asc⟩
theorem resL_zero {ws : List Txt} (h : OkW ws) : ∃ r, resL ws = ws :: r := by
 obtain ⟨h1, h2⟩ := clo_zero (asc_preL ws) (clo_preL ws)
 unfold resL
 cases hP : preL ws with
 | nil => rw [hP] at h1; simp at h1
 | cons p r =>
  rw [hP] at h2
  obtain rfl : p = [] := by simpa using h2
  exact ⟨r.map (behL ws), by rw [List.map_cons, behL_nil ws h.asc]⟩
theorem idx_zero {ws : List Txt} (h : OkW ws) : (dL ws).idxOf ws = 0 := by
 obtain ⟨r, hr⟩ := resL_zero h
 unfold dL
 rw [hr, firstL, if_neg (by simp)]
 rw [idx_pre (firstL_pre r _) (by simp)]
 simp
theorem kidsL_eq {ws : List Txt} (h : OkW ws) (p : Txt) : kidsL (preL ws) p = (letsL (behL ws p)).map fun c => p ++ [c] := by
 refine asc_ext _ _ ((asc_preL ws).filter _) ?_ fun q => ?_
 ·
  unfold Asc
  rw [List.pairwise_map]
  refine List.Pairwise.imp (fun hab => lt_appendL p ?_) (letsL_asc _)
  exact List.cons_lt_cons_iff.2 (.inl hab)
 unfold kidsL
 rw [List.mem_filter, decide_eq_true_eq, List.mem_map]
 constructor
 ·
  rintro ⟨hq, hne, rfl⟩
  have e := List.dropLast_concat_getLast hne
  refine ⟨q.getLast hne, (mem_letsL (Res.beh12 h _)).2 (pre_snoc.1 (by rw [e]; exact hq)), e⟩
 rintro ⟨c, hc, rfl⟩
 exact ⟨pre_snoc.2 ((mem_letsL (Res.beh12 h p)).1 hc), by simp, by simp⟩
def lastL : List (List Txt) → List Txt → Nat
 | [], _ => 0
 | _ :: r, b => if b ∈ r then lastL r b + 1 else 0
theorem lastL_spec : ∀ {l : List (List Txt)} {b : List Txt}, b ∈ l → lastL l b < l.length ∧ l.getD (lastL l b) [] = b ∧ ∀ j, lastL l b < j → j < l.length → l.getD j [] ≠ b
 | [], _, h => by simp at h
 | x :: r, b, h => by
  by_cases hb : b ∈ r
  ·
   obtain ⟨h1, h2, h3⟩ := lastL_spec hb
   simp only [lastL, if_pos hb]
   refine ⟨by rw [List.length_cons]; omega, by rw [List.getD_cons_succ]; exact h2, fun j hj hl => ?_⟩
   obtain ⟨j, rfl⟩ : ∃ m, j = m + 1 := ⟨j - 1, by omega⟩
   rw [List.getD_cons_succ]
   rw [List.length_cons] at hl
   exact h3 j (by omega) (by omega)
  simp only [lastL, if_neg hb]
  have hx : b = x := by
   rcases List.mem_cons.1 h with e | e
   ·
    exact e
   exact absurd e hb
  refine ⟨by simp, by rw [List.getD_cons_zero, hx], fun j hj hl => ?_⟩
  obtain ⟨j, rfl⟩ : ∃ m, j = m + 1 := ⟨j - 1, by omega⟩
  rw [List.getD_cons_succ]
  rw [List.length_cons] at hl
  intro e
  apply hb
  rw [← e, List.getD_eq_getElem?_getD, List.getElem?_eq_getElem (show j < r.length by omega)]
  exact List.getElem_mem _
theorem getR_mem {R : List (List Txt)} {i : Nat} (h : i < R.length) : R.getD i [] ∈ R := by rw [getD_lt [] h]; exact List.getElem_mem h
theorem lastL_ge {R : List (List Txt)} {i : Nat} (h : i < R.length) : i ≤ lastL R (R.getD i []) := by
 obtain ⟨h1, h2, h3⟩ := lastL_spec (getR_mem h)
 rcases Nat.lt_or_ge (lastL R (R.getD i [])) i with h4 | h4
 ·
  exact absurd rfl (h3 i h4 h)
 exact h4
theorem lastL_inj {R : List (List Txt)} {i j : Nat} (hi : i < R.length) (hj : j < R.length) : lastL R (R.getD i []) = lastL R (R.getD j []) ↔ R.getD i [] = R.getD j [] := by
 refine ⟨fun e => ?_, fun e => by rw [e]⟩
 rw [← (lastL_spec (getR_mem hi)).2.1, e, (lastL_spec (getR_mem hj)).2.1]
def joinT : List Txt → Txt
 | [] => []
 | w :: r => w ++ 44 :: joinT r
theorem split44 : ∀ (w v x y : Txt), (44 : UInt8) ∉ w → (44 : UInt8) ∉ v → w ++ 44 :: x = v ++ 44 :: y → w = v ∧ x = y
 | [], [], x, y, _, _, h => ⟨rfl, by simpa using h⟩
 | [], b :: v, x, y, _, hv, h => by
  rw [List.nil_append, List.cons_append] at h
  injection h with h1 h2
  exact absurd (h1 ▸ List.mem_cons_self) hv
 | a :: w, [], x, y, hw, _, h => by
  rw [List.nil_append, List.cons_append] at h
  injection h with h1 h2
  exact absurd (h1 ▸ List.mem_cons_self) hw
 | a :: w, b :: v, x, y, hw, hv, h => by
  rw [List.cons_append, List.cons_append] at h
  injection h with h1 h2
  obtain ⟨h3, h4⟩ := split44 w v x y (fun m => hw (List.mem_cons_of_mem _ m)) (fun m => hv (List.mem_cons_of_mem _ m)) h2
  exact ⟨by rw [h1, h3], h4⟩
theorem joinT_inj : ∀ (a b : List Txt), (∀ w ∈ a, (44 : UInt8) ∉ w) → (∀ w ∈ b, (44 : UInt8) ∉ w) → joinT a = joinT b → a = b
 | [], [], _, _, _ => rfl
 | [], w :: r, _, _, h => by simp [joinT] at h
 | w :: r, [], _, _, h => by simp [joinT] at h
 | w :: r, v :: s, ha, hb, h => by
  obtain ⟨h1, h2⟩ := split44 w v _ _ (ha w List.mem_cons_self) (hb v List.mem_cons_self) h
  rw [h1, joinT_inj r s (fun x hx => ha x (List.mem_cons_of_mem _ hx)) (fun x hx => hb x (List.mem_cons_of_mem _ hx)) h2]
theorem joinT_length : ∀ (a : List Txt) (m : Nat), (∀ w ∈ a, w.length ≤ m) → (joinT a).length ≤ a.length * (m + 1)
 | [], _, _ => by simp [joinT]
 | w :: r, m, h => by
  have h1 := joinT_length r m fun x hx => h x (List.mem_cons_of_mem _ hx)
  have h2 := h w List.mem_cons_self
  rw [joinT, List.length_append, List.length_cons, List.length_cons, Nat.succ_mul]
  omega
theorem no44 {n : Nat} {b : List Txt} (h : Res n b) : ∀ w ∈ b, (44 : UInt8) ∉ w := fun w hw hm => by
 have := letter_bd (h.let_ w hw 44 hm)
 simp at this
theorem joinT_res {n m : Nat} {a b : List Txt} (ha : Res n a) (hb : Res m b) : joinT a = joinT b ↔ a = b := ⟨joinT_inj a b (no44 ha) (no44 hb), fun e => by rw [e]⟩
end Go.Proofs.YtnnkedeohfbkeaaGreatDoor.M
namespace Go.Proofs.YtnnkedeohfbkeaaGreatDoor.M
open Go.RowKit Go.Proofs.YtnnkedeohfbkeaaGreatDoorW.PrintWords
theorem rdB (l : List Txt) (n : Nat) (h : n < l.length) : rdOf ByteArray.empty (l.map B) (n : Int) = B (l.getD n []) := by
 simp [rdOf, List.getD_eq_getElem?_getD, h]
end Go.Proofs.YtnnkedeohfbkeaaGreatDoor.M
namespace Go.Proofs.YtnnkedeohfbkeaaGreatDoor.M
open Go.Lib
theorem keeps_iff (d : Array Txt) (j : Nat) : keeps d j = true ↔ (j = 0 ∨ d[j]! ≠ d[j - 1]!) := by simp [keeps]
theorem mem_compact (zs : List Txt) (y : Txt) : y ∈ compact zs ↔ y ∈ zs := by
 unfold compact compactUpTo
 simp only [List.mem_map, List.mem_filter, List.mem_range]
 constructor
 ·
  rintro ⟨j, ⟨hj, _⟩, rfl⟩
  rw [getElem!_pos zs.toArray j (by simpa using hj)]
  simp
 intro hy
 have hex : ∃ n, ∃ h : n < zs.length, zs[n] = y := by
  obtain ⟨n, h, e⟩ := List.mem_iff_getElem.1 hy
  exact ⟨n, h, e⟩
 have key : ∀ n, (∃ h : n < zs.length, zs[n] = y) → ∃ m, m < zs.length ∧ keeps zs.toArray m = true ∧ zs.toArray[m]! = y := by
  intro n
  induction n with
  | zero => rintro ⟨h, e⟩; exact ⟨0, h, (keeps_iff _ _).2 (.inl rfl), by rw [getElem!_pos zs.toArray 0 (by simpa using h)]; simpa using e⟩
  | succ n ih =>
   rintro ⟨h, e⟩
   have e1 : zs.toArray[n + 1]! = y := by rw [getElem!_pos zs.toArray (n + 1) (by simpa using h)]; simpa using e
   by_cases hk : keeps zs.toArray (n + 1) = true
   ·
    exact ⟨n + 1, h, hk, e1⟩
   have : zs.toArray[n + 1]! = zs.toArray[n]! := by
    by_cases h9 : zs.toArray[n + 1]! = zs.toArray[n]!
    ·
     exact h9
    exact absurd ((keeps_iff _ _).2 (.inr h9)) hk
   refine ih ⟨by omega, ?_⟩
   have h2 : zs.toArray[n]! = zs[n] := by rw [getElem!_pos zs.toArray n (by simp; omega)]; simp
   rw [← h2, ← this, e1]
 obtain ⟨n, h⟩ := hex
 obtain ⟨m, h1, h2, h3⟩ := key n h
 exact ⟨m, ⟨h1, h2⟩, h3⟩
theorem pair_get {zs : List Txt} (h : zs.Pairwise (fun a b => decide (a ≤ b) = true)) {i j : Nat} (hij : i < j) (hj : j < zs.length) : zs.toArray[i]! ≤ zs.toArray[j]! := by
 have := List.pairwise_iff_getElem.1 h i j (by omega) hj hij
 rw [getElem!_pos zs.toArray i (by simp; omega), getElem!_pos zs.toArray j (by simpa using hj)]
 simpa using this
theorem asc_compact {zs : List Txt} (h : zs.Pairwise (fun a b => decide (a ≤ b) = true)) : Asc (compact zs) := by
 unfold Asc compact compactUpTo
 rw [List.pairwise_map]
 have h1 : ((List.range zs.length).filter (keeps zs.toArray)).Pairwise (· < ·) := List.Pairwise.filter _ List.pairwise_lt_range
 refine List.Pairwise.imp_of_mem ?_ h1
 intro a b ha hb hab
 rw [List.mem_filter, List.mem_range] at ha hb
 have hk := (keeps_iff _ _).1 hb.2
 have hne : zs.toArray[b]! ≠ zs.toArray[b - 1]! := by
  rcases hk with h0 | h0
  ·
   omega
  exact h0
 have h2 : zs.toArray[b - 1]! ≤ zs.toArray[b]! := pair_get h (by omega) hb.1
 have h3 : zs.toArray[a]! ≤ zs.toArray[b - 1]! := by
  by_cases e : a = b - 1
  ·
   subst e; exact List.le_refl _
  exact pair_get h (by omega) (by omega)
 have h4 : zs.toArray[b - 1]! < zs.toArray[b]! := by
  by_cases hlt : zs.toArray[b - 1]! < zs.toArray[b]!
  ·
   exact hlt
  exact absurd (List.le_antisymm (List.not_lt.1 hlt) h2) hne
 exact List.lt_of_le_of_lt h3 h4
theorem sorted_compact (l : List Txt) : compact (l.mergeSort fun x y => decide (x ≤ y)) = setL l := by
 have hp : (l.mergeSort fun x y => decide (x ≤ y)).Pairwise (fun a b => decide (a ≤ b) = true) := by
  refine List.pairwise_mergeSort ?_ ?_ l
  ·
   intro a b c h1 h2
   simp only [decide_eq_true_eq] at h1 h2 ⊢
   exact List.le_trans h1 h2
  intro a b
  simp only [Bool.or_eq_true, decide_eq_true_eq]
  exact List.le_total a b
 refine asc_ext _ _ (asc_compact hp) (asc_setL l) fun y => ?_
 rw [mem_compact, List.mem_mergeSort, mem_setL]
end Go.Proofs.YtnnkedeohfbkeaaGreatDoor.M
namespace Go.Proofs.YtnnkedeohfbkeaaGreatDoor.L
open Go.RowKit Go.Proofs.YtnnkedeohfbkeaaGreatDoor.P Go.Proofs.YtnnkedeohfbkeaaGreatDoor.M Go.Proofs.YtnnkedeohfbkeaaGreatDoorW.PrintWords Go.Proofs.YtnnkedeohfbkeaaGreatDoorW.PrintLast Go.Proofs.YtnnkedeohfbkeaaGreatDoorW.PrintMore
theorem map_data (l : List Txt) : (l.map B).map (fun x => x.data.toList) = l := by
 rw [List.map_map]
 exact (List.map_congr_left (fun x _ => data_B x)).trans (List.map_id _)
theorem l2Put_eq (l : List Txt) (w : Txt) (h : l.length ≤ 4294967296) (h2 : ∀ x ∈ l, x.length ≤ 4611686018427387900) : sF61.f (l.map B) (B w) = some ((putL l w).map B) := by
 have hall : ((l.map B).all fun x => decide (x.size ≤ 4611686018427387900)) = true := List.all_eq_true.2 fun x hx => by
  obtain ⟨y, hy, rfl⟩ := List.mem_map.1 hx
  simpa using h2 y hy
 unfold sF61.f
 rw [map_data, data_B, if_pos ⟨by simpa using h, hall⟩]
theorem set_eq (l : List Txt) (h : l.length ≤ 4294967296) : iF27.f (l.map B) = some ((setL l).map B) := by
 unfold iF27.f
 rw [if_pos (by simpa using h), map_data, sorted_compact]
 rfl
theorem l1In_eq (a b c : Int) : sF54.f a b c = some (decide (b ≤ a ∧ a ≤ c)) := by
 unfold sF54.f
 by_cases h : b ≤ a
 ·
  rw [if_pos (by omega)]; simp [h]
 rw [if_neg (by omega)]; simp [h]
instance : DecidableEq S96 := fun a b => if h : a.f0 = b.f0 ∧ a.f1 = b.f1 ∧ a.f2 = b.f2 then isTrue (by obtain ⟨a0, a1, a2⟩ := a; obtain ⟨b0, b1, b2⟩ := b; obtain ⟨h1, h2, h3⟩ := h; simp only at h1 h2 h3; subst h1 h2 h3; rfl) else isFalse (fun e => h (by rw [e]; exact ⟨rfl, rfl, rfl⟩))
def mkN (x : Int × Int × Bool) : S96 := ⟨x.1, x.2.1, x.2.2⟩
def trN (P ws : List Txt) : List S96 := (nodesL P ws).map mkN
theorem trN_length (P ws : List Txt) : (trN P ws).length = P.length := by simp [trN, nodesL]
theorem rdN (P ws : List Txt) (i : Nat) (h : i < P.length) : rd_T96 (trN P ws) (i : Int) = mkN (ndL P ws (P.getD i [])) := by
 unfold rd_T96 trN nodesL
 rw [Int.toNat_natCast, getD_lt _ (by simpa using h), getD_lt _ h]
 simp
theorem strOfNums_B (n : Int) : strOfNums [n] = B [UInt8.ofNat n.toNat] := rfl
theorem l2Word_loop (l : Txt) (hl : l.length ≤ 4611686018427387903) : ∀ (d n : Nat), n + d = l.length → Ev (fun k => sF65.l0 k (B l) (n : Int)) ((l.drop n).all letterB && decide (l.length ≤ 12)) := by
 have last : ∀ n : Nat, Ev (fun k => sF65.j1 k (B l) (n : Int) false) (decide (l.length ≤ 12)) := by
  intro n
  refine Ev.step (fun k => sF65.j1.eq_2 ..) (Ev.ifF (by simp) ?_)
  have : decide (((B l).size : Int) ≤ 12) = decide (l.length ≤ 12) := by simp; omega
  rw [this]; exact Ev.now _
 intro d
 induction d with
 | zero =>
  intro n hn
  refine Ev.step (fun k => sF65.l0.eq_2 ..) (Ev.ifF (by simp; omega) ?_)
  rw [List.drop_of_length_le (by omega)]; simpa using last n
 | succ d ih =>
  intro n hn
  have h1 : n < l.length := by omega
  refine Ev.step (fun k => sF65.l0.eq_2 ..) (Ev.ifT (by simp; omega) ?_)
  rw [drop_cons_getD 0 h1]
  by_cases h16 : n ≤ 12
  ·
   rw [show decide ((n : Int) ≤ 12) = true from by simp; omega]
   refine Ev.step (fun k => sF65.j1.eq_2 ..) (Ev.ifT rfl (Ev.ifT (by omega) (Ev.ifT (by simp; omega) ?_)))
   simp only [bt_B l n h1]
   by_cases ha : ((l.getD n 0).toNat : Int) < 97
   ·
    refine Ev.ifT ha ?_
    have : letterB (l.getD n 0) = false := by simp only [letterB, decide_eq_false_iff_not]; omega
    simpa only [List.all_cons, this, Bool.false_and] using Ev.now false
   refine Ev.ifF ha ?_
   by_cases hz : ((l.getD n 0).toNat : Int) > 122
   ·
    refine Ev.ifT hz ?_
    have : letterB (l.getD n 0) = false := by simp only [letterB, decide_eq_false_iff_not]; omega
    simpa only [List.all_cons, this, Bool.false_and] using Ev.now false
   refine Ev.ifF hz ?_
   have : letterB (l.getD n 0) = true := by simp only [letterB, decide_eq_true_eq]; omega
   simpa only [wrap64_succ n (by omega), List.all_cons, this, Bool.true_and] using ih (n + 1) (by omega)
  rw [show decide ((n : Int) ≤ 12) = false from by simp; omega]
  have : ((l.getD n 0 :: l.drop (n + 1)).all letterB && decide (l.length ≤ 12)) = decide (l.length ≤ 12) := by
   have : decide (l.length ≤ 12) = false := by simp; omega
   rw [this]; simp
  rw [this]; exact last n
theorem l2Word_ev (l : Txt) (hl : l.length ≤ 4611686018427387903) : Ev (fun k => sF65.f k (B l)) (wordL l) := by
 simpa [sF65.f, wordL] using l2Word_loop l hl l.length 0 (by omega)
def setR : List Txt → List Txt → List ByteArray × Bool
 | [], acc => (acc.map B, decide (acc.length ≤ 40))
 | w :: r, acc => if wordL w = true then setR r (putL acc w) else ([], false)
theorem setR_eq : ∀ (l acc : List Txt), setR l acc = if l.all wordL = true then ((l.foldl putL acc).map B, decide ((l.foldl putL acc).length ≤ 40)) else ([], false)
 | [], acc => rfl
 | w :: r, acc => by
  unfold setR
  rw [setR_eq r (putL acc w), List.all_cons, List.foldl_cons]
  cases h : wordL w with
  | false => rw [if_neg Bool.false_ne_true, if_neg (by rw [Bool.false_and]; exact Bool.false_ne_true)]
  | true => rw [if_pos rfl, Bool.true_and]
theorem l2Set_loop {b : Nat} (hb : b ≤ 1000000) (ws : List Txt) (hl : ws.length ≤ 2147483648) (hw : ∀ w ∈ ws, w.length ≤ b) : ∀ (d i : Nat) (acc : List Txt), i + d = ws.length → acc.length ≤ i → (∀ w ∈ acc, w.length ≤ b) →
  Ev (fun k => sF64.l0 k (ws.map B) (acc.map B) (i : Int)) (setR (ws.drop i) acc) := by
 intro d
 induction d with
 | zero =>
  intro i acc h1 h2 h3
  rw [List.drop_of_length_le (by omega)]
  refine Ev.step (fun k => sF64.l0.eq_2 ..) (Ev.ifF (by simp; omega) ?_)
  have : decide (((acc.map B).length : Int) ≤ 40) = decide (acc.length ≤ 40) := by
   rw [List.length_map]; exact decide_eq_decide.2 (by omega)
  rw [this]
  exact Ev.now _
 | succ d ih =>
  intro i acc h1 h2 h3
  have hi : i < ws.length := by omega
  have hm := getD_mem hi
  rw [drop_cons_getD [] hi]
  refine Ev.step (fun k => sF64.l0.eq_2 ..) (Ev.ifT (by simp; omega) (Ev.ifT (by omega) ?_))
  rw [rdB ws i hi]
  refine Ev.bind (f := fun k t => if t = true then (sF61.f (acc.map B) (B (ws.getD i []))).bind fun t165 => sF64.l0 k (ws.map B) t165 (wrap64 ((i : Int) + 1)) else some ([], false)) (l2Word_ev _ (by have := hw _ hm; omega)) ?_
  unfold setR
  cases hq : wordL (ws.getD i []) with
  | false =>
   rw [if_neg Bool.false_ne_true]
   exact Ev.ifF Bool.false_ne_true (Ev.now _)
  | true =>
   rw [if_pos (show true = true from rfl)]
   refine Ev.ifT rfl ?_
   rw [l2Put_eq acc _ (by omega) (fun x hx => by have := h3 x hx; omega)]
   refine Ev.some_bind ?_
   have h6 := putL_length_le acc (ws.getD i [])
   have := ih (i + 1) (putL acc (ws.getD i [])) (by omega) (by omega) (fun x hx => by
    rcases (mem_putL _ _ _).1 hx with rfl | hx
    ·
     exact hw _ hm
    exact h3 x hx)
   rw [wrap64_succ i (by omega)]
   exact this
theorem l2Set_ev {b : Nat} (ws : List Txt) (hl : ws.length ≤ 2147483648) (hw : ∀ w ∈ ws, w.length ≤ b) (hb : b ≤ 1000000 := by omega) : Ev (fun k => sF64.f k (ws.map B)) (if ws.all wordL = true then ((setL ws).map B, decide ((setL ws).length ≤ 40)) else ([], false)) := by
 have := l2Set_loop hb ws hl hw ws.length 0 [] (by omega) (by simp) (by simp)
 rw [List.drop_zero, setR_eq] at this
 exact this
theorem l2Has_loop (l : List Txt) (p : Txt) (hl : l.length ≤ 4611686018427387903) : ∀ (d i : Nat), i + d = l.length → Ev (fun k => sF57.l0 k (l.map B) (B p) (i : Int)) (decide (p ∈ l.drop i)) := by
 intro d
 induction d with
 | zero =>
  intro i h
  rw [List.drop_of_length_le (by omega)]
  exact Ev.step (fun k => sF57.l0.eq_2 ..) (Ev.ifF (by simp; omega) (by simpa using Ev.now false))
 | succ d ih =>
  intro i h
  have hi : i < l.length := by omega
  refine Ev.step (fun k => sF57.l0.eq_2 ..) (Ev.ifT (by simp; omega) (Ev.ifT (by omega) ?_))
  rw [rdB l i hi, drop_cons_getD [] hi, toList_B, toList_B]
  by_cases e : l.getD i [] = p
  ·
   rw [show decide (p ∈ l.getD i [] :: l.drop (i + 1)) = true from decide_eq_true (by rw [e]; exact List.mem_cons_self)]
   exact Ev.ifT e (Ev.now _)
  rw [show decide (p ∈ l.getD i [] :: l.drop (i + 1)) = decide (p ∈ l.drop (i + 1)) from decide_eq_decide.2 ⟨fun h => (List.mem_cons.1 h).resolve_left (fun q => e q.symm), fun h => List.mem_cons_of_mem _ h⟩]
  refine Ev.ifF e ?_
  rw [wrap64_succ i (by omega)]
  exact ih (i + 1) (by omega)
theorem l2Has_ev (l : List Txt) (p : Txt) (hl : l.length ≤ 4611686018427387903) : Ev (fun k => sF57.f k (l.map B) (B p)) (decide (p ∈ l)) := by
 have := l2Has_loop l p hl l.length 0 (by omega)
 rw [List.drop_zero] at this
 exact this
theorem l2Place_loop (l : List Txt) (p : Txt) (hl : l.length ≤ 4611686018427387903) : ∀ (d i : Nat), i + d = l.length → Ev (fun k => sF60.l0 k (l.map B) (B p) (i : Int)) (if p ∈ l.drop i then ((i + placeL (l.drop i) p : Nat) : Int) else -1) := by
 intro d
 induction d with
 | zero =>
  intro i h
  rw [List.drop_of_length_le (by omega)]
  exact Ev.step (fun k => sF60.l0.eq_2 ..) (Ev.ifF (by simp; omega) (by simpa using Ev.now (-1 : Int)))
 | succ d ih =>
  intro i h
  have hi : i < l.length := by omega
  refine Ev.step (fun k => sF60.l0.eq_2 ..) (Ev.ifT (by simp; omega) (Ev.ifT (by omega) ?_))
  rw [rdB l i hi, drop_cons_getD [] hi, toList_B, toList_B]
  by_cases e : l.getD i [] = p
  ·
   rw [if_pos (show p ∈ l.getD i [] :: l.drop (i + 1) from by rw [e]; exact List.mem_cons_self), placeL, if_pos e]
   exact Ev.ifT e (Ev.now _)
  refine Ev.ifF e ?_
  rw [wrap64_succ i (by omega)]
  have h1 := ih (i + 1) (by omega)
  by_cases hm : p ∈ l.drop (i + 1)
  ·
   rw [if_pos hm] at h1
   rw [if_pos (List.mem_cons_of_mem _ hm), placeL, if_neg e]
   rwa [show i + (placeL (l.drop (i + 1)) p + 1) = i + 1 + placeL (l.drop (i + 1)) p from by omega]
  rw [if_neg hm] at h1
  rw [if_neg (fun h => hm ((List.mem_cons.1 h).resolve_left (fun q => e q.symm)))]
  exact h1
theorem l2Place_ev (l : List Txt) (p : Txt) (hl : l.length ≤ 4611686018427387903) (h : p ∈ l) : Ev (fun k => sF60.f k (l.map B) (B p)) (placeL l p : Int) := by
 have := l2Place_loop l p hl l.length 0 (by omega)
 rw [List.drop_zero, if_pos h, Nat.zero_add] at this
 exact this
def begF (w : Txt) : Nat → Nat → List Txt
 | _, 0 => []
 | n, d + 1 => w.take n :: begF w (n + 1) d
theorem begF_eq (w : Txt) : ∀ d n, begF w n d = (List.range d).map fun j => w.take (n + j)
 | 0, _ => rfl
 | d + 1, n => by
  rw [begF, begF_eq w d (n + 1), List.range_succ_eq_map, List.map_cons, List.map_map]
  congr 1
  exact List.map_congr_left fun j _ => by show w.take (n + 1 + j) = w.take (n + (j + 1)); congr 1; omega
theorem begs_begF (w : Txt) : begs w = begF w 1 w.length := by
 rw [begF_eq]
 exact List.map_congr_left fun j _ => by congr 1; omega
theorem l2Of_in (ws : List Txt) (hl : ws.length ≤ 40) (hw : ∀ w ∈ ws, w.length ≤ 12) (i : Nat) (hi : i < ws.length) (r : List S96) (acc2 : List Txt) (hr : Ev (fun k => sF58.l0 k (ws.map B) (acc2.map B) ((i + 1 : Nat) : Int)) r) :
  ∀ (d n : Nat) (acc : List Txt), 0 < n → n + d = (ws.getD i []).length + 1 → (begF (ws.getD i []) n d).foldl putL acc = acc2 → acc.length + d ≤ 1000 → (∀ x ∈ acc, x.length ≤ 12) → Ev (fun k => sF58.l1 k (ws.map B) (acc.map B) (i : Int) (n : Int)) r := by
 have hwi := hw _ (getD_mem hi)
 intro d
 induction d with
 | zero =>
  intro n acc h0 h1 h2 h3 h4
  rw [begF, List.foldl_nil] at h2
  subst h2
  refine Ev.step (fun k => sF58.l1.eq_2 ..) (Ev.ifT (by omega) (Ev.ifT (by simp; omega) (Ev.ifF (by rw [rdB ws i hi, size_B]; omega) ?_)))
  rw [wrap64_succ i (by omega)]
  exact hr
 | succ d ih =>
  intro n acc h0 h1 h2 h3 h4
  refine Ev.step (fun k => sF58.l1.eq_2 ..) (Ev.ifT (by omega) (Ev.ifT (by simp; omega) (Ev.ifT (by rw [rdB ws i hi, size_B]; omega) (Ev.ifT (by omega) ?_))))
  rw [rdB ws i hi, extract_B, List.drop_zero, Int.toNat_natCast, Nat.sub_zero, l2Put_eq acc _ (by omega) (fun x hx => by have := h4 x hx; omega)]
  refine Ev.some_bind ?_
  rw [wrap64_succ n (by omega)]
  have h6 := putL_length_le acc ((ws.getD i []).take n)
  exact ih (n + 1) (putL acc ((ws.getD i []).take n)) (by omega) (by omega) (by rw [← h2]; rfl) (by omega) (fun x hx => by
   rcases (mem_putL _ _ _).1 hx with rfl | hx
   ·
    rw [List.length_take]; omega
   exact h4 x hx)
theorem l2Of_out (ws : List Txt) (hl : ws.length ≤ 40) (hw : ∀ w ∈ ws, w.length ≤ 12) (r : List S96) (all : List Txt) (hr : Ev (fun k => sF58.l2 k (ws.map B) (all.map B) 0 []) r) :
  ∀ (d i : Nat) (acc : List Txt), i + d = ws.length → ((ws.drop i).flatMap begs).foldl putL acc = all → acc.length + 12 * d ≤ 600 → (∀ x ∈ acc, x.length ≤ 12) → Ev (fun k => sF58.l0 k (ws.map B) (acc.map B) (i : Int)) r := by
 intro d
 induction d with
 | zero =>
  intro i acc h1 h2 h3 h4
  rw [List.drop_of_length_le (by omega), List.flatMap_nil, List.foldl_nil] at h2
  subst h2
  exact Ev.step (fun k => sF58.l0.eq_2 ..) (Ev.ifF (by simp; omega) hr)
 | succ d ih =>
  intro i acc h1 h2 h3 h4
  have hi : i < ws.length := by omega
  have hwi := hw _ (getD_mem hi)
  rw [drop_cons_getD [] hi, List.flatMap_cons, List.foldl_append] at h2
  have h5 := foldl_putL_len (begs (ws.getD i [])) acc
  rw [begs_length] at h5
  have hn := ih (i + 1) _ (by omega) h2 (by omega) (fun x hx => by
   rcases (foldl_putL_mem _ _ _).1 hx with hx | hx
   ·
    exact Nat.le_trans (mem_begs.1 hx).2.length_le hwi
   exact h4 x hx)
  refine Ev.step (fun k => sF58.l0.eq_2 ..) (Ev.ifT (by simp; omega) ?_)
  exact l2Of_in ws hl hw i hi r _ hn (ws.getD i []).length 1 acc (by omega) (by omega) (by rw [← begs_begF]) (by omega) h4
theorem l2Of_nodes {ws P : List Txt} (hA : Asc P) (hC : Clo P) (hW : ∀ p ∈ P, wordL p = true) (hP : P.length ≤ 1000) (hl : ws.length ≤ 1000) : ∀ (d i : Nat) (acc : List S96), i + d = P.length → acc.length ≤ i →
  Ev (fun k => sF58.l2 k (ws.map B) (P.map B) (i : Int) acc) (acc ++ ((P.drop i).map fun p => mkN (ndL P ws p))) := by
 intro d
 induction d with
 | zero =>
  intro i acc h1 h2
  rw [List.drop_of_length_le (by omega), List.map_nil, List.append_nil]
  exact Ev.step (fun k => sF58.l2.eq_2 ..) (Ev.ifF (by simp; omega) (Ev.now _))
 | succ d ih =>
  intro i acc h1 h2
  have hi : i < P.length := by omega
  have hm := getD_mem hi
  rw [drop_cons_getD [] hi, List.map_cons]
  refine Ev.step (fun k => sF58.l2.eq_2 ..) (Ev.ifT (by simp; omega) (Ev.ifT (by omega) ?_))
  rw [rdB P i hi]
  refine Ev.bind (l2Has_ev ws (P.getD i []) (by omega)) ?_
  have hcons : ∀ x : S96, acc ++ (x :: (P.drop (i + 1)).map fun p => mkN (ndL P ws p)) = (acc ++ [x]) ++ (P.drop (i + 1)).map fun p => mkN (ndL P ws p) := fun x => by simp
  rw [hcons]
  by_cases h0 : i = 0
  ·
   have hp : P.getD i [] = [] := by rw [h0]; exact (clo_zero hA hC).2
   refine Ev.ifF (by omega) (Ev.ifT (by omega) ?_)
   have hx : mkN (ndL P ws (P.getD i [])) = ⟨-1, -1, decide (P.getD i [] ∈ ws)⟩ := by unfold mkN ndL; rw [if_pos hp, if_pos hp]
   rw [hx, wrap64_succ i (by omega)]
   exact ih (i + 1) _ (by omega) (by simp; omega)
  have hne := clo_pos hA hC hi (by omega)
  have hlen := List.length_pos_iff.2 hne
  have h12 := (wordL_iff.1 (hW _ hm)).2
  have hw1 : wrap64 (((B (P.getD i [])).size : Int) - 1) = ((P.getD i []).length - 1 : Nat) := by rw [size_B, wrap64_id (by omega) (by omega)]; omega
  rw [hw1]
  refine Ev.ifT (by omega) (Ev.ifT (by omega) (Ev.ifT (by rw [size_B]; omega) (Ev.ifT (by rw [size_B]; omega) ?_)))
  rw [extract_B, List.drop_zero, Int.toNat_natCast, Nat.sub_zero, ← List.dropLast_eq_take]
  refine Ev.bind (l2Place_ev P _ (by omega) (hC.2 _ hm hne)) (Ev.ifT (by omega) ?_)
  have hx : mkN (ndL P ws (P.getD i [])) = ⟨((bt (B (P.getD i [])) (((P.getD i []).length - 1 : Nat) : Int)) - 97) % 256, (placeL P (P.getD i []).dropLast : Int), decide (P.getD i [] ∈ ws)⟩ := by
   unfold mkN ndL
   rw [if_neg hne, if_neg hne, bt_B _ _ (by omega)]
   rfl
  rw [hx, wrap64_succ i (by omega)]
  exact ih (i + 1) _ (by omega) (by simp; omega)
theorem l2Of_ev {ws : List Txt} (h : OkW ws) : Ev (fun k => sF58.f k (ws.map B)) (trN (preL ws) ws) := by
 have h1 := h.pre
 have h2 := h.len
 have hn := l2Of_nodes (ws := ws) (asc_preL ws) (clo_preL ws) (fun p hp => preL_word h.word hp) (by omega) (by omega) (preL ws).length 0 [] (by omega) (by simp)
 rw [List.drop_zero, List.nil_append] at hn
 have e : (preL ws).map (fun p => mkN (ndL (preL ws) ws p)) = trN (preL ws) ws := by unfold trN nodesL; rw [List.map_map]; rfl
 rw [e] at hn
 exact l2Of_out ws h.len h.le _ (preL ws) hn ws.length 0 [[]] (by omega) rfl (by simp; omega) (by simp)
theorem rd_get (N : List S96) (i : Nat) (h : i < N.length) : rd_T96 N (i : Int) = N[i] := by
 unfold rd_T96
 rw [Int.toNat_natCast, getD_lt _ h]
theorem okW_setL {ws : List Txt} (h : ws.all wordL = true) (hl : (setL ws).length ≤ 40) : OkW (setL ws) := ⟨asc_setL ws, hl, fun w hw => List.all_eq_true.1 h w ((mem_setL ws w).1 hw)⟩
def IsTr (N : List S96) : Prop := ∃ ws, OkW ws ∧ N = trN (preL ws) ws
theorem IsTr.len {N : List S96} (h : IsTr N) : 1 ≤ N.length ∧ N.length ≤ 481 := by
 obtain ⟨ws, h, rfl⟩ := h
 rw [trN_length]
 exact ⟨(clo_zero (asc_preL ws) (clo_preL ws)).1, h.pre⟩
theorem in_eq (a b c : Int) : iF19.f a b c = some (decide (b ≤ a ∧ a ≤ c)) := by
 unfold iF19.f
 by_cases h : b ≤ a
 ·
  rw [if_pos (by omega)]; simp [h]
 rw [if_neg (by omega)]; simp [h]
abbrev Nd := S96
theorem bytesLess_eq : ∀ (x y : Txt), Op.bytesLess x y = decide (x < y)
 | [], [] => by rw [decide_eq_false (txt_irrefl [])]; rfl
 | _ :: _, [] => by rw [decide_eq_false (List.not_lt_nil _)]; rfl
 | [], b :: y => by rw [decide_eq_true (List.nil_lt_cons b y)]; rfl
 | a :: x, b :: y => by
  rw [Op.bytesLess, bytesLess_eq x y, Bool.eq_iff_iff, decide_eq_true_eq, List.cons_lt_cons_iff]
  simp
theorem less_eq (x y : Txt) : xF5.f (B x) (B y) = some (decide (x < y)) := by
 unfold xF5.f xF6.f
 rw [toList_B, toList_B, ← bytesLess_eq]
 simp
def Srt (ws : List Txt) : Prop := ∀ j, j + 1 < ws.length → ¬ ws.getD (j + 1) [] < ws.getD j []
theorem Srt.le {ws : List Txt} (h : Srt ws) (i : Nat) : ∀ d, i + d < ws.length → ¬ ws.getD (i + d) [] < ws.getD i []
 | 0, _ => txt_irrefl _
 | d + 1, hd => fun hlt => by
  have h1 := h.le i d (by omega)
  have h2 := h (i + d) (by omega)
  exact h1 (List.lt_of_le_of_lt (List.not_lt.1 h2) hlt)
theorem srt_asc {ws : List Txt} (h : Asc ws) : Srt ws := fun j hj => txt_asymm (asc_get h hj (Nat.lt_succ_self j))
theorem half_eq (i j : Nat) (h : i + j ≤ 4611686018427387903) : wrap64 ((IntKind.u64.wrap (wrap64 ((i : Int) + (j : Int)))) / 2) = (((i + j) / 2 : Nat) : Int) := by
 have e1 : wrap64 ((i : Int) + (j : Int)) = ((i + j : Nat) : Int) := by rw [wrap64_id (by omega) (by omega)]; omega
 have e2 : IntKind.u64.wrap (((i + j : Nat) : Int)) = ((i + j : Nat) : Int) := by
  simp [IntKind.wrap, IntKind.bits, IntKind.signed]; omega
 rw [e1, e2, wrap64_id (by omega) (by omega)]
 omega
theorem search_loop (ws : List Txt) (p : Txt) (hl : ws.length ≤ 1000000000) (hs : Srt ws) : ∀ (d i j : Nat), i + d = j → j ≤ ws.length → (∀ m, m < i → ws.getD m [] < p) → (∀ m, j ≤ m → m < ws.length → ¬ ws.getD m [] < p) →
  ∃ q : Nat, q ≤ ws.length ∧ (∀ m, m < q → ws.getD m [] < p) ∧ (∀ m, q ≤ m → m < ws.length → ¬ ws.getD m [] < p) ∧ Ev (fun k => xF47.l0 k (ws.map B) (B p) (ws.length : Int) (i : Int) (j : Int)) ((q : Int), decide (p ∈ ws)) := by
 intro d
 induction d using Nat.strongRecOn with
 | _ d ih =>
  intro i j h1 h2 h3 h4
  by_cases hij : i < j
  ·
   have hh : (i + j) / 2 < ws.length := by omega
   by_cases hlt : ws.getD ((i + j) / 2) [] < p
   ·
    obtain ⟨q, q1, q2, q3, q4⟩ := ih (j - ((i + j) / 2 + 1)) (by omega) ((i + j) / 2 + 1) j (by omega) h2 (fun m hm => by
     by_cases e : m = (i + j) / 2
     ·
      rw [e]; exact hlt
     by_cases hmi : m < i
     ·
      exact h3 m hmi
     have hle := hs.le m ((i + j) / 2 - m) (by omega)
     rw [show m + ((i + j) / 2 - m) = (i + j) / 2 from by omega] at hle
     exact List.lt_of_le_of_lt (List.not_lt.1 hle) hlt) h4
    refine ⟨q, q1, q2, q3, Ev.step (fun k => xF47.l0.eq_2 ..) (Ev.ifT (by omega) ?_)⟩
    rw [half_eq i j (by omega)]
    refine Ev.ifT (by omega) (Ev.ifT (by rw [List.length_map]; omega) ?_)
    rw [rdB ws _ hh, less_eq, decide_eq_true hlt]
    refine Ev.some_bind (Ev.ifT rfl ?_)
    rw [wrap64_succ _ (by omega)]
    exact q4
   obtain ⟨q, q1, q2, q3, q4⟩ := ih ((i + j) / 2 - i) (by omega) i ((i + j) / 2) (by omega) (by omega) h3 (fun m hm hml => by
    have hle := hs.le ((i + j) / 2) (m - (i + j) / 2) (by omega)
    rw [show (i + j) / 2 + (m - (i + j) / 2) = m from by omega] at hle
    exact fun hp => hlt (List.lt_of_le_of_lt (List.not_lt.1 hle) hp))
   refine ⟨q, q1, q2, q3, Ev.step (fun k => xF47.l0.eq_2 ..) (Ev.ifT (by omega) ?_)⟩
   rw [half_eq i j (by omega)]
   refine Ev.ifT (by omega) (Ev.ifT (by rw [List.length_map]; omega) ?_)
   rw [rdB ws _ hh, less_eq, decide_eq_false hlt]
   exact Ev.some_bind (Ev.ifF Bool.false_ne_true q4)
  obtain rfl : i = j := by omega
  refine ⟨i, h2, h3, h4, Ev.step (fun k => xF47.l0.eq_2 ..) (Ev.ifF (by omega) ?_)⟩
  by_cases hn : i < ws.length
  ·
   refine Ev.ifT (by omega) (Ev.ifT (by omega) (Ev.ifT (by rw [List.length_map]; omega) ?_))
   rw [rdB ws i hn, toList_B, toList_B]
   by_cases e : ws.getD i [] = p
   ·
    rw [decide_eq_true (show p ∈ ws from e ▸ getD_mem hn)]
    exact Ev.ifT e (Ev.now _)
   have hm : ¬ p ∈ ws := fun hp => by
    obtain ⟨z1, z2⟩ := placeL_mem hp
    have hz : i ≤ placeL ws p := by
     by_cases hzi : placeL ws p < i
     ·
      have := h3 _ hzi; rw [z2] at this; exact absurd this (txt_irrefl _)
     omega
    have hle := hs.le i (placeL ws p - i) (by omega)
    rw [show i + (placeL ws p - i) = placeL ws p from by omega, z2] at hle
    exact e (txt_tri (h4 i (Nat.le_refl _) hn) hle)
   rw [decide_eq_false hm]
   refine Ev.ifF e ?_
   unfold xF52.f
   exact Ev.some_bind (Ev.ifF (by simp) (Ev.now _))
  have hm : ¬ p ∈ ws := fun hp => by
   obtain ⟨z1, z2⟩ := placeL_mem hp
   have := h3 _ (show placeL ws p < i by omega)
   rw [z2] at this
   exact txt_irrefl _ this
  rw [decide_eq_false hm]
  exact Ev.ifF (by omega) (Ev.now _)
theorem search_ev (ws : List Txt) (p : Txt) (hl : ws.length ≤ 1000000000) (hs : Srt ws) : ∃ q : Nat, q ≤ ws.length ∧ (∀ m, m < q → ws.getD m [] < p) ∧ (∀ m, q ≤ m → m < ws.length → ¬ ws.getD m [] < p) ∧ Ev (fun k => xF47.f k (ws.map B) (B p)) ((q : Int), decide (p ∈ ws)) := by
 unfold xF47.f
 have := search_loop ws p hl hs ws.length 0 ws.length (by omega) (Nat.le_refl _) (fun m hm => absurd hm (Nat.not_lt_zero _)) (fun m h1 h2 => absurd h2 (by omega))
 rw [List.length_map]
 exact this
def prefGo : List Nd → List Txt → Option (List Txt)
 | [], acc => some acc
 | n :: r, acc => if 0 ≤ n.f1 ∧ n.f1 < (acc.length : Int) ∧ 0 ≤ n.f0 ∧ n.f0 ≤ 25 then prefGo r (acc ++ [acc.getD n.f1.toNat [] ++ [UInt8.ofNat (97 + n.f0.toNat)]]) else none
def prefR : Option (List Txt) → List ByteArray × Bool
 | some ps => (ps.map B, true)
 | none => ([], false)
theorem letter_eq (n : Int) (h0 : 0 ≤ n) (h1 : n ≤ 25) : iF23.f n = some (B [UInt8.ofNat (97 + n.toNat)]) := by
 unfold iF23.f
 rw [strOfNums_B]
 congr 3
 rw [wrap64_id (by omega) (by omega)]
 congr 1
 omega
theorem getD_le {acc : List Txt} {b : Nat} (h : ∀ p ∈ acc, p.length ≤ b) (n : Nat) : (acc.getD n []).length ≤ b := by
 by_cases hn : n < acc.length
 ·
  exact h _ (getD_mem hn)
 rw [List.getD_eq_getElem?_getD, List.getElem?_eq_none (by omega)]; simp
theorem pref_loop (N' : List Nd) (hN : N'.length ≤ 1000000) : ∀ (d i : Nat) (acc : List Txt), i + d = N'.length → acc.length = i + 1 → (∀ p ∈ acc, p.length ≤ i) →
  Ev (fun k => iF15.l0 k (acc.map B) N' (N'.length : Int) (i : Int)) (prefR (prefGo (N'.drop i) acc)) := by
 intro d
 induction d with
 | zero =>
  intro i acc h1 h2 h3
  rw [List.drop_of_length_le (by omega)]
  exact Ev.step (fun k => iF15.l0.eq_2 ..) (Ev.ifF (by omega) (Ev.now _))
 | succ d ih =>
  intro i acc h1 h2 h3
  have hi : i < N'.length := by omega
  rw [List.drop_eq_getElem_cons hi]
  refine Ev.step (fun k => iF15.l0.eq_2 ..) (Ev.ifT (by omega) (Ev.ifT (by omega) (Ev.ifT (by omega) ?_)))
  rw [rd_get N' i hi, in_eq]
  unfold prefGo
  by_cases ha : 0 ≤ N'[i].f1 ∧ N'[i].f1 ≤ (i : Int)
  rotate_left
  ·
   rw [decide_eq_false ha, if_neg (fun h => ha ⟨h.1, by omega⟩)]
   exact Ev.some_bind (Ev.ifF Bool.false_ne_true (Ev.now _))
  rw [decide_eq_true ha]
  refine Ev.some_bind (Ev.ifT rfl ?_)
  rw [in_eq]
  by_cases hb : 0 ≤ N'[i].f0 ∧ N'[i].f0 ≤ 25
  rotate_left
  ·
   rw [decide_eq_false hb, if_neg (fun h => hb h.2.2)]
   exact Ev.some_bind (Ev.ifF Bool.false_ne_true (Ev.now _))
  rw [decide_eq_true hb, if_pos ⟨ha.1, by omega, hb.1, hb.2⟩]
  refine Ev.some_bind (Ev.ifT rfl (Ev.ifT ha.1 (Ev.ifT (by rw [List.length_map]; omega) ?_)))
  rw [letter_eq _ hb.1 hb.2]
  refine Ev.some_bind ?_
  obtain ⟨m, hm⟩ : ∃ m : Nat, N'[i].f1 = (m : Int) := ⟨N'[i].f1.toNat, by omega⟩
  have hml : m < acc.length := by omega
  have hmb := getD_le h3 m
  rw [hm, rdB acc m hml, Int.toNat_natCast]
  refine Ev.ifT (by rw [size_B, size_B, List.length_singleton]; omega) (Ev.ifT (by rw [List.length_map]; omega) ?_)
  rw [append_B, wrap64_succ i (by omega)]
  have := ih (i + 1) (acc ++ [acc.getD m [] ++ [UInt8.ofNat (97 + N'[i].f0.toNat)]]) (by omega) (by simp; omega) (fun p hp => by
   rcases List.mem_append.1 hp with hp | hp
   ·
    have := h3 p hp; omega
   rw [List.mem_singleton.1 hp]; simp; simpa using hmb)
  rw [List.map_append, List.map_singleton] at this
  exact this
def prefN (N : List Nd) : Option (List Txt) := if 1 ≤ N.length ∧ N.length ≤ 481 then prefGo (N.drop 1) [[]] else none
theorem prefixes_ev (N : List Nd) : Ev (fun k => iF15.f k N) (prefR (prefN N)) := by
 unfold iF15.f prefN
 simp only [in_eq]
 by_cases h : 1 ≤ N.length ∧ N.length ≤ 481
 ·
  rw [if_pos h, decide_eq_true (show (1 : Int) ≤ (N.length : Int) ∧ (N.length : Int) ≤ 481 by omega)]
  refine Ev.some_bind (Ev.ifT rfl (Ev.ifT (by omega) (Ev.some_bind ?_)))
  exact pref_loop (N.drop 1) (by rw [List.length_drop]; omega) (N.drop 1).length 0 [[]] (by omega) rfl (by simp)
 rw [if_neg h, decide_eq_false (show ¬ ((1 : Int) ≤ (N.length : Int) ∧ (N.length : Int) ≤ 481) by omega)]
 exact Ev.some_bind (Ev.ifF Bool.false_ne_true (Ev.now _))
theorem letterB_of (m : Nat) (h : m ≤ 25) : letterB (UInt8.ofNat (97 + m)) = true := by
 have : (UInt8.ofNat (97 + m)).toNat = 97 + m := by simp; omega
 simp only [letterB, this, decide_eq_true_eq]; omega
theorem prefGo_ok : ∀ (r : List Nd) (acc ps : List Txt), prefGo r acc = some ps → (∀ p ∈ acc, ∀ c ∈ p, letterB c = true) → (∀ p ∈ ps, ∀ c ∈ p, letterB c = true) ∧ ps.length = acc.length + r.length
 | [], acc, ps, h, ha => by
  obtain rfl := Option.some.inj h
  exact ⟨ha, rfl⟩
 | n :: r, acc, ps, h, ha => by
  unfold prefGo at h
  by_cases hc : 0 ≤ n.f1 ∧ n.f1 < (acc.length : Int) ∧ 0 ≤ n.f0 ∧ n.f0 ≤ 25
  ·
   rw [if_pos hc] at h
   obtain ⟨h1, h2⟩ := prefGo_ok r _ ps h (fun p hp c hcp => by
    rcases List.mem_append.1 hp with hp | hp
    ·
     exact ha p hp c hcp
    rw [List.mem_singleton.1 hp] at hcp
    rcases List.mem_append.1 hcp with hcp | hcp
    ·
     exact ha _ (getD_mem (by omega)) c hcp
    rw [List.mem_singleton.1 hcp]; exact letterB_of _ (by omega))
   exact ⟨h1, by rw [h2]; simp; omega⟩
  rw [if_neg hc] at h; cases h
theorem letter_last {p : Txt} (hw : wordL p = true) (h : p ≠ []) : UInt8.ofNat (97 + (ltrOf p).toNat) = p.getD (p.length - 1) 0 := by
 obtain ⟨h1, h2, h3⟩ := ltrOf_bd hw h
 have h4 := letter_bd ((wordL_iff.1 hw).1 _ (getLast_mem h))
 have e : 97 + (ltrOf p).toNat = (p.getD (p.length - 1) 0).toNat := by omega
 rw [e]; simp
theorem trN_get {P ws : List Txt} (i : Nat) (h : i < (trN P ws).length) : (trN P ws)[i] = mkN (ndL P ws (P.getD i [])) := by
 have h2 : i < P.length := by rwa [trN_length] at h
 rw [← rdN P ws i h2, rd_get _ i h]
theorem prefGo_tr {P : List Txt} (ws : List Txt) (hA : Asc P) (hC : Clo P) (hW : ∀ p ∈ P, wordL p = true) : ∀ (d i : Nat), i + d = P.length → 0 < i → prefGo ((trN P ws).drop i) (P.take i) = some P := by
 intro d
 induction d with
 | zero =>
  intro i h1 h2
  rw [List.drop_of_length_le (by rw [trN_length]; omega), List.take_of_length_le (by omega)]
  rfl
 | succ d ih =>
  intro i h1 h2
  have hi : i < P.length := by omega
  have hit : i < (trN P ws).length := by rw [trN_length]; exact hi
  have hne := clo_pos hA hC hi h2
  have hm := getD_mem hi
  obtain ⟨j1, j2⟩ := clo_parent hA hC hi h2
  obtain ⟨_, b1, b2⟩ := ltrOf_bd (hW _ hm) hne
  rw [List.drop_eq_getElem_cons hit, trN_get i hit]
  have hx : mkN (ndL P ws (P.getD i [])) = ⟨ltrOf (P.getD i []), (placeL P (P.getD i []).dropLast : Int), decide (P.getD i [] ∈ ws)⟩ := by unfold mkN ndL; rw [if_neg hne, if_neg hne]
  rw [hx]
  unfold prefGo
  have hl : (P.take i).length = i := by rw [List.length_take]; omega
  rw [if_pos ⟨Int.natCast_nonneg _, by show ((placeL P (P.getD i []).dropLast : Nat) : Int) < ((P.take i).length : Int); rw [hl]; exact Int.ofNat_lt.2 j1, b1, b2⟩]
  simp only [Int.toNat_natCast]
  have hg : (P.take i).getD (placeL P (P.getD i []).dropLast) [] = (P.getD i []).dropLast := by
   rw [getD_lt [] (by rw [hl]; exact j1), List.getElem_take, ← getD_lt [] (by omega), j2]
  rw [hg, letter_last (hW _ hm) hne, dropLast_getD _ hne, ← take_succ_getD [] hi]
  exact ih (i + 1) (by omega) (by omega)
theorem prefN_tr {ws : List Txt} (h : OkW ws) : prefN (trN (preL ws) ws) = some (preL ws) := by
 obtain ⟨z1, z2⟩ := clo_zero (asc_preL ws) (clo_preL ws)
 unfold prefN
 rw [trN_length, if_pos ⟨z1, h.pre⟩]
 have := prefGo_tr ws (asc_preL ws) (clo_preL ws) (fun p hp => preL_word h.word hp) ((preL ws).length - 1) 1 (by omega) (by omega)
 rw [show (preL ws).take 1 = [[]] from by rw [take_succ_getD [] z1, z2]; rfl] at this
 exact this
theorem prefixes_tr {ws : List Txt} (h : OkW ws) : Ev (fun k => iF15.f k (trN (preL ws) ws)) ((preL ws).map B, true) := by
 have := prefixes_ev (trN (preL ws) ws)
 rw [prefN_tr h] at this
 exact this
theorem trieOf_in (ws0 xs : List Txt) (w : Txt) (hw : w.length ≤ 12) (i : Nat) (hi : i ≤ 100000) (r : List Nd) (acc2 : List Txt) (hr : Ev (fun k => iF28.l0 k (ws0.map B) (acc2.map B) (xs.map B) (xs.length : Int) ((i + 1 : Nat) : Int)) r) :
  ∀ (d n : Nat) (acc : List Txt), n + d = w.length → acc ++ begF w (n + 1) d = acc2 → acc2.length ≤ 1000000 → Ev (fun k => iF28.l1 k (ws0.map B) (acc.map B) (B w) (xs.map B) (xs.length : Int) (i : Int) (w.length : Int) (n : Int)) r := by
 intro d
 induction d with
 | zero =>
  intro n acc h1 h2 h3
  rw [begF, List.append_nil] at h2
  subst h2
  refine Ev.step (fun k => iF28.l1.eq_2 ..) (Ev.ifF (by omega) ?_)
  rw [wrap64_succ i (by omega)]
  exact hr
 | succ d ih =>
  intro n acc h1 h2 h3
  have hl : acc.length ≤ 1000000 := by rw [← h2, List.length_append] at h3; omega
  refine Ev.step (fun k => iF28.l1.eq_2 ..) (Ev.ifT (by omega) ?_)
  rw [wrap64_succ n (by omega)]
  refine Ev.ifT (by omega) (Ev.ifT (by rw [size_B]; omega) (Ev.ifT (by rw [List.length_map]; omega) ?_))
  rw [extract_B, List.drop_zero, Int.toNat_natCast, Nat.sub_zero]
  have := ih (n + 1) (acc ++ [w.take (n + 1)]) (by omega) (by rw [← h2, begF]; simp) h3
  rw [List.map_append, List.map_singleton] at this
  exact this
theorem trieOf_out (ws0 xs : List Txt) (hl : xs.length ≤ 1000) (hw : ∀ w ∈ xs, w.length ≤ 12) (r : List Nd) (hr : Ev (fun k => iF28.l2 k (ws0.map B) ((preL xs).map B) ((preL xs).length : Int) 0 []) r) :
  ∀ (d i : Nat) (acc : List Txt), i + d = xs.length → acc ++ (xs.drop i).flatMap begs = [] :: xs.flatMap begs → Ev (fun k => iF28.l0 k (ws0.map B) (acc.map B) (xs.map B) (xs.length : Int) (i : Int)) r := by
 have hall := flatMap_begs_length xs hw
 have hpl := preL_length hw
 intro d
 induction d with
 | zero =>
  intro i acc h1 h2
  rw [List.drop_of_length_le (by omega), List.flatMap_nil, List.append_nil] at h2
  subst h2
  refine Ev.step (fun k => iF28.l0.eq_2 ..) (Ev.ifF (by omega) ?_)
  rw [set_eq _ (by rw [List.length_cons]; omega)]
  refine Ev.some_bind (Ev.ifT ?_ ?_)
  ·
   unfold SM.okL
   rw [Bool.and_eq_true, List.all_eq_true, decide_eq_true_eq]
   refine ⟨fun x hx => ?_, by rw [List.length_map]; show (preL xs).length ≤ _; omega⟩
   obtain ⟨y, hy, rfl⟩ := List.mem_map.1 hx
   have hy' : y ∈ preL xs := hy
   have : y.length ≤ 12 := by
    rcases mem_preL.1 hy' with rfl | ⟨w, hw', _, hp⟩
    ·
     simp
    exact Nat.le_trans hp.length_le (hw w hw')
   rw [decide_eq_true_eq, size_B]; omega
  rw [List.length_map]
  exact hr
 | succ d ih =>
  intro i acc h1 h2
  have hi : i < xs.length := by omega
  rw [drop_cons_getD [] hi, List.flatMap_cons, ← List.append_assoc] at h2
  refine Ev.step (fun k => iF28.l0.eq_2 ..) (Ev.ifT (by omega) (Ev.ifT (by omega) (Ev.ifT (by rw [List.length_map]; omega) ?_)))
  rw [rdB xs i hi, size_B]
  have hlen : (acc ++ begs (xs.getD i [])).length ≤ 1000000 := by
   have := congrArg List.length h2
   rw [List.length_append, List.length_cons] at this
   omega
  exact trieOf_in ws0 xs _ (hw _ (getD_mem hi)) i (by omega) r _ (ih (i + 1) _ (by omega) h2) (xs.getD i []).length 0 acc (by omega) (by rw [begs_begF]) hlen
theorem at_take {P : List Txt} (hA : Asc P) (q : Txt) (j : Nat) (hj : j < P.length) (hq : P.getD j [] = q) : ∀ n, n ≤ P.length → j < n → SM.at_ (List.take n (P.map B)) (B q) = (j : Int) := by
 intro n
 induction n with
 | zero => intro _ h; omega
 | succ n ih =>
  intro h1 h2
  have hn : n < P.length := by omega
  rw [← List.map_take, take_succ_getD [] hn, List.map_append, List.map_singleton]
  unfold SM.at_
  rw [List.reverse_append, List.reverse_singleton, List.singleton_append, SM.atR, data_B, data_B]
  by_cases e : P.getD n [] = q
  ·
   have : n = j := asc_inj hA hn hj (e.trans hq.symm)
   rw [if_pos e, List.length_reverse, List.length_map, List.length_take]; omega
  have hjn : j < n := by
   rcases Nat.lt_or_ge j n with h | h
   ·
    exact h
   have : j = n := by omega
   subst this; exact absurd hq e
  rw [if_neg e, List.map_take]
  exact ih (by omega) hjn
theorem trieOf_nodes {ws P : List Txt} (hs : Srt ws) (hA : Asc P) (hC : Clo P) (hW : ∀ p ∈ P, wordL p = true) (hP : P.length ≤ 100000) (hl : ws.length ≤ 100000) : ∀ (d i : Nat) (acc : List Nd), i + d = P.length → acc.length ≤ i →
  Ev (fun k => iF28.l2 k (ws.map B) (P.map B) (P.length : Int) (i : Int) acc) (acc ++ ((P.drop i).map fun p => mkN (ndL P ws p))) := by
 intro d
 induction d with
 | zero =>
  intro i acc h1 h2
  rw [List.drop_of_length_le (by omega), List.map_nil, List.append_nil]
  exact Ev.step (fun k => iF28.l2.eq_2 ..) (Ev.ifF (by omega) (Ev.now _))
 | succ d ih =>
  intro i acc h1 h2
  have hi : i < P.length := by omega
  have hm := getD_mem hi
  rw [drop_cons_getD [] hi, List.map_cons]
  refine Ev.step (fun k => iF28.l2.eq_2 ..) (Ev.ifT (by omega) (Ev.ifT (by omega) (Ev.ifT (by rw [List.length_map]; omega) ?_)))
  rw [rdB P i hi]
  obtain ⟨q, _, _, _, hq⟩ := search_ev ws (P.getD i []) (by omega) hs
  refine Ev.bind hq ?_
  have hcons : ∀ x : Nd, acc ++ (x :: (P.drop (i + 1)).map fun p => mkN (ndL P ws p)) = (acc ++ [x]) ++ (P.drop (i + 1)).map fun p => mkN (ndL P ws p) := fun x => by simp
  rw [hcons, toList_B]
  by_cases hp : P.getD i [] = []
  ·
   refine Ev.ifT hp (Ev.ifT (by omega) ?_)
   have hx : mkN (ndL P ws (P.getD i [])) = ⟨-1, -1, decide (P.getD i [] ∈ ws)⟩ := by unfold mkN ndL; rw [if_pos hp, if_pos hp]
   rw [hx, wrap64_succ i (by omega)]
   exact ih (i + 1) _ (by omega) (by simp; omega)
  have h0 : 0 < i := by
   rcases Nat.eq_zero_or_pos i with e | e
   ·
    rw [e, (clo_zero hA hC).2] at hp; exact absurd rfl hp
   exact e
  have hlen := List.length_pos_iff.2 hp
  have h12 := (wordL_iff.1 (hW _ hm)).2
  obtain ⟨j1, j2⟩ := clo_parent hA hC hi h0
  have hw1 : wrap64 (((B (P.getD i [])).size : Int) - 1) = ((P.getD i []).length - 1 : Nat) := by rw [size_B, wrap64_id (by omega) (by omega)]; omega
  rw [hw1]
  refine Ev.ifF hp (Ev.ifT (by omega) (Ev.ifT (by rw [size_B]; omega) (Ev.ifT (by rw [size_B]; omega) (Ev.ifT (by omega) ?_))))
  rw [extract_B, List.drop_zero, Int.toNat_natCast, Int.toNat_natCast, Nat.sub_zero, ← List.dropLast_eq_take, at_take hA _ _ (by omega) j2 (i + 1) (by omega) (by omega)]
  have hx : mkN (ndL P ws (P.getD i [])) = ⟨((bt (B (P.getD i [])) (((P.getD i []).length - 1 : Nat) : Int)) - 97) % 256, (placeL P (P.getD i []).dropLast : Int), decide (P.getD i [] ∈ ws)⟩ := by
   unfold mkN ndL
   rw [if_neg hp, if_neg hp, bt_B _ _ (by omega)]
   rfl
  rw [hx, wrap64_succ i (by omega)]
  exact ih (i + 1) _ (by omega) (by simp; omega)
theorem trieOf_srt {ws : List Txt} (hs : Srt ws) (hw : ∀ w ∈ ws, wordL w = true) (hl : ws.length ≤ 1000) : Ev (fun k => iF28.f k (ws.map B)) (trN (preL ws) ws) := by
 have hle : ∀ w ∈ ws, w.length ≤ 12 := fun w h => (wordL_iff.1 (hw w h)).2
 have hpl := preL_length hle
 have hn := trieOf_nodes hs (asc_preL ws) (clo_preL ws) (fun p hp => preL_word hw hp) (by omega) (by omega) (preL ws).length 0 [] (by omega) (by simp)
 rw [List.drop_zero, List.nil_append] at hn
 have e : (preL ws).map (fun p => mkN (ndL (preL ws) ws p)) = trN (preL ws) ws := by unfold trN nodesL; rw [List.map_map]; rfl
 rw [e] at hn
 unfold iF28.f
 rw [List.length_map]
 exact trieOf_out ws ws hl hle _ hn ws.length 0 [[]] (by omega) rfl
theorem trieOf_ev {ws : List Txt} (h : OkW ws) : Ev (fun k => iF28.f k (ws.map B)) (trN (preL ws) ws) := trieOf_srt (srt_asc h.asc) h.word (by have := h.len; omega)
theorem trN_set {ws : List Txt} : trN (preL ws) ws = trN (preL (setL ws)) (setL ws) := by
 have e : preL (setL ws) = preL ws := preL_congr fun w => mem_setL ws w
 rw [e]
 unfold trN nodesL
 rw [List.map_map, List.map_map]
 refine List.map_congr_left fun p _ => ?_
 show mkN (ndL (preL ws) ws p) = mkN (ndL (preL ws) (setL ws) p)
 unfold ndL
 rw [show decide (p ∈ ws) = decide (p ∈ setL ws) from decide_eq_decide.2 (mem_setL ws p).symm]
def wordsGo : List Nd → List Txt → List Txt
 | n :: r, p :: ps => if n.f2 = true then p :: wordsGo r ps else wordsGo r ps
 | _, _ => []
theorem wordsGo_mem : ∀ (N : List Nd) (ps : List Txt) (w : Txt), w ∈ wordsGo N ps → w ∈ ps
 | n :: r, p :: ps, w, h => by
  unfold wordsGo at h
  by_cases hf : n.f2 = true
  ·
   rw [if_pos hf] at h
   rcases List.mem_cons.1 h with e | h
   ·
    rw [e]; exact List.mem_cons_self
   exact List.mem_cons_of_mem _ (wordsGo_mem r ps w h)
  rw [if_neg hf] at h
  exact List.mem_cons_of_mem _ (wordsGo_mem r ps w h)
 | [], _, _, h => by simp [wordsGo] at h
 | _ :: _, [], _, h => by simp [wordsGo] at h
theorem wordsGo_len : ∀ (N : List Nd) (ps : List Txt), (wordsGo N ps).length ≤ N.length
 | n :: r, p :: ps => by
  have := wordsGo_len r ps
  unfold wordsGo
  by_cases hf : n.f2 = true
  ·
   rw [if_pos hf, List.length_cons, List.length_cons]; omega
  rw [if_neg hf, List.length_cons]; omega
 | [], _ => by simp [wordsGo]
 | _ :: _, [] => by simp [wordsGo]
theorem wordsGo_tr (P ws : List Txt) : ∀ Q : List Txt, wordsGo (Q.map fun p => mkN (ndL P ws p)) Q = Q.filter fun p => decide (p ∈ ws)
 | [] => rfl
 | q :: Q => by
  rw [List.map_cons, wordsGo, wordsGo_tr P ws Q, List.filter_cons]
  rfl
theorem words_loop (N : List Nd) (ps : List Txt) (hN : N.length ≤ 1000000) (hp : ps.length = N.length) : ∀ (d i : Nat) (acc : List Txt), i + d = N.length → acc.length ≤ i →
  Ev (fun k => iF17.l0 k (ps.map B) (acc.map B) N (N.length : Int) (i : Int)) ((acc ++ wordsGo (N.drop i) (ps.drop i)).map B) := by
 intro d
 induction d with
 | zero =>
  intro i acc h1 h2
  rw [List.drop_of_length_le (by omega)]
  exact Ev.step (fun k => iF17.l0.eq_2 ..) (Ev.ifF (by omega) (by simpa [wordsGo] using Ev.now _))
 | succ d ih =>
  intro i acc h1 h2
  have hi : i < N.length := by omega
  rw [List.drop_eq_getElem_cons hi, drop_cons_getD [] (show i < ps.length by omega), wordsGo]
  refine Ev.step (fun k => iF17.l0.eq_2 ..) (Ev.ifT (by omega) (Ev.ifT (by omega) (Ev.ifT (by omega) ?_)))
  rw [rd_get N i hi]
  by_cases hf : N[i].f2 = true
  ·
   rw [if_pos hf]
   refine Ev.ifT hf (Ev.ifT (by rw [List.length_map]; omega) (Ev.ifT (by rw [List.length_map]; omega) ?_))
   rw [rdB ps i (by omega), wrap64_succ i (by omega)]
   have := ih (i + 1) (acc ++ [ps.getD i []]) (by omega) (by simp; omega)
   rw [List.map_append (l₁ := acc), List.map_singleton, List.append_assoc] at this
   exact this
  rw [if_neg hf]
  refine Ev.ifF hf ?_
  rw [wrap64_succ i (by omega)]
  exact ih (i + 1) acc (by omega) (by omega)
theorem words_of {N : List Nd} {ps : List Txt} (h : prefN N = some ps) : N.length ≤ 481 ∧ ps.length = N.length ∧ (∀ p ∈ ps, ∀ c ∈ p, letterB c = true) ∧ Ev (fun k => iF17.f k N) ((wordsGo N ps).map B) := by
 have hp := prefixes_ev N
 rw [h] at hp
 unfold prefN at h
 by_cases hn : 1 ≤ N.length ∧ N.length ≤ 481
 ·
  rw [if_pos hn] at h
  obtain ⟨h1, h2⟩ := prefGo_ok _ _ _ h (by simp)
  rw [List.length_drop, List.length_singleton] at h2
  refine ⟨hn.2, by omega, h1, ?_⟩
  unfold iF17.f
  refine Ev.bind hp ?_
  exact words_loop N ps (by omega) (by omega) N.length 0 [] (by omega) (by simp)
 rw [if_neg hn] at h; cases h
theorem words_ev {ws : List Txt} (h : OkW ws) : Ev (fun k => iF17.f k (trN (preL ws) ws)) (ws.map B) := by
 obtain ⟨_, _, _, h4⟩ := words_of (prefN_tr h)
 have e : wordsGo (trN (preL ws) ws) (preL ws) = ws := by
  have : trN (preL ws) ws = (preL ws).map fun p => mkN (ndL (preL ws) ws p) := by unfold trN nodesL; rw [List.map_map]; rfl
  rw [this, wordsGo_tr, filter_preL h.asc]
 rwa [e] at h4
theorem node_ne (a b : S96) : (!(a.f0 == b.f0) || (!(a.f1 == b.f1) || (!(a.f2 == b.f2)))) = decide (a ≠ b) := by
 obtain ⟨a0, a1, a2⟩ := a
 obtain ⟨b0, b1, b2⟩ := b
 rw [Bool.eq_iff_iff]
 simp only [Bool.or_eq_true, Bool.not_eq_true', beq_eq_false_iff_ne, decide_eq_true_eq, ne_eq, S96.mk.injEq]
 constructor
 ·
  rintro (h | h | h) ⟨e1, e2, e3⟩
  ·
   exact h e1
  ·
   exact h e2
  exact h e3
 intro h
 by_cases e1 : a0 = b0
 ·
  by_cases e2 : a1 = b1
  ·
   exact .inr (.inr fun e3 => h ⟨e1, e2, e3⟩)
  exact .inr (.inl e2)
 exact .inl e1
theorem isSorted_loop (ws : List Txt) (hl : ws.length ≤ 4611686018427387903) : ∀ (n : Nat), n < ws.length → ∃ b : Bool, (b = true ↔ ∀ j, j < n → ¬ ws.getD (j + 1) [] < ws.getD j []) ∧ Ev (fun k => xF51.l0 k (ws.map B) (n : Int)) b := by
 intro n
 induction n with
 | zero =>
  intro _
  exact ⟨true, by simp, Ev.step (fun k => xF51.l0.eq_2 ..) (Ev.ifF (by simp) (Ev.now _))⟩
 | succ n ih =>
  intro hn
  have hw : wrap64 (((n + 1 : Nat) : Int) - 1) = (n : Int) := by rw [wrap64_id (by omega) (by omega)]; omega
  by_cases hlt : ws.getD (n + 1) [] < ws.getD n []
  ·
   refine ⟨false, ?_, Ev.step (fun k => xF51.l0.eq_2 ..) (Ev.ifT (by omega) (Ev.ifT (by omega) (Ev.ifT (by rw [List.length_map]; omega) (Ev.ifT (by rw [hw]; omega) (Ev.ifT (by rw [hw, List.length_map]; omega) ?_)))))⟩
   ·
    simp only [Bool.false_eq_true, false_iff]
    exact fun h => h n (Nat.lt_succ_self n) hlt
   rw [hw, rdB ws (n + 1) hn, rdB ws n (by omega), less_eq, decide_eq_true hlt]
   exact Ev.some_bind (Ev.ifT rfl (Ev.now _))
  obtain ⟨b, hb, he⟩ := ih (by omega)
  refine ⟨b, hb.trans ⟨fun h j hj => ?_, fun h j hj => h j (by omega)⟩, Ev.step (fun k => xF51.l0.eq_2 ..) (Ev.ifT (by omega) (Ev.ifT (by omega) (Ev.ifT (by rw [List.length_map]; omega) (Ev.ifT (by rw [hw]; omega) (Ev.ifT (by rw [hw, List.length_map]; omega) ?_)))))⟩
  ·
   by_cases e : j = n
   ·
    rw [e]; exact hlt
   exact h j (by omega)
  rw [hw, rdB ws (n + 1) hn, rdB ws n (by omega), less_eq, decide_eq_false hlt]
  exact Ev.some_bind (Ev.ifF Bool.false_ne_true he)
theorem isSorted_ev (ws : List Txt) (hl : ws.length ≤ 4611686018427387903) : ∃ b : Bool, (b = true ↔ Srt ws) ∧ Ev (fun k => xF51.f k (ws.map B)) b := by
 unfold xF51.f
 rcases Nat.eq_zero_or_pos ws.length with h0 | h0
 ·
  refine ⟨true, ⟨fun _ j hj => by omega, fun _ => rfl⟩, ?_⟩
  rw [List.length_map, h0]
  exact Ev.step (fun k => xF51.l0.eq_2 ..) (Ev.ifF (by rw [wrap64_id (by omega) (by omega)]; omega) (Ev.now _))
 obtain ⟨b, hb, he⟩ := isSorted_loop ws hl (ws.length - 1) (by omega)
 refine ⟨b, hb.trans ⟨fun h j hj => h j (by omega), fun h j hj => h j (by omega)⟩, ?_⟩
 rw [List.length_map, show wrap64 ((ws.length : Int) - 1) = ((ws.length - 1 : Nat) : Int) from by rw [wrap64_id (by omega) (by omega)]; omega]
 exact he
theorem equal_loop (M N : List Nd) (hM : M.length ≤ 4611686018427387903) (he : M.length = N.length) : ∀ (d i : Nat), i + d = M.length → Ev (fun k => iF8.l0 k M N (M.length : Int) (i : Int)) (decide (M.drop i = N.drop i)) := by
 intro d
 induction d with
 | zero =>
  intro i h1
  refine Ev.step (fun k => iF8.l0.eq_2 ..) (Ev.ifF (by omega) ?_)
  rw [decide_eq_true (show M.drop i = N.drop i by rw [List.drop_of_length_le (by omega), List.drop_of_length_le (by omega)])]
  exact Ev.now _
 | succ d ih =>
  intro i h1
  refine Ev.step (fun k => iF8.l0.eq_2 ..) (Ev.ifT (by omega) (Ev.ifT (by omega) (Ev.ifT (by omega) (Ev.ifT (by omega) ?_))))
  rw [node_ne, rd_get M i (by omega), rd_get N i (by omega), List.drop_eq_getElem_cons (show i < M.length by omega), List.drop_eq_getElem_cons (show i < N.length by omega)]
  by_cases e : M[i] = N[i]
  ·
   refine Ev.ifF (by simp [e]) ?_
   rw [wrap64_succ i (by omega), show decide (M[i] :: M.drop (i + 1) = N[i] :: N.drop (i + 1)) = decide (M.drop (i + 1) = N.drop (i + 1)) from decide_eq_decide.2 ⟨fun h => (List.cons.inj h).2, fun h => by rw [e, h]⟩]
   exact ih (i + 1) (by omega)
  refine Ev.ifT (by simp [e]) ?_
  rw [show decide (M[i] :: M.drop (i + 1) = N[i] :: N.drop (i + 1)) = false from decide_eq_false fun h => e (List.cons.inj h).1]
  exact Ev.now _
theorem equal_ev (M N : List Nd) (hM : M.length ≤ 4611686018427387903) : Ev (fun k => iF8.f k M N) (decide (M = N)) := by
 unfold iF8.f
 by_cases he : M.length = N.length
 ·
  refine Ev.ifT (by omega) ?_
  have := equal_loop M N hM he M.length 0 (by omega)
  rwa [List.drop_zero, List.drop_zero] at this
 rw [decide_eq_false fun e => he (by rw [e])]
 exact Ev.ifF (by omega) (Ev.now _)
theorem isTrie_ev (N : List Nd) : ∃ b : Bool, (b = true ↔ IsTr N) ∧ Ev (fun k => iF20.f k N) b := by
 have hpre := prefixes_ev N
 have no : ∀ M : List Nd, Ev (fun k => iF20.j0 k true M) false := fun M => Ev.step (fun k => iF20.j0.eq_2 ..) (Ev.ifT rfl (Ev.now _))
 cases hp : prefN N with
 | none =>
  rw [hp] at hpre
  refine ⟨false, ?_, ?_⟩
  ·
   simp only [Bool.false_eq_true, false_iff]
   rintro ⟨ws, h, rfl⟩
   rw [prefN_tr h] at hp; cases hp
  unfold iF20.f
  exact Ev.bind hpre (Ev.ifF Bool.false_ne_true (no N))
 | some ps =>
  rw [hp] at hpre
  obtain ⟨w1, w2, w3, w4⟩ := words_of hp
  have hany : iF21.f (ps.map B) = some (decide (∃ p ∈ ps, 12 < p.length)) := by
   unfold iF21.f
   congr 1
   rw [Bool.eq_iff_iff, List.any_eq_true, decide_eq_true_eq]
   constructor
   ·
    rintro ⟨x, hx, e⟩
    obtain ⟨y, hy, rfl⟩ := List.mem_map.1 hx
    refine ⟨y, hy, ?_⟩
    unfold iF21.p at e
    rw [size_B, decide_eq_true_eq] at e
    omega
   rintro ⟨y, hy, e⟩
   refine ⟨B y, List.mem_map.2 ⟨y, hy, rfl⟩, ?_⟩
   unfold iF21.p
   rw [size_B, decide_eq_true_eq]
   omega
  by_cases hlong : ∃ p ∈ ps, 12 < p.length
  ·
   rw [decide_eq_true hlong] at hany
   refine ⟨false, ?_, ?_⟩
   ·
    simp only [Bool.false_eq_true, false_iff]
    rintro ⟨ws, h, rfl⟩
    rw [prefN_tr h] at hp
    obtain rfl := Option.some.inj hp
    obtain ⟨p, hpm, hpl⟩ := hlong
    have := (wordL_iff.1 (preL_word h.word hpm)).2
    omega
   unfold iF20.f
   refine Ev.bind hpre (Ev.ifT rfl ?_)
   show Ev (fun k => (iF21.f (ps.map B)).bind _) false
   rw [hany]
   exact Ev.some_bind (no N)
  rw [decide_eq_false hlong] at hany
  have hword : ∀ w ∈ wordsGo N ps, wordL w = true := fun w hw => by
   have hm := wordsGo_mem N ps w hw
   refine wordL_iff.2 ⟨w3 w hm, ?_⟩
   rcases Nat.lt_or_ge 12 w.length with h | h
   ·
    exact absurd ⟨w, hm, h⟩ hlong
   exact h
  have hwl := wordsGo_len N ps
  have hcase : ∀ b : Bool, Ev (fun k => iF20.j0 k false N) b → Ev (fun k => iF20.f k N) b := fun b hb => by
   unfold iF20.f
   refine Ev.bind hpre (Ev.ifT rfl ?_)
   show Ev (fun k => (iF21.f (ps.map B)).bind _) b
   rw [hany]
   exact Ev.some_bind hb
  have hval : ∀ ws, OkW ws → N = trN (preL ws) ws → wordsGo N ps = ws := fun ws h e => by
   subst e
   rw [prefN_tr h] at hp
   obtain rfl := Option.some.inj hp
   have : trN (preL ws) ws = (preL ws).map fun p => mkN (ndL (preL ws) ws p) := by unfold trN nodesL; rw [List.map_map]; rfl
   rw [this, wordsGo_tr, filter_preL h.asc]
  by_cases h40 : (wordsGo N ps).length ≤ 40
  rotate_left
  ·
   refine ⟨false, ?_, hcase _ (Ev.step (fun k => iF20.j0.eq_2 ..) (Ev.ifF Bool.false_ne_true (Ev.bind w4 (Ev.ifF (by rw [List.length_map]; omega) (Ev.now _)))))⟩
   simp only [Bool.false_eq_true, false_iff]
   rintro ⟨ws, h, e⟩
   rw [hval ws h e] at h40
   exact h40 h.len
  obtain ⟨b, hb, hsv⟩ := isSorted_ev (wordsGo N ps) (by omega)
  by_cases hs : Srt (wordsGo N ps)
  ·
   have hbt := hb.2 hs
   subst hbt
   refine ⟨decide (trN (preL (wordsGo N ps)) (wordsGo N ps) = N), ?_, hcase _ ?_⟩
   ·
    rw [decide_eq_true_eq]
    constructor
    ·
     intro e
     refine ⟨setL (wordsGo N ps), ⟨asc_setL _, Nat.le_trans (setL_length_le _) h40, fun w hw => hword w ((mem_setL _ w).1 hw)⟩, ?_⟩
     rw [← trN_set, e]
    rintro ⟨ws, h, e⟩
    rw [hval ws h e, e]
   refine Ev.step (fun k => iF20.j0.eq_2 ..) (Ev.ifF Bool.false_ne_true (Ev.bind w4 (Ev.ifT (by rw [List.length_map]; omega) (Ev.bind hsv (Ev.ifT rfl (Ev.bind (trieOf_srt hs hword (by omega)) (Ev.bind (equal_ev _ _ ?_) (Ev.now _))))))))
   rw [trN_length]
   have := preL_length (ws := wordsGo N ps) (fun w hw => (wordL_iff.1 (hword w hw)).2)
   omega
  have hbf : b = false := by
   cases b with
   | false => rfl
   | true => exact absurd (hb.1 rfl) hs
  subst hbf
  refine ⟨false, ?_, hcase _ (Ev.step (fun k => iF20.j0.eq_2 ..) (Ev.ifF Bool.false_ne_true (Ev.bind w4 (Ev.ifT (by rw [List.length_map]; omega) (Ev.bind hsv (Ev.ifF Bool.false_ne_true (Ev.now _)))))))⟩
  simp only [Bool.false_eq_true, false_iff]
  rintro ⟨ws, h, e⟩
  exact hs (by rw [hval ws h e]; exact srt_asc h.asc)
theorem index_ev (l : List Txt) (p : Txt) (hl : l.length ≤ 1000000) (h : p ∈ l) : Ev (fun k => xF50.f k (l.map B) (B p)) ((placeL l p : Nat) : Int) := by
 have loop : ∀ d i, i + d = l.length → p ∈ l.drop i → Ev (fun k => xF50.l0 k (l.map B) (B p) (l.length : Int) (i : Int)) ((i + placeL (l.drop i) p : Nat) : Int) := by
  intro d
  induction d with
  | zero => intro i h1 h2; rw [List.drop_of_length_le (by omega)] at h2; simp at h2
  | succ d ih =>
   intro i h1 h2
   have hi : i < l.length := by omega
   rw [drop_cons_getD [] hi] at h2 ⊢
   refine Ev.step (fun k => xF50.l0.eq_2 ..) (Ev.ifT (by omega) (Ev.ifT (by omega) (Ev.ifT (by rw [List.length_map]; omega) ?_)))
   rw [rdB l i hi, toList_B, toList_B, placeL]
   by_cases e : l.getD i [] = p
   ·
    rw [if_pos e]
    exact Ev.ifT e.symm (Ev.now _)
   rw [if_neg e]
   refine Ev.ifF (fun q => e q.symm) ?_
   rw [wrap64_succ i (by omega), show i + (placeL (l.drop (i + 1)) p + 1) = i + 1 + placeL (l.drop (i + 1)) p from by omega]
   exact ih (i + 1) (by omega) ((List.mem_cons.1 h2).resolve_left fun q => e q.symm)
 have := loop l.length 0 (by omega) (by rw [List.drop_zero]; exact h)
 rw [List.drop_zero, Nat.zero_add] at this
 unfold xF50.f
 rw [List.length_map]
 exact this
theorem index_miss (l : List Txt) (p : Txt) (hl : l.length ≤ 1000000) (h : p ∉ l) : Ev (fun k => xF50.f k (l.map B) (B p)) (-1) := by
 have loop : ∀ d i, i + d = l.length → Ev (fun k => xF50.l0 k (l.map B) (B p) (l.length : Int) (i : Int)) (-1) := by
  intro d
  induction d with
  | zero => intro i h1; exact Ev.step (fun k => xF50.l0.eq_2 ..) (Ev.ifF (by omega) (Ev.now _))
  | succ d ih =>
   intro i h1
   have hi : i < l.length := by omega
   refine Ev.step (fun k => xF50.l0.eq_2 ..) (Ev.ifT (by omega) (Ev.ifT (by omega) (Ev.ifT (by rw [List.length_map]; omega) ?_)))
   rw [rdB l i hi, toList_B, toList_B, wrap64_succ i (by omega)]
   refine Ev.ifF (fun e => h ?_) (ih (i + 1) (by omega))
   rw [e]
   exact getD_mem hi
 unfold xF50.f
 rw [List.length_map]
 exact loop l.length 0 (by omega)
theorem areLettersW_eq (l : List UInt8) (hl : l.length ≤ 9223372036854775807) : iF18.f (B l) = some (l.all letterB) := by
 unfold iF18.f
 rw [if_pos (by simpa using hl), data_B]
 rfl
theorem isWord_eq (l : List UInt8) : iF22.f (B l) = some (wordL l) := by
 unfold iF22.f wordL
 by_cases h : l.length ≤ 12
 ·
  rw [if_pos (by simp; omega), areLettersW_eq l (by omega)]; simp [h]
 rw [if_neg (by simp; omega)]; simp [h]
end Go.Proofs.YtnnkedeohfbkeaaGreatDoor.L
namespace Go.Proofs.YtnnkedeohfbkeaaGreatDoor.L
open Go.RowKit Go.Proofs.YtnnkedeohfbkeaaGreatDoor.P Go.Proofs.YtnnkedeohfbkeaaGreatDoor.M Go.Proofs.YtnnkedeohfbkeaaGreatDoorW.PrintWords Go.Proofs.YtnnkedeohfbkeaaGreatDoorW.PrintLast Go.Proofs.YtnnkedeohfbkeaaGreatDoorW.PrintMore
namespace Mach
theorem f1_pos {P : List Txt} (ws : List Txt) (hA : Asc P) (hC : Clo P) {j : Nat} (hj : j < P.length) (h0 : 0 < j) : (rd_T96 (trN P ws) (j : Int)).f1 = (placeL P (P.getD j []).dropLast : Int) := by
 rw [rdN P ws j hj]
 show (if P.getD j [] = [] then -1 else (placeL P (P.getD j []).dropLast : Int)) = _
 rw [if_neg (clo_pos hA hC hj h0)]
theorem f0_pos {P : List Txt} (ws : List Txt) (hA : Asc P) (hC : Clo P) (hW : ∀ p ∈ P, wordL p = true) {j : Nat} (hj : j < P.length) (hne : P.getD j [] ≠ []) : (rd_T96 (trN P ws) (j : Int)).f0 = (((P.getD j []).getD ((P.getD j []).length - 1) 0).toNat : Int) - 97 := by
 rw [rdN P ws j hj]
 unfold mkN ndL
 rw [if_neg hne]
 exact (ltrOf_bd (hW _ (getD_mem hj)) hne).1
theorem f2_eq {P : List Txt} (ws : List Txt) {j : Nat} (hj : j < P.length) : (rd_T96 (trN P ws) (j : Int)).f2 = decide (P.getD j [] ∈ ws) := by
 rw [rdN P ws j hj]; rfl
def isKid (P : List Txt) (p : Txt) (j : Nat) : Bool := decide (P.getD j [] ≠ [] ∧ (P.getD j []).dropLast = p)
def kidU (P : List Txt) (p : Txt) (n : Nat) : List Int := ((List.range n).filter (isKid P p)).map fun j : Nat => (j : Int)
theorem kidU_succ (P : List Txt) (p : Txt) (n : Nat) : kidU P p (n + 1) = kidU P p n ++ if isKid P p n = true then [(n : Int)] else [] := by
 unfold kidU
 rw [List.range_succ, List.filter_append, List.map_append]
 congr 1
 by_cases h : isKid P p n = true
 ·
  rw [if_pos h, List.filter_cons, if_pos h]; rfl
 rw [if_neg h, List.filter_cons, if_neg h]; rfl
theorem kidU_length (P : List Txt) (p : Txt) (n : Nat) : (kidU P p n).length ≤ n := by
 unfold kidU
 rw [List.length_map]
 exact Nat.le_trans (List.length_filter_le _ _) (by simp)
theorem range_getD (P : List Txt) : (List.range P.length).map (fun j => P.getD j []) = P := by
 apply List.ext_getElem?
 intro j
 rw [List.getElem?_map]
 by_cases h : j < P.length
 ·
  rw [List.getElem?_range h, Option.map_some, getD_lt [] h, List.getElem?_eq_getElem h]
 rw [List.getElem?_eq_none (by simp; omega), List.getElem?_eq_none (by omega)]; rfl
theorem kidU_all {P : List Txt} (hA : Asc P) (p : Txt) : kidU P p P.length = (kidsL P p).map fun q => (placeL P q : Int) := by
 have e : kidsL P p = ((List.range P.length).filter (isKid P p)).map fun j => P.getD j [] := by
  unfold kidsL
  conv => lhs; rw [← range_getD P]
  rw [List.filter_map]
  rfl
 rw [e, List.map_map]
 unfold kidU
 refine List.map_congr_left fun j hj => ?_
 have h1 := List.mem_range.1 (List.mem_filter.1 hj).1
 show (j : Int) = _
 simp only [Function.comp]
 rw [placeL_get hA h1]
def kidW (ws : List Txt) (i : Nat) : List Int := (letsL (behL ws ((preL ws).getD i []))).map fun c => (placeL (preL ws) ((preL ws).getD i [] ++ [c]) : Int)
theorem kidW_eq {ws : List Txt} (h : OkW ws) (i : Nat) : kidU (preL ws) ((preL ws).getD i []) (preL ws).length = kidW ws i := by
 rw [kidU_all (asc_preL ws), kidsL_eq h, List.map_map]
 rfl
theorem kidW_length (ws : List Txt) (i : Nat) : (kidW ws i).length = (letsL (behL ws ((preL ws).getD i []))).length := List.length_map _
theorem resL_get {ws : List Txt} {i : Nat} (hi : i < (preL ws).length) : (resL ws).getD i [] = behL ws ((preL ws).getD i []) := by
 unfold resL
 rw [getD_lt _ (by simpa using hi), getD_lt _ hi, List.getElem_map]
theorem kid_at {ws : List Txt} (h : OkW ws) {i j : Nat} (hi : i < (preL ws).length) (hj : j < (kidW ws i).length) :
  ∃ q : Nat, (kidW ws i).getD j 0 = (q : Int) ∧ q < (preL ws).length ∧ i < q ∧ (letsL ((resL ws).getD i [])).getD j 0 ∈ letsL ((resL ws).getD i []) ∧
   (rd_T96 (trN (preL ws) ws) (q : Int)).f0 = (((letsL ((resL ws).getD i [])).getD j 0).toNat : Int) - 97 ∧ (resL ws).getD q [] = succL ((resL ws).getD i []) ((letsL ((resL ws).getD i [])).getD j 0) := by
 rw [resL_get hi]
 have hl : j < (letsL (behL ws ((preL ws).getD i []))).length := by rw [← kidW_length]; exact hj
 have hm : (letsL (behL ws ((preL ws).getD i []))).getD j 0 ∈ letsL (behL ws ((preL ws).getD i [])) := by rw [getD_lt 0 hl]; exact List.getElem_mem _
 have hp := pre_snoc.2 ((mem_letsL (Res.beh12 h ((preL ws).getD i []))).1 hm)
 obtain ⟨q1, q2⟩ := placeL_mem hp
 refine ⟨_, ?_, q1, ?_, hm, ?_, ?_⟩
 ·
  unfold kidW
  rw [getD_lt 0 (by simpa using hl), List.getElem_map, getD_lt 0 hl]
 ·
  refine asc_get_lt (asc_preL ws) hi q1 ?_
  rw [q2]
  exact txt_lt_snoc _ _
 ·
  rw [f0_pos ws (asc_preL ws) (clo_preL ws) (fun p hp => preL_word h.word hp) q1 (by rw [q2]; simp), q2]
  simp
 rw [resL_get q1, q2, behL_snoc h.asc]
end Mach
end Go.Proofs.YtnnkedeohfbkeaaGreatDoor.L
namespace Go.Proofs.YtnnkedeohfbkeaaGreatDoor.L
open Go.RowKit Go.Proofs.YtnnkedeohfbkeaaGreatDoor.P Go.Proofs.YtnnkedeohfbkeaaGreatDoor.M Go.Proofs.YtnnkedeohfbkeaaGreatDoorW.PrintWords Go.Proofs.YtnnkedeohfbkeaaGreatDoorW.PrintLast Go.Proofs.YtnnkedeohfbkeaaGreatDoorW.PrintMore
namespace Mach
def fL (ws : List Txt) (n : Nat) : List (List Txt) := firstL [] ((resL ws).take n)
theorem fL_zero (ws : List Txt) : fL ws 0 = [] := rfl
theorem fL_succ {ws : List Txt} {n : Nat} (h : n < (preL ws).length) : fL ws (n + 1) = if (resL ws).getD n [] ∈ fL ws n then fL ws n else fL ws n ++ [(resL ws).getD n []] := by
 unfold fL
 rw [take_succ_getD [] (by rw [resL_length]; exact h), firstL_snoc]
theorem fL_all (ws : List Txt) : fL ws (preL ws).length = dL ws := by
 unfold fL dL
 rw [List.take_of_length_le (by rw [resL_length]; exact Nat.le_refl _)]
theorem fL_pre (ws : List Txt) : ∀ d n, n + d = (preL ws).length → fL ws n <+: dL ws
 | 0, n, h => by rw [show n = (preL ws).length from by omega, fL_all]; exact List.prefix_refl _
 | d + 1, n, h => by
  refine List.IsPrefix.trans ?_ (fL_pre ws d (n + 1) (by omega))
  rw [fL_succ (by omega)]
  split
  ·
   exact List.prefix_refl _
  exact List.prefix_append _ _
theorem fL_pre' {ws : List Txt} {n : Nat} (h : n ≤ (preL ws).length) : fL ws n <+: dL ws := fL_pre ws _ n (Nat.add_sub_of_le h)
theorem fL_nodup (ws : List Txt) (n : Nat) : (fL ws n).Nodup := firstL_nodup _ _ List.nodup_nil
theorem fL_length (ws : List Txt) (n : Nat) (h : n ≤ (preL ws).length) : (fL ws n).length ≤ n := by
 have := firstL_length ((resL ws).take n) []
 rw [List.length_take, resL_length] at this
 unfold fL
 simp at this
 omega
theorem fL_mem {ws : List Txt} {n : Nat} (h : n < (preL ws).length) : (resL ws).getD n [] ∈ fL ws (n + 1) := by
 rw [fL_succ h]
 split
 ·
  assumption
 exact List.mem_append_right _ (List.mem_singleton.2 rfl)
theorem res_mem {ws : List Txt} {n : Nat} (h : n < (preL ws).length) : (resL ws).getD n [] ∈ dL ws := (fL_pre' (by omega)).subset (fL_mem h)
theorem idx_met {ws : List Txt} {n : Nat} (h : n ≤ (preL ws).length) {b : List Txt} (hb : b ∈ fL ws n) : (dL ws).idxOf b = (fL ws n).idxOf b := idx_pre (fL_pre' h) hb
theorem idx_first {ws : List Txt} {n : Nat} (h : n < (preL ws).length) (hn : (resL ws).getD n [] ∉ fL ws n) : (dL ws).idxOf ((resL ws).getD n []) = (fL ws n).length := by
 rw [idx_met (n := n + 1) (by omega) (fL_mem h), fL_succ h, if_neg hn, idx_new hn]
theorem idx_lt {ws : List Txt} {b : List Txt} (h : b ∈ dL ws) : (dL ws).idxOf b < (dL ws).length := List.idxOf_lt_length_of_mem h
theorem idx_old {ws : List Txt} {n : Nat} (h : n ≤ (preL ws).length) {b : List Txt} (hb : b ∈ fL ws n) : (dL ws).idxOf b < (fL ws n).length := by
 rw [idx_met h hb]
 exact List.idxOf_lt_length_of_mem hb
theorem idxOf_getE : ∀ {l : List (List Txt)} {b : List Txt}, b ∈ l → l[l.idxOf b]? = some b
 | [], _, h => by cases h
 | x :: r, b, h => by
  rw [List.idxOf_cons]
  by_cases e : x = b
  ·
   subst e; simp
  have hr : b ∈ r := by
   rcases List.mem_cons.1 h with k | k
   ·
    exact absurd k.symm e
   exact k
  rw [show (x == b) = false from beq_eq_false_iff_ne.2 e, cond_false, List.getElem?_cons_succ]
  exact idxOf_getE hr
theorem idxOf_nodup {l : List (List Txt)} (hn : l.Nodup) (j : Nat) (hj : j < l.length) : l.idxOf l[j] = j := by
 have h1 := idxOf_getE (List.getElem_mem hj)
 have h2 : l.idxOf l[j] < l.length := List.idxOf_lt_length_of_mem (List.getElem_mem hj)
 rw [List.getElem?_eq_getElem h2] at h1
 have h3 := Option.some.inj h1
 rcases Nat.lt_trichotomy (l.idxOf l[j]) j with h4 | h4 | h4
 ·
  exact absurd h3 (List.pairwise_iff_getElem.1 hn _ _ h2 hj h4)
 ·
  exact h4
 exact absurd h3.symm (List.pairwise_iff_getElem.1 hn _ _ hj h2 h4)
theorem idx_get {ws : List Txt} {b : List Txt} (h : b ∈ dL ws) : (dL ws)[(dL ws).idxOf b]? = some b := idxOf_getE h
def mkS (x : Bool × List (Int × Int)) : S72 := ⟨x.1, x.2.map fun y => ⟨y.1, y.2⟩⟩
def stW (ws : List Txt) (b : List Txt) : S72 := mkS (stL (dL ws) b)
def machW (ws : List Txt) : List S72 := (dL ws).map (stW ws)
theorem machW_length (ws : List Txt) : (machW ws).length = (dL ws).length := List.length_map _
def edgeW (ws : List Txt) (b : List Txt) (c : UInt8) : S88 := ⟨(c.toNat : Int) - 97, ((dL ws).idxOf (succL b c) : Int)⟩
theorem stW_eq (ws : List Txt) (b : List Txt) : stW ws b = ⟨decide ([] ∈ b), (letsL b).map (edgeW ws b)⟩ := by
 unfold stW mkS stL
 rw [List.map_map]
 rfl
theorem end_eq {ws : List Txt} {j : Nat} (hj : j < (preL ws).length) : (rd_T96 (trN (preL ws) ws) (j : Int)).f2 = decide ([] ∈ (resL ws).getD j []) := by
 rw [f2_eq ws hj, resL_get hj]
 congr 1
 exact propext (by rw [mem_behL, List.append_nil])
theorem lastR {ws : List Txt} {j : Nat} (hj : j < (preL ws).length) : lastL (resL ws) ((resL ws).getD j []) < (preL ws).length ∧ (resL ws).getD (lastL (resL ws) ((resL ws).getD j [])) [] = (resL ws).getD j [] := by
 have h := lastL_spec (getR_mem (R := resL ws) (i := j) (by rw [resL_length]; exact hj))
 rw [resL_length] at h
 exact ⟨h.1, h.2.1⟩
end Mach
end Go.Proofs.YtnnkedeohfbkeaaGreatDoor.L
namespace Go.Proofs.YtnnkedeohfbkeaaGreatDoor.L
open Go.RowKit Go.Proofs.YtnnkedeohfbkeaaGreatDoor.P Go.Proofs.YtnnkedeohfbkeaaGreatDoor.M Go.Proofs.YtnnkedeohfbkeaaGreatDoorW.PrintWords Go.Proofs.YtnnkedeohfbkeaaGreatDoorW.PrintLast Go.Proofs.YtnnkedeohfbkeaaGreatDoorW.PrintMore
theorem HasPrefix_eq (s p : List UInt8) (hs : s.length ≤ 4611686018427387900) (hp : p.length ≤ 4611686018427387900) : xF75.f (B s) (B p) = some (hasPre s p) := by
 unfold xF75.f xF76.f hasPre
 by_cases h : p.length ≤ s.length
 ·
  rw [if_pos (by simp; omega), if_pos (by omega), if_pos (by simp; omega)]; simp
 rw [if_neg (by simp; omega)]
 have : (s.take p.length == p) = false := by
  simp only [beq_eq_false_iff_ne]
  intro e
  have := congrArg List.length e
  simp at this; omega
 simp [this]
end Go.Proofs.YtnnkedeohfbkeaaGreatDoor.L
namespace Go.Proofs.YtnnkedeohfbkeaaGreatDoor.L
open Go.RowKit Go.Proofs.YtnnkedeohfbkeaaGreatDoor.P Go.Proofs.YtnnkedeohfbkeaaGreatDoor.M Go.Proofs.YtnnkedeohfbkeaaGreatDoorW.PrintWords Go.Proofs.YtnnkedeohfbkeaaGreatDoorW.PrintLast Go.Proofs.YtnnkedeohfbkeaaGreatDoorW.PrintMore
namespace Mach
theorem under_m {ws : List Txt} (h : OkW ws) (p : Txt) (hp : p.length ≤ 4611686018427387900) : Ev (fun k => iF16.f k (trN (preL ws) ws) (B p)) ((ws.filter fun w => hasPre w p).map B) := by
 unfold iF16.f
 refine Ev.bind (words_ev h) (Ev.ifT (by rw [List.length_map]; have := h.len; omega) ?_)
 rw [filt_of (fun x => hasPre x.data.toList p) (fun x hx => by
  obtain ⟨w, hw, rfl⟩ := List.mem_map.1 hx
  rw [data_B]
  exact HasPrefix_eq w p (by have := h.le w hw; omega) hp)]
 rw [List.filter_map]
 have e : (fun x : ByteArray => hasPre x.data.toList p) ∘ B = fun w => hasPre w p := by
  funext w; show hasPre (B w).data.toList p = _; rw [data_B]
 rw [e]
 exact Ev.now _
theorem behind_ev {ws : List Txt} (h : OkW ws) (p : Txt) (hp : p.length ≤ 4611686018427387900) : Ev (fun k => iF11.f k (trN (preL ws) ws) (B p)) ((behL ws p).map B) := by
 unfold iF11.f
 refine Ev.bind (under_m h p hp) (Ev.ifT ⟨?_, ?_⟩ ?_)
 ·
  rw [List.length_map]
  have h1 := List.length_filter_le (fun w => hasPre w p) ws
  have h2 := h.len
  omega
 ·
  rw [List.all_eq_true]
  intro x hx
  obtain ⟨w, hw, rfl⟩ := List.mem_map.1 hx
  obtain ⟨h1, h2⟩ := List.mem_filter.1 hw
  have h3 := (hasPre_pre.1 h2).length_le
  have h4 := h.le w h1
  rw [decide_eq_true_eq, size_B, size_B]
  omega
 rw [List.map_map]
 unfold behL
 rw [List.map_map]
 have e : ∀ w ∈ ws.filter fun w => hasPre w p, (iF11.cut (B p) ∘ B) w = (B ∘ fun w : Txt => w.drop p.length) w := fun w _ => by
  show (B w).extract (B p).size (B w).size = B (w.drop p.length)
  rw [extract_B, size_B, size_B, List.take_of_length_le (by rw [List.length_drop]; omega)]
 rw [List.map_congr_left e]
 exact Ev.now _
theorem ends_in {ws : List Txt} (h : OkW ws) (P : List ByteArray) (N : List S96) (E : List ByteArray) (n : Int) (b : List Txt) (m : Nat) (hb : Res m b) (hm : m ≤ 12) (hl : b.length ≤ 40) (hE : E.length ≤ 1000000) (r : List ByteArray)
  (hr : Ev (fun k => iF12.l0 k (E ++ [B (joinT b)]) P (P.length : Int) (wrap64 (n + 1)) N) r) :
  ∀ d i (acc : Txt), i + d = b.length → acc ++ joinT (b.drop i) = joinT b → acc.length ≤ 13 * i → Ev (fun k => iF12.l1 k E (B acc) P (P.length : Int) n (b.map B) ((b.map B).length : Int) (i : Int) N) r := by
 intro d
 induction d with
 | zero =>
  intro i acc h1 h2 h3
  rw [List.drop_of_length_le (by omega)] at h2
  rw [show joinT [] = [] from rfl, List.append_nil] at h2
  refine Ev.step (fun k => iF12.l1.eq_2 ..) (Ev.ifF (by rw [List.length_map]; omega) (Ev.ifT (by omega) ?_))
  rw [h2]
  exact hr
 | succ d ih =>
  intro i acc h1 h2 h3
  have hi : i < b.length := by omega
  have hw := hb.len _ (getD_mem hi)
  rw [drop_cons_getD [] hi] at h2
  have e : (⟨#[44]⟩ : ByteArray) = B [44] := rfl
  refine Ev.step (fun k => iF12.l1.eq_2 ..) (Ev.ifT (by rw [List.length_map]; omega) (Ev.ifT (by omega) (Ev.ifT (by rw [List.length_map]; omega) ?_)))
  rw [rdB b i hi, e, append_B]
  refine Ev.ifT (by rw [size_B]; omega) (Ev.ifT (by rw [size_B, size_B, List.length_append, List.length_singleton]; omega) ?_)
  rw [append_B, wrap64_succ i (by omega)]
  refine ih (i + 1) _ (by omega) ?_ ?_
  ·
   rw [← h2, joinT]
   simp
  rw [List.length_append, List.length_append, List.length_singleton]
  omega
def endsT (ws : List Txt) : List ByteArray := (resL ws).map fun b => B (joinT b)
theorem endsT_length (ws : List Txt) : (endsT ws).length = (preL ws).length := by unfold endsT; rw [List.length_map, resL_length]
theorem ends_ev {ws : List Txt} (h : OkW ws) : Ev (fun k => iF12.f k (trN (preL ws) ws)) (endsT ws) := by
 have hP := h.pre
 have loop : ∀ d n, n + d = (preL ws).length → Ev (fun k => iF12.l0 k ((endsT ws).take n) ((preL ws).map B) (((preL ws).map B).length : Int) (n : Int) (trN (preL ws) ws)) (endsT ws) := by
  intro d
  induction d with
  | zero =>
   intro n hn
   rw [List.take_of_length_le (by rw [endsT_length]; omega)]
   exact Ev.step (fun k => iF12.l0.eq_2 ..) (Ev.ifF (by rw [List.length_map]; omega) (Ev.now _))
  | succ d ih =>
   intro n hn
   have hi : n < (preL ws).length := by omega
   have hw := (wordL_iff.1 (preL_word h.word (getD_mem hi))).2
   refine Ev.step (fun k => iF12.l0.eq_2 ..) (Ev.ifT (by rw [List.length_map]; omega) (Ev.ifT (by omega) (Ev.ifT (by rw [List.length_map]; omega) ?_)))
   rw [rdB _ n hi]
   refine Ev.bind (behind_ev h _ (by omega)) ?_
   have hb40 : (behL ws ((preL ws).getD n [])).length ≤ 40 := by
    unfold behL
    rw [List.length_map]
    exact Nat.le_trans (List.length_filter_le _ _) h.len
   refine ends_in h _ _ _ _ _ 12 (Res.beh12 h _) (Nat.le_refl _) hb40 (by rw [List.length_take]; omega) _ ?_ (behL ws ((preL ws).getD n [])).length 0 [] (by omega) rfl (by simp)
   rw [wrap64_succ n (by omega)]
   have e : (endsT ws).take n ++ [B (joinT (behL ws ((preL ws).getD n [])))] = (endsT ws).take (n + 1) := by
    rw [List.take_succ_eq_append_getElem (by rw [endsT_length]; exact hi)]
    congr 2
    unfold endsT
    rw [List.getElem_map, ← resL_get hi, getD_lt [] (by rw [resL_length]; exact hi)]
   rw [e]
   exact ih (n + 1) (by omega)
 unfold iF12.f
 exact Ev.bind (prefixes_tr h) (loop (preL ws).length 0 (by omega))
end Mach
end Go.Proofs.YtnnkedeohfbkeaaGreatDoor.L
namespace Go.Proofs.YtnnkedeohfbkeaaGreatDoor.L
open Go.RowKit Go.Proofs.YtnnkedeohfbkeaaGreatDoor.P Go.Proofs.YtnnkedeohfbkeaaGreatDoor.M Go.Proofs.YtnnkedeohfbkeaaGreatDoorW.PrintWords Go.Proofs.YtnnkedeohfbkeaaGreatDoorW.PrintLast Go.Proofs.YtnnkedeohfbkeaaGreatDoorW.PrintMore
namespace Mach
theorem kids_m {ws : List Txt} (h : OkW ws) {i : Nat} (hi : i < (preL ws).length) : Ev (fun k => iF13.f k (trN (preL ws) ws) (i : Int)) (kidW ws i) := by
 have hA := asc_preL ws
 have hC := clo_preL ws
 have hP := h.pre
 have cond : ∀ {n}, n < (preL ws).length → ((rd_T96 (trN (preL ws) ws) (n : Int)).f1 = (i : Int) ↔ isKid (preL ws) ((preL ws).getD i []) n = true) := fun {n} hn => by
  rcases Nat.eq_zero_or_pos n with h0 | h0
  ·
   subst h0
   obtain ⟨z1, z2⟩ := clo_zero hA hC
   rw [rdN _ ws 0 hn]
   unfold isKid
   rw [z2]
   have : (mkN (ndL (preL ws) ws [])).f1 = -1 := rfl
   rw [this]
   simp
   try omega
  rw [f1_pos ws hA hC hn h0]
  obtain ⟨p1, p2⟩ := clo_parent hA hC hn h0
  unfold isKid
  rw [decide_eq_true_eq]
  constructor
  ·
   intro e
   refine ⟨clo_pos hA hC hn h0, ?_⟩
   rw [← p2]
   congr 1
   omega
  rintro ⟨_, e⟩
  rw [e, placeL_get hA hi]
 have loop : ∀ d n, n + d = (preL ws).length → Ev (fun k => iF13.l0 k (i : Int) (kidU (preL ws) ((preL ws).getD i []) n) (trN (preL ws) ws) ((trN (preL ws) ws).length : Int) (n : Int)) (kidW ws i) := by
  intro d
  induction d with
  | zero =>
   intro n hn
   rw [show n = (preL ws).length from by omega, kidW_eq h]
   exact Ev.step (fun k => iF13.l0.eq_2 ..) (Ev.ifF (by rw [trN_length]; omega) (Ev.now _))
  | succ d ih =>
   intro n h1
   have hn : n < (preL ws).length := by omega
   have hk := kidU_length (preL ws) ((preL ws).getD i []) n
   have hih := ih (n + 1) (by omega)
   refine Ev.step (fun k => iF13.l0.eq_2 ..) (Ev.ifT (by rw [trN_length]; omega) (Ev.ifT (by omega) (Ev.ifT (by rw [trN_length]; omega) ?_)))
   rw [kidU_succ] at hih
   rw [wrap64_succ n (by omega)]
   by_cases hc : isKid (preL ws) ((preL ws).getD i []) n = true
   ·
    rw [if_pos hc] at hih
    exact Ev.ifT ((cond hn).2 hc) (Ev.ifT (by omega) hih)
   rw [if_neg hc, List.append_nil] at hih
   exact Ev.ifF (fun e => hc ((cond hn).1 e)) hih
 exact loop (preL ws).length 0 (by omega)
def keyT (b : List Txt) : ByteArray := B (joinT b)
theorem keyT_eq {n m : Nat} {a b : List Txt} (ha : Res n a) (hb : Res m b) : (keyT a).data.toList = (keyT b).data.toList ↔ a = b := by
 unfold keyT
 rw [data_B, data_B, joinT_res ha hb]
theorem has_key : ∀ (l : List (List Txt)) (b : List Txt), (∀ x ∈ l, Res 12 x) → Res 12 b → SM.has_ (l.map keyT) (keyT b) = decide (b ∈ l)
 | [], _, _, _ => rfl
 | x :: l, b, hl, hb => by
  rw [List.map_cons, SM.has_cons, has_key l b (fun y hy => hl y (List.mem_cons_of_mem _ hy)) hb, Bool.eq_iff_iff, Bool.or_eq_true, decide_eq_true_eq, decide_eq_true_eq, decide_eq_true_eq, keyT_eq (hl x List.mem_cons_self) hb, List.mem_cons]
  exact ⟨fun h => h.imp_left Eq.symm, fun h => h.imp_left Eq.symm⟩
theorem at_snoc (l : List ByteArray) (x p : ByteArray) : SM.at_ (l ++ [x]) p = if x.data.toList = p.data.toList then (l.length : Int) else SM.at_ l p := by
 unfold SM.at_
 rw [List.reverse_append]
 show (if _ then ((l.reverse.length : Nat) : Int) else _) = _
 rw [List.length_reverse]
 rfl
theorem at_key : ∀ (d : Nat) (l : List (List Txt)) (b : List Txt), l.length = d → (∀ x ∈ l, Res 12 x) → l.Nodup → b ∈ l → SM.at_ (l.map keyT) (keyT b) = (l.idxOf b : Int)
 | 0, l, b, hd, _, _, hm => by rw [List.length_eq_zero_iff.1 hd] at hm; cases hm
 | d + 1, l, b, hd, hl, hn, hm => by
  have hne : l ≠ [] := fun e => by rw [e] at hm; cases hm
  obtain ⟨r, y, rfl⟩ : ∃ r y, l = r ++ [y] := ⟨l.dropLast, l.getLast hne, (List.dropLast_concat_getLast hne).symm⟩
  have hrl : r.length = d := by rw [List.length_append, List.length_singleton] at hd; omega
  rw [List.map_append, List.map_singleton, at_snoc, List.length_map]
  rw [List.nodup_append] at hn
  have hb : Res 12 b := hl b hm
  by_cases e : y = b
  ·
   subst e
   have hnr : y ∉ r := fun k => hn.2.2 y k y (List.mem_singleton.2 rfl) rfl
   rw [if_pos rfl, idx_new hnr]
  have hbr : b ∈ r := by
   rcases List.mem_append.1 hm with k | k
   ·
    exact k
   exact absurd (List.mem_singleton.1 k).symm e
  rw [if_neg (fun k => e ((keyT_eq (hl y (List.mem_append_right _ (List.mem_singleton.2 rfl))) hb).1 k)), at_key d r b hrl (fun x hx => hl x (List.mem_append_left _ hx)) hn.1 hbr, idx_pre (List.prefix_append _ _) hbr]
theorem fL_res {ws : List Txt} (h : OkW ws) {n : Nat} (hn : n ≤ (preL ws).length) : ∀ x ∈ fL ws n, Res 12 x := fun x hx => dL_res h ((fL_pre' hn).subset hx)
theorem endsT_get {ws : List Txt} {n : Nat} (hn : n < (preL ws).length) : rdOf ByteArray.empty (endsT ws) (n : Int) = keyT ((resL ws).getD n []) := by
 unfold rdOf endsT
 rw [Int.toNat_natCast, getD_lt _ (by simpa [resL_length] using hn), List.getElem_map, getD_lt [] (by rw [resL_length]; exact hn)]
 rfl
theorem fB_eq {ws : List Txt} (h : OkW ws) : ∀ n, n ≤ (preL ws).length → iF14.fB (endsT ws) n = (fL ws n).map keyT
 | 0, _ => rfl
 | n + 1, hn => by
  rw [iF14.fB, fB_eq h n (by omega), endsT_get (by omega), has_key _ _ (fL_res h (by omega)) (dL_res h (res_mem (by omega))), fL_succ (by omega)]
  by_cases hm : (resL ws).getD n [] ∈ fL ws n
  ·
   rw [if_pos hm, if_pos (decide_eq_true hm)]
  rw [if_neg hm, if_neg (by rw [decide_eq_false hm]; exact Bool.false_ne_true), List.map_append]; rfl
def st0 (b : List Txt) : S72 := ⟨decide ([] ∈ b), []⟩
theorem sB_eq {ws : List Txt} (h : OkW ws) : ∀ n, n ≤ (preL ws).length → iF14.sB (trN (preL ws) ws) (endsT ws) n = (fL ws n).map st0
 | 0, _ => rfl
 | n + 1, hn => by
  rw [iF14.sB, sB_eq h n (by omega), fB_eq h n (by omega), endsT_get (by omega), has_key _ _ (fL_res h (by omega)) (dL_res h (res_mem (by omega))), fL_succ (by omega), end_eq (by omega)]
  by_cases hm : (resL ws).getD n [] ∈ fL ws n
  ·
   rw [if_pos hm, if_pos (decide_eq_true hm)]
  rw [if_neg hm, if_neg (by rw [decide_eq_false hm]; exact Bool.false_ne_true), List.map_append]; rfl
def idsW (ws : List Txt) (n : Nat) : List Int := (List.range n).map fun j => ((dL ws).idxOf ((resL ws).getD j []) : Int)
theorem iB_eq {ws : List Txt} (h : OkW ws) : ∀ n, n ≤ (preL ws).length → iF14.iB (endsT ws) n = idsW ws n
 | 0, _ => rfl
 | n + 1, hn => by
  rw [iF14.iB, iB_eq h n (by omega), fB_eq h (n + 1) hn, endsT_get (by omega), at_key _ _ _ rfl (fL_res h hn) (fL_nodup _ _) (fL_mem (by omega)), ← idx_met hn (fL_mem (by omega))]
  unfold idsW
  rw [List.range_succ, List.map_append]
  rfl
theorem idsW_get {ws : List Txt} {n j : Nat} (hj : j < n) : rd (idsW ws n) (j : Int) = ((dL ws).idxOf ((resL ws).getD j []) : Int) := by
 rw [rd_nat]
 unfold idsW
 rw [getD_lt 0 (by simpa using hj)]
 simp
theorem idsW_length (ws : List Txt) (n : Nat) : (idsW ws n).length = n := by simp [idsW]
def doneW (ws : List Txt) (n : Nat) : List Bool := (dL ws).map fun b => decide (b ∈ fL ws n)
def stsW (ws : List Txt) (n : Nat) : List S72 := (dL ws).map fun b => if b ∈ fL ws n then stW ws b else st0 b
theorem map_idx {α : Type} (z : α) {ws : List Txt} {b : List Txt} (hb : b ∈ dL ws) (g : List Txt → α) : ((dL ws).map g).getD ((dL ws).idxOf b) z = g b := by
 rw [List.getD_eq_getElem?_getD, List.getElem?_map, idx_get hb]
 rfl
theorem map_set {α : Type} {ws : List Txt} {b : List Txt} (hb : b ∈ dL ws) (g g' : List Txt → α) (hg : ∀ x ∈ dL ws, x ≠ b → g' x = g x) : ((dL ws).map g).set ((dL ws).idxOf b) (g' b) = (dL ws).map g' := by
 apply List.ext_getElem
 ·
  rw [List.length_set, List.length_map, List.length_map]
 intro j j1 j2
 rw [List.getElem_set, List.getElem_map, List.getElem_map]
 have hj : j < (dL ws).length := by rw [List.length_map] at j2; exact j2
 by_cases e : (dL ws).idxOf b = j
 ·
  rw [if_pos e]
  have h1 := idx_get hb
  rw [e, List.getElem?_eq_getElem hj] at h1
  rw [Option.some.inj h1]
 rw [if_neg e]
 refine (hg _ (List.getElem_mem hj) fun k => e ?_).symm
 have hnd : (dL ws).Nodup := by have := fL_nodup ws (preL ws).length; rwa [fL_all] at this
 rw [← k]
 exact idxOf_nodup hnd j hj
theorem machine_ev {ws : List Txt} (h : OkW ws) : Ev (fun k => iF14.f k (trN (preL ws) ws)) (machW ws, idsW ws (preL ws).length) := by
 have hP := h.pre
 have hDl := dL_length h
 have loop : ∀ d i, i + d = (preL ws).length → Ev (fun k => iF14.l1 k (trN (preL ws) ws) (idsW ws (preL ws).length) d i (doneW ws i) (stsW ws i)) (machW ws) := by
  intro d
  induction d with
  | zero =>
   intro i hi
   have e : stsW ws i = machW ws := by
    unfold stsW machW
    refine List.map_congr_left fun b hb => ?_
    rw [show i = (preL ws).length from by omega, fL_all, if_pos hb]
   rw [e]
   exact Ev.now _
  | succ d ih =>
   intro i hd
   have hi : i < (preL ws).length := by omega
   have hm := res_mem hi
   have hlt := idx_lt hm
   have hih := ih (i + 1) (by omega)
   have hdone : rdOf false (doneW ws i) ((dL ws).idxOf ((resL ws).getD i []) : Int) = decide ((resL ws).getD i [] ∈ fL ws i) := by
    unfold rdOf doneW
    rw [Int.toNat_natCast, map_idx false hm]
   have hsts : rd_T72 (stsW ws i) ((dL ws).idxOf ((resL ws).getD i []) : Int) = if (resL ws).getD i [] ∈ fL ws i then stW ws ((resL ws).getD i []) else st0 ((resL ws).getD i []) := by
    unfold rd_T72 stsW
    rw [Int.toNat_natCast, map_idx _ hm]
   unfold iF14.l1
   rw [idsW_get hi, hdone]
   refine Ev.ifT ⟨by omega, by unfold stsW; rw [List.length_map]; omega, by unfold doneW; rw [List.length_map]; omega⟩ ?_
   by_cases hn : (resL ws).getD i [] ∈ fL ws i
   ·
    refine Ev.ifT (decide_eq_true hn) ?_
    have e1 : doneW ws (i + 1) = doneW ws i := by unfold doneW; rw [fL_succ hi, if_pos hn]
    have e2 : stsW ws (i + 1) = stsW ws i := by unfold stsW; rw [fL_succ hi, if_pos hn]
    rw [e1, e2] at hih
    exact hih
   refine Ev.ifF (by rw [decide_eq_false hn]; exact Bool.false_ne_true) (Ev.bind (kids_m h hi) ?_)
   rw [hsts, if_neg hn]
   have l26 := letsL_length ((resL ws).getD i [])
   have hkl : (kidW ws i).length = (letsL ((resL ws).getD i [])).length := by rw [kidW_length, resL_get hi]
   have hok : iF14.okk (trN (preL ws) ws) (idsW ws (preL ws).length) (kidW ws i) = true := by
    unfold iF14.okk
    rw [List.all_eq_true]
    intro x hx
    obtain ⟨j, hj, rfl⟩ := List.getElem_of_mem hx
    obtain ⟨q, q1, q2, _⟩ := kid_at h hi hj
    rw [getD_lt 0 hj] at q1
    rw [q1, decide_eq_true_eq, trN_length, idsW_length]
    omega
   refine Ev.ifT ⟨hok, by omega, by unfold st0; simp⟩ ?_
   have hF : ∀ x, x ∈ fL ws (i + 1) ↔ x ∈ fL ws i ∨ x = (resL ws).getD i [] := fun x => by rw [fL_succ hi, if_neg hn, List.mem_append, List.mem_singleton]
   have e1 : (doneW ws i).set ((dL ws).idxOf ((resL ws).getD i []) : Int).toNat true = doneW ws (i + 1) := by
    rw [Int.toNat_natCast]
    have := map_set hm (fun b => decide (b ∈ fL ws i)) (fun b => decide (b ∈ fL ws (i + 1))) (fun x _ hx => by
     congr 1
     exact propext ((hF x).trans ⟨fun k => k.resolve_right hx, .inl⟩))
    rw [decide_eq_true (fL_mem hi)] at this
    exact this
   have e2 : (stsW ws i).set ((dL ws).idxOf ((resL ws).getD i []) : Int).toNat (iF14.add (trN (preL ws) ws) (idsW ws (preL ws).length) (kidW ws i) (st0 ((resL ws).getD i []))) = stsW ws (i + 1) := by
    rw [Int.toNat_natCast]
    have := map_set hm (fun b => if b ∈ fL ws i then stW ws b else st0 b) (fun b => if b ∈ fL ws (i + 1) then stW ws b else st0 b) (fun x _ hx => by
     have : x ∈ fL ws (i + 1) ↔ x ∈ fL ws i := (hF x).trans ⟨fun k => k.resolve_right hx, .inl⟩
     by_cases k : x ∈ fL ws i
     ·
      show (if _ then _ else _) = (if _ then _ else _)
      rw [if_pos k, if_pos (this.2 k)]
     show (if _ then _ else _) = (if _ then _ else _)
     rw [if_neg k, if_neg (fun z => k (this.1 z))])
    simp only [if_pos (fL_mem hi)] at this
    have e3 : iF14.add (trN (preL ws) ws) (idsW ws (preL ws).length) (kidW ws i) (st0 ((resL ws).getD i [])) = stW ws ((resL ws).getD i []) := by
     rw [stW_eq]
     unfold iF14.add st0
     congr 1
     rw [List.nil_append]
     apply List.ext_getElem
     ·
      rw [List.length_map, List.length_map, hkl]
     intro j j1 j2
     have hj : j < (kidW ws i).length := by rw [List.length_map] at j1; exact j1
     obtain ⟨q, q1, q2, q3, q4, q5, q6⟩ := kid_at h hi hj
     rw [getD_lt 0 hj] at q1
     rw [getD_lt 0 (by omega)] at q5 q6
     rw [List.getElem_map, List.getElem_map, q1, q5, idsW_get q2, q6]
     rfl
    rw [e3]
    exact this
   rw [e1, e2]
   exact hih
 unfold iF14.f
 refine Ev.bind (ends_ev h) (Ev.ifT ⟨by rw [endsT_length, trN_length], by rw [trN_length]; omega, ?_⟩ ?_)
 ·
  unfold SM.okL
  rw [Bool.and_eq_true, List.all_eq_true, decide_eq_true_eq, endsT_length]
  refine ⟨fun x hx => ?_, by omega⟩
  unfold endsT at hx
  obtain ⟨b, hb, rfl⟩ := List.mem_map.1 hx
  obtain ⟨p, _, rfl⟩ := List.mem_map.1 hb
  have h1 := joinT_length (behL ws p) 12 (Res.beh12 h p).len
  have h2 : (behL ws p).length ≤ 40 := by
   unfold behL
   rw [List.length_map]
   exact Nat.le_trans (List.length_filter_le _ _) h.len
  rw [decide_eq_true_eq, size_B]
  have h3 : (behL ws p).length * 13 ≤ 40 * 13 := Nat.mul_le_mul_right _ h2
  omega
 rw [trN_length, iB_eq h _ (Nat.le_refl _), sB_eq h _ (Nat.le_refl _), fL_all, List.length_map]
 have e1 : List.replicate (dL ws).length false = doneW ws 0 := by
  unfold doneW
  rw [fL_zero]
  apply List.ext_getElem
  ·
   simp
  intro j j1 j2; simp
 have e2 : (dL ws).map st0 = stsW ws 0 := by
  unfold stsW
  refine List.map_congr_left fun b hb => ?_
  rw [fL_zero, if_neg (by simp)]
 rw [e1, e2]
 exact Ev.bind (loop (preL ws).length 0 (by omega)) (Ev.now _)
end Mach
end Go.Proofs.YtnnkedeohfbkeaaGreatDoor.L
namespace Go.Proofs.YtnnkedeohfbkeaaGreatDoor.L
open Go.RowKit Go.Proofs.YtnnkedeohfbkeaaGreatDoor.P Go.Proofs.YtnnkedeohfbkeaaGreatDoor.M Go.Proofs.YtnnkedeohfbkeaaGreatDoorW.PrintWords Go.Proofs.YtnnkedeohfbkeaaGreatDoorW.PrintLast Go.Proofs.YtnnkedeohfbkeaaGreatDoorW.PrintMore
namespace Mach
abbrev Stt := S72
abbrev Edg := S88
def EdgeOk (n : Nat) (e : Edg) : Prop := 0 ≤ e.f0 ∧ e.f0 ≤ 25 ∧ 0 ≤ e.f1 ∧ e.f1 < (n : Int)
def EdgesOk (m : List Stt) : Prop := ∀ x ∈ m, x.f1.length ≤ 1048576 ∧ ∀ e ∈ x.f1, EdgeOk m.length e
def ltr (e : Edg) : UInt8 := UInt8.ofNat (97 + e.f0.toNat)
theorem ltr_str {n : Nat} {e : Edg} (h : EdgeOk n e) : strOfNums ([(wrap64 (97 + e.f0)) % 256] : List Int) = B [ltr e] := by
 obtain ⟨h0, h1, _, _⟩ := h
 rw [strOfNums_B, wrap64_id (by omega) (by omega)]
 unfold ltr
 congr 2
 have : ((97 + e.f0) % 256).toNat = 97 + e.f0.toNat := by omega
 rw [this]
theorem ltr_let {n : Nat} {e : Edg} (h : EdgeOk n e) : letterB (ltr e) = true := by
 obtain ⟨h0, h1, _, _⟩ := h
 unfold letterB ltr
 have : (UInt8.ofNat (97 + e.f0.toNat)).toNat = 97 + e.f0.toNat := by simp; omega
 rw [decide_eq_true_eq, this]
 omega
theorem rd_get {m : List Stt} {st : Int} (h0 : 0 ≤ st) (h1 : st < (m.length : Int)) : ∃ x ∈ m, rd_T72 m st = x := by
 have h2 : st.toNat < m.length := by omega
 refine ⟨m[st.toNat], List.getElem_mem h2, ?_⟩
 unfold rd_T72
 rw [List.getD_eq_getElem?_getD, List.getElem?_eq_getElem h2]
 rfl
theorem rd_edge {l : List Edg} {i : Nat} (h : i < l.length) : rd_T88 l (i : Int) = l[i] := by
 unfold rd_T88
 rw [Int.toNat_natCast, List.getD_eq_getElem?_getD, List.getElem?_eq_getElem h]
 rfl
structure WalkOut (ws : List Txt) (gone g : Nat) : Prop where
 word : ∀ w ∈ ws, wordL w = true
 more : gone ≤ g
 top : g ≤ 482
 len : ws.length + gone ≤ g
theorem walk_ex (m : List Stt) (hm : EdgesOk m) : ∀ (d : Nat) (so : Txt) (st : Int) (gone : Nat), so.length + d = 12 → (∀ c ∈ so, letterB c = true) → 0 ≤ st → st < (m.length : Int) → gone ≤ 481 →
  ∃ (ws : List Txt) (g : Nat), Ev (fun k => sF73.f k m st (B so) (gone : Int)) (ws.map B, (g : Int)) ∧ WalkOut ws gone g := by
 intro d
 induction d with
 | zero =>
  intro so st gone hd hso h0 h1 hg
  have hw : wordL so = true := wordL_iff.2 ⟨hso, by omega⟩
  obtain ⟨x, hx, ex⟩ := rd_get h0 h1
  have stop : ∀ (out : List Txt) (g : Nat), g ≤ 482 → Ev (fun k => sF73.l0 k st (B so) (g : Int) (out.map B) 0 m) (out.map B, (g : Int)) := by
   intro out g hg
   refine Ev.step (fun k => sF73.l0.eq_2 ..) (Ev.ifT h0 (Ev.ifT h1 ?_))
   by_cases c1 : (0 : Int) < ((rd_T72 m st).f1.length : Int)
   ·
    refine Ev.ifT c1 ?_
    by_cases c2 : (g : Int) ≤ 481
    ·
     exact Ev.ifT c2 (Ev.ifF (by rw [size_B]; omega) (Ev.now _))
    exact Ev.ifF c2 (Ev.now _)
   exact Ev.ifF c1 (Ev.now _)
  by_cases he : (rd_T72 m st).f0 = true
  ·
   refine ⟨[so], gone + 1, ?_, ⟨fun w hw2 => by rw [List.mem_singleton.1 hw2]; exact hw, by omega, by omega, by simp; omega⟩⟩
   refine Ev.step (fun k => sF73.f.eq_2 ..) (Ev.some_bind (Ev.ifT h0 (Ev.ifT h1 (Ev.ifT he (Ev.ifT (by simp) (Ev.step (fun k => sF73.j0.eq_2 ..) ?_))))))
   rw [wrap64_succ gone (by omega)]
   exact stop [so] (gone + 1) (by omega)
  refine ⟨[], gone + 1, ?_, ⟨fun w hw2 => by simp at hw2, by omega, by omega, by simp⟩⟩
  refine Ev.step (fun k => sF73.f.eq_2 ..) (Ev.some_bind (Ev.ifT h0 (Ev.ifT h1 (Ev.ifF he (Ev.step (fun k => sF73.j0.eq_2 ..) ?_)))))
  rw [wrap64_succ gone (by omega)]
  exact stop [] (gone + 1) (by omega)
 | succ d ih =>
  intro so st gone hd hso h0 h1 hg
  have hw : wordL so = true := wordL_iff.2 ⟨hso, by omega⟩
  obtain ⟨x, hx, ex⟩ := rd_get h0 h1
  have hxe := hm x hx
  have loop : ∀ (n i : Nat) (out : List Txt) (g : Nat), i + n = x.f1.length → WalkOut out gone g → gone < g →
    ∃ (ws : List Txt) (g' : Nat), Ev (fun k => sF73.l0 k st (B so) (g : Int) (out.map B) (i : Int) m) (ws.map B, (g' : Int)) ∧ WalkOut ws gone g' := by
   intro n
   induction n with
   | zero =>
    intro i out g hi ho hgg
    refine ⟨out, g, Ev.step (fun k => sF73.l0.eq_2 ..) (Ev.ifT h0 (Ev.ifT h1 (Ev.ifF ?_ (Ev.now _)))), ho⟩
    rw [ex]; omega
   | succ n ihn =>
    intro i out g hi ho hgg
    have hil : i < x.f1.length := by omega
    have heo := hxe.2 _ (List.getElem_mem hil)
    by_cases c2 : (g : Int) ≤ 481
    rotate_left
    ·
     refine ⟨out, g, Ev.step (fun k => sF73.l0.eq_2 ..) (Ev.ifT h0 (Ev.ifT h1 (Ev.ifT (by rw [ex]; omega) (Ev.ifF c2 (Ev.now _))))), ho⟩
    obtain ⟨v, g2, hv, hvo⟩ := ih (so ++ [ltr x.f1[i]]) x.f1[i].f1 g (by simp; omega) (fun c hc => by
     rcases List.mem_append.1 hc with h | h
     ·
      exact hso c h
     rw [List.mem_singleton.1 h]; exact ltr_let heo) heo.2.2.1 heo.2.2.2 (by omega)
    obtain ⟨ws, g', hws, hwo⟩ := ihn (i + 1) (out ++ v) g2 (by omega) ⟨fun w hw => by
     rcases List.mem_append.1 hw with h | h
     ·
      exact ho.word w h
     exact hvo.word w h, by have := ho.more; have := hvo.more; omega, hvo.top, by rw [List.length_append]; have := ho.len; have := hvo.len; omega⟩ (by have := hvo.more; omega)
    refine ⟨ws, g', Ev.step (fun k => sF73.l0.eq_2 ..) (Ev.ifT h0 (Ev.ifT h1 (Ev.ifT (by rw [ex]; omega) (Ev.ifT c2 (Ev.ifT (by rw [size_B]; omega) (Ev.ifT (by omega) (Ev.some_bind ?_))))))), hwo⟩
    rw [ex, rd_edge hil, ltr_str heo, append_B, wrap64_succ i (by omega)]
    refine Ev.ifT (by rw [size_B, size_B]; simp; omega) (Ev.bind hv (Ev.ifT ?_ ?_))
    ·
     rw [List.length_map, List.length_map]
     have := ho.len; have := ho.top; have := hvo.len; have := hvo.top
     omega
    rw [← List.map_append]
    exact hws
  by_cases he : (rd_T72 m st).f0 = true
  ·
   obtain ⟨ws, g', h2, h3⟩ := loop x.f1.length 0 [so] (gone + 1) (by omega) ⟨fun w hw2 => by rw [List.mem_singleton.1 hw2]; exact hw, by omega, by omega, by simp; omega⟩ (by omega)
   refine ⟨ws, g', Ev.step (fun k => sF73.f.eq_2 ..) (Ev.some_bind (Ev.ifT h0 (Ev.ifT h1 (Ev.ifT he (Ev.ifT (by simp) (Ev.step (fun k => sF73.j0.eq_2 ..) ?_)))))), h3⟩
   rw [wrap64_succ gone (by omega)]
   exact h2
  obtain ⟨ws, g', h2, h3⟩ := loop x.f1.length 0 [] (gone + 1) (by omega) ⟨fun w hw2 => by simp at hw2, by omega, by omega, by simp⟩ (by omega)
  refine ⟨ws, g', Ev.step (fun k => sF73.f.eq_2 ..) (Ev.some_bind (Ev.ifT h0 (Ev.ifT h1 (Ev.ifF he (Ev.step (fun k => sF73.j0.eq_2 ..) ?_))))), h3⟩
  rw [wrap64_succ gone (by omega)]
  exact h2
end Mach
end Go.Proofs.YtnnkedeohfbkeaaGreatDoor.L
namespace Go.Proofs.YtnnkedeohfbkeaaGreatDoor.L
open Go.RowKit Go.Proofs.YtnnkedeohfbkeaaGreatDoor.P Go.Proofs.YtnnkedeohfbkeaaGreatDoor.M Go.Proofs.YtnnkedeohfbkeaaGreatDoorW.PrintWords Go.Proofs.YtnnkedeohfbkeaaGreatDoorW.PrintLast Go.Proofs.YtnnkedeohfbkeaaGreatDoorW.PrintMore
namespace Mach
theorem machW_rd {ws : List Txt} {b : List Txt} (hb : b ∈ dL ws) : rd_T72 (machW ws) ((dL ws).idxOf b : Int) = stW ws b := by
 unfold rd_T72 machW
 rw [Int.toNat_natCast, List.getD_eq_getElem?_getD, List.getElem?_map, idx_get hb]
 rfl
theorem machW_lt {ws : List Txt} {b : List Txt} (hb : b ∈ dL ws) : ((dL ws).idxOf b : Int) < ((machW ws).length : Int) := by
 rw [machW_length]
 have := idx_lt hb
 omega
theorem edgeW_ok {ws : List Txt} (h : OkW ws) {b : List Txt} (hb : b ∈ dL ws) {c : UInt8} (hc : c ∈ letsL b) : EdgeOk (machW ws).length (edgeW ws b c) := by
 have h1 := letsL_let hc
 have h2 := machW_lt (dL_succ h hb hc)
 unfold edgeW
 exact ⟨by show (0 : Int) ≤ (c.toNat : Int) - 97; omega, by show (c.toNat : Int) - 97 ≤ 25; omega, by show (0 : Int) ≤ ((dL ws).idxOf (succL b c) : Int); omega, h2⟩
theorem edgeW_ltr {ws b : List Txt} {c : UInt8} (hc : c ∈ letsL b) : ltr (edgeW ws b c) = c := by
 have h1 := letsL_let hc
 unfold ltr edgeW
 show UInt8.ofNat (97 + ((c.toNat : Int) - 97).toNat) = c
 rw [show 97 + ((c.toNat : Int) - 97).toNat = c.toNat from by omega]
 simp
theorem machW_ok {ws : List Txt} (h : OkW ws) : EdgesOk (machW ws) := by
 intro x hx
 obtain ⟨b, hb, rfl⟩ := List.mem_map.1 hx
 rw [stW_eq]
 refine ⟨by rw [List.length_map]; exact Nat.le_trans (letsL_length b) (by omega), fun e he => ?_⟩
 obtain ⟨c, hc, rfl⟩ := List.mem_map.1 he
 exact edgeW_ok h hb hc
def outL (b : List Txt) (so : Txt) (L : List UInt8) : List Txt := L.flatMap fun c => (succL b c).map fun x => so ++ c :: x
theorem out_all {n : Nat} {b : List Txt} (h : Res n b) (so : Txt) : b.map (so ++ ·) = (if [] ∈ b then [so] else []) ++ outL b so (letsL b) := by
 have e := congrArg (List.map (so ++ ·)) (decL h)
 rw [e, List.map_append]
 congr 1
 ·
  by_cases h0 : [] ∈ b
  ·
   rw [if_pos h0, if_pos h0]; simp
  rw [if_neg h0, if_neg h0]; rfl
 unfold outL
 rw [List.map_flatMap]
 congr 1
 funext c
 rw [List.map_map]
 rfl
theorem cnt_pos : ∀ (n : Nat) (b : List Txt), 1 ≤ cntL n b
 | 0, _ => by simp [cntL]
 | n + 1, b => by rw [cntL]; omega
theorem len_cnt : ∀ (n : Nat) (b : List Txt), Res n b → b.length ≤ cntL n b
 | 0, b, h => by
  have e := decL h
  rw [h.zero_lets] at e
  rw [e]
  simp [cntL]
  split <;> simp
 | n + 1, b, h => by
  have e := congrArg List.length (decL h)
  rw [List.length_append, List.length_flatMap] at e
  rw [cntL, e]
  have h1 : (if [] ∈ b then [[]] else ([] : List Txt)).length ≤ 1 := by split <;> simp
  have h2 : ∀ L : List UInt8, (∀ c ∈ L, c ∈ letsL b) → (L.map fun c => ((succL b c).map (c :: ·)).length).sum ≤ (L.map fun c => cntL n (succL b c)).sum := by
   intro L
   induction L with
   | nil => intro _; simp
   | cons c L ih =>
    intro hL
    have h3 := ih fun x hx => hL x (List.mem_cons_of_mem _ hx)
    have h4 := len_cnt n (succL b c) (h.succ c)
    simp only [List.map_cons, List.sum_cons, List.length_map] at h3 ⊢
    omega
  have h3 := h2 (letsL b) fun _ hc => hc
  omega
theorem walkW {ws : List Txt} (h : OkW ws) : ∀ (n : Nat) (b : List Txt) (so : Txt) (gone : Nat), Res n b → b ∈ dL ws → so.length + n ≤ 12 → gone + cntL n b ≤ 481 →
  Ev (fun k => sF73.f k (machW ws) ((dL ws).idxOf b : Int) (B so) (gone : Int)) ((b.map (so ++ ·)).map B, ((gone + cntL n b : Nat) : Int)) := by
 intro n
 induction n with
 | zero =>
  intro b so gone hr hb hs hg
  have h1 := machW_lt hb
  have hst := machW_rd hb
  have hl := hr.zero_lets
  have hc : cntL 0 b = 1 := rfl
  have stop : ∀ (out : List Txt), Ev (fun k => sF73.l0 k ((dL ws).idxOf b : Int) (B so) ((gone + 1 : Nat) : Int) (out.map B) 0 (machW ws)) (out.map B, ((gone + 1 : Nat) : Int)) := by
   intro out
   refine Ev.step (fun k => sF73.l0.eq_2 ..) (Ev.ifT (by omega) (Ev.ifT h1 (Ev.ifF ?_ (Ev.now _))))
   rw [hst, stW_eq, hl]
   simp
  rw [hc, out_all hr so, hl]
  by_cases h0 : [] ∈ b
  ·
   rw [if_pos h0]
   refine Ev.step (fun k => sF73.f.eq_2 ..) (Ev.some_bind (Ev.ifT (by omega) (Ev.ifT h1 (Ev.ifT (by rw [hst, stW_eq]; simpa using h0) (Ev.ifT (by simp) (Ev.step (fun k => sF73.j0.eq_2 ..) ?_))))))
   rw [wrap64_succ gone (by omega)]
   exact stop [so]
  rw [if_neg h0]
  refine Ev.step (fun k => sF73.f.eq_2 ..) (Ev.some_bind (Ev.ifT (by omega) (Ev.ifT h1 (Ev.ifF (by rw [hst, stW_eq]; simpa using h0) (Ev.step (fun k => sF73.j0.eq_2 ..) ?_)))))
  rw [wrap64_succ gone (by omega)]
  exact stop []
 | succ n ih =>
  intro b so gone hr hb hs hg
  have h1 := machW_lt hb
  have hst := machW_rd hb
  rw [cntL] at hg ⊢
  have loop : ∀ (L2 L1 : List UInt8) (out : List Txt) (g : Nat), L1 ++ L2 = letsL b → out.length ≤ 1000 → g + (L2.map fun c => cntL n (succL b c)).sum ≤ 481 → out.length ≤ g →
    Ev (fun k => sF73.l0 k ((dL ws).idxOf b : Int) (B so) (g : Int) (out.map B) (L1.length : Int) (machW ws)) ((out ++ outL b so L2).map B, ((g + (L2.map fun c => cntL n (succL b c)).sum : Nat) : Int)) := by
   intro L2
   induction L2 with
   | nil =>
    intro L1 out g hL ho hg2 hog
    refine Ev.step (fun k => sF73.l0.eq_2 ..) (Ev.ifT (by omega) (Ev.ifT h1 (Ev.ifF ?_ ?_)))
    ·
     rw [hst, stW_eq, ← hL]; simp
    simp only [outL, List.flatMap_nil, List.append_nil, List.map_nil, List.sum_nil, Nat.add_zero]
    exact Ev.now _
   | cons c L2 ihL =>
    intro L1 out g hL ho hg2 hog
    have hc : c ∈ letsL b := by rw [← hL]; simp
    rw [List.map_cons, List.sum_cons] at hg2 ⊢
    have hp := cnt_pos n (succL b c)
    have hrs := hr.succ c
    have hds := dL_succ h hb hc
    have hw := ih (succL b c) (so ++ [c]) g hrs hds (by simp; omega) (by omega)
    have hlc := len_cnt n _ hrs
    have hix : (rd_T88 (stW ws b).f1 (L1.length : Int)) = edgeW ws b c := by
     have hil : L1.length < (stW ws b).f1.length := by rw [stW_eq, List.length_map, ← hL]; simp
     rw [rd_edge hil]
     simp only [stW_eq, ← hL, List.map_append, List.map_cons]
     rw [List.getElem_append_right (by simp)]
     simp
    have hlt : (L1.length : Int) < ((stW ws b).f1.length : Int) := by rw [stW_eq, List.length_map, ← hL]; simp; omega
    have hso : so.length < 12 := by omega
    refine Ev.step (fun k => sF73.l0.eq_2 ..) (Ev.ifT (by omega) (Ev.ifT h1 (Ev.ifT (by rw [hst]; exact hlt) (Ev.ifT (by omega) (Ev.ifT (by rw [size_B]; omega) (Ev.ifT (by omega) (Ev.some_bind ?_)))))))
    have hl1 : L1.length < 27 := by
     have h9 := letsL_length b
     rw [← hL] at h9
     simp at h9
     omega
    rw [hst, hix, ltr_str (edgeW_ok h hb hc), edgeW_ltr hc, append_B, wrap64_succ L1.length (by omega)]
    refine Ev.ifT (by rw [size_B, size_B]; simp; omega) (Ev.bind hw (Ev.ifT (by rw [List.length_map, List.length_map, List.length_map]; omega) ?_))
    have hn := ihL (L1 ++ [c]) (out ++ (succL b c).map fun x => so ++ c :: x) (g + cntL n (succL b c)) (by rw [List.append_assoc]; exact hL) (by rw [List.length_append, List.length_map]; omega) (by omega) (by rw [List.length_append, List.length_map]; omega)
    rw [List.length_append, List.length_singleton] at hn
    have e1 : (succL b c).map ((so ++ [c]) ++ ·) = (succL b c).map fun x => so ++ c :: x := List.map_congr_left fun x _ => by rw [List.append_assoc]; rfl
    show Ev (fun k => sF73.l0 k ((dL ws).idxOf b : Int) (B so) ((g + cntL n (succL b c) : Nat) : Int) (out.map B ++ ((succL b c).map ((so ++ [c]) ++ ·)).map B) ((L1.length + 1 : Nat) : Int) (machW ws)) _
    rw [e1, ← List.map_append]
    have e2 : outL b so (c :: L2) = ((succL b c).map fun x => so ++ c :: x) ++ outL b so L2 := by unfold outL; rw [List.flatMap_cons]
    rw [e2, ← List.append_assoc, show g + (cntL n (succL b c) + (L2.map fun c => cntL n (succL b c)).sum) = g + cntL n (succL b c) + (L2.map fun c => cntL n (succL b c)).sum from by omega]
    exact hn
  rw [out_all hr so, show gone + (1 + ((letsL b).map fun c => cntL n (succL b c)).sum) = gone + 1 + ((letsL b).map fun c => cntL n (succL b c)).sum from by omega]
  by_cases h0 : [] ∈ b
  ·
   rw [if_pos h0]
   refine Ev.step (fun k => sF73.f.eq_2 ..) (Ev.some_bind (Ev.ifT (by omega) (Ev.ifT h1 (Ev.ifT (by rw [hst, stW_eq]; simpa using h0) (Ev.ifT (by simp) (Ev.step (fun k => sF73.j0.eq_2 ..) ?_))))))
   rw [wrap64_succ gone (by omega)]
   exact loop (letsL b) [] [so] (gone + 1) rfl (by simp) (by omega) (by simp)
  rw [if_neg h0]
  refine Ev.step (fun k => sF73.f.eq_2 ..) (Ev.some_bind (Ev.ifT (by omega) (Ev.ifT h1 (Ev.ifF (by rw [hst, stW_eq]; simpa using h0) (Ev.step (fun k => sF73.j0.eq_2 ..) ?_)))))
  rw [wrap64_succ gone (by omega)]
  exact loop (letsL b) [] [] (gone + 1) rfl (by simp) (by omega) (by simp)
end Mach
end Go.Proofs.YtnnkedeohfbkeaaGreatDoor.L
namespace Go.Proofs.YtnnkedeohfbkeaaGreatDoor.L
open Go.RowKit Go.Proofs.YtnnkedeohfbkeaaGreatDoor.P Go.Proofs.YtnnkedeohfbkeaaGreatDoor.M Go.Proofs.YtnnkedeohfbkeaaGreatDoorW.PrintWords Go.Proofs.YtnnkedeohfbkeaaGreatDoorW.PrintLast Go.Proofs.YtnnkedeohfbkeaaGreatDoorW.PrintMore
deriving instance DecidableEq for S88
deriving instance DecidableEq for S72
namespace Mach
theorem rd_st {m : List Stt} {i : Nat} (h : i < m.length) : rd_T72 m (i : Int) = m[i] := by
 unfold rd_T72
 rw [Int.toNat_natCast, List.getD_eq_getElem?_getD, List.getElem?_eq_getElem h]
 rfl
theorem edge_ne (a b : Edg) : (!(a.f0 == b.f0) || !(a.f1 == b.f1)) = decide (a ≠ b) := by
 obtain ⟨a0, a1⟩ := a
 obtain ⟨b0, b1⟩ := b
 by_cases h0 : a0 = b0
 ·
  by_cases h1 : a1 = b1
  ·
   subst h0 h1; simp
  simp [h0, h1]
 simp [h0]
theorem drop_eq {α : Type} {l m : List α} {i : Nat} (hl : i < l.length) (hm : i < m.length) : l.drop i = m.drop i ↔ l[i] = m[i] ∧ l.drop (i + 1) = m.drop (i + 1) := by
 rw [List.drop_eq_getElem_cons hl, List.drop_eq_getElem_cons hm, List.cons.injEq]
theorem l7Same_in (A C : List Stt) (x y : Stt) (x5 : Int) (hx : x.f1.length ≤ 4294967296) (he : x.f1.length = y.f1.length) (r : Bool) (hr : Ev (fun k => sF70.l0 k (wrap64 (x5 + 1)) A C) r) : ∀ (d i : Nat), i + d = x.f1.length →
  Ev (fun k => sF70.l1 k x5 (i : Int) A C x.f0 x.f1 y.f0 y.f1) (decide (x.f1.drop i = y.f1.drop i) && r) := by
 intro d
 induction d with
 | zero =>
  intro i hi
  rw [List.drop_eq_nil_of_le (by omega), List.drop_eq_nil_of_le (by omega)]
  refine Ev.step (fun k => sF70.l1.eq_2 ..) (Ev.ifF (by omega) ?_)
  simpa using hr
 | succ d ih =>
  intro i hi
  have h1 : i < x.f1.length := by omega
  have h2 : i < y.f1.length := by omega
  refine Ev.step (fun k => sF70.l1.eq_2 ..) (Ev.ifT (by omega) (Ev.ifT (by omega) (Ev.ifT (by omega) ?_)))
  rw [rd_edge h1, rd_edge h2, edge_ne]
  by_cases e : x.f1[i] = y.f1[i]
  ·
   rw [decide_eq_false (by simpa using e)]
   refine Ev.ifF (by simp) ?_
   rw [wrap64_succ i (by omega), show decide (x.f1.drop i = y.f1.drop i) = decide (x.f1.drop (i + 1) = y.f1.drop (i + 1)) from by congr 1; rw [drop_eq h1 h2]; simp [e]]
   exact ih (i + 1) (by omega)
  rw [decide_eq_true e, decide_eq_false (fun k => e ((drop_eq h1 h2).1 k).1)]
  exact Ev.ifT rfl (Ev.now _)
theorem st_ext {x y : Stt} : x = y ↔ x.f0 = y.f0 ∧ x.f1 = y.f1 := by
 obtain ⟨a, b⟩ := x
 obtain ⟨c, d⟩ := y
 simp
theorem l7Same_out (A C : List Stt) (hA : A.length ≤ 4294967296) (hx : ∀ x ∈ A, x.f1.length ≤ 4294967296) (he : A.length = C.length) : ∀ (d i : Nat), i + d = A.length →
  Ev (fun k => sF70.l0 k (i : Int) A C) (decide (A.drop i = C.drop i)) := by
 intro d
 induction d with
 | zero =>
  intro i hi
  rw [List.drop_eq_nil_of_le (by omega), List.drop_eq_nil_of_le (by omega)]
  exact Ev.step (fun k => sF70.l0.eq_2 ..) (Ev.ifF (by omega) (Ev.now _))
 | succ d ih =>
  intro i hi
  have h1 : i < A.length := by omega
  have h2 : i < C.length := by omega
  have hr := ih (i + 1) (by omega)
  rw [← wrap64_succ i (by omega)] at hr
  refine Ev.step (fun k => sF70.l0.eq_2 ..) (Ev.ifT (by omega) (Ev.ifT (by omega) (Ev.ifT (by omega) ?_)))
  rw [rd_st h1, rd_st h2]
  have fin : ∀ b : Bool, A[i] ≠ C[i] → decide (A.drop i = C.drop i) = false := fun b h => decide_eq_false fun k => h ((drop_eq h1 h2).1 k).1
  by_cases e0 : A[i].f0 = C[i].f0
  ·
   refine Ev.ifF (by simp [e0]) ?_
   by_cases e1 : A[i].f1.length = C[i].f1.length
   ·
    refine Ev.step (fun k => sF70.j1.eq_2 ..) (Ev.ifF (by simp [e1]) ?_)
    have := l7Same_in A C A[i] C[i] (i : Int) (hx _ (List.getElem_mem h1)) e1 _ hr A[i].f1.length 0 (by omega)
    rw [List.drop_zero, List.drop_zero] at this
    have e2 : decide (A.drop i = C.drop i) = (decide (A[i].f1 = C[i].f1) && decide (A.drop (i + 1) = C.drop (i + 1))) := by
     rw [← Bool.decide_and]
     congr 1
     rw [drop_eq h1 h2, st_ext]
     simp [e0]
    rw [e2]
    exact this
   rw [fin true fun k => e1 (by rw [k])]
   exact Ev.step (fun k => sF70.j1.eq_2 ..) (Ev.ifT (by simp; omega) (Ev.now _))
  rw [fin true fun k => e0 (by rw [k])]
  exact Ev.ifT (by simp [e0]) (Ev.step (fun k => sF70.j1.eq_2 ..) (Ev.ifT rfl (Ev.now _)))
theorem l7Same_ev (A C : List Stt) (hA : A.length ≤ 4294967296) (hx : ∀ x ∈ A, x.f1.length ≤ 4294967296) : Ev (fun k => sF70.f k A C) (decide (A = C)) := by
 unfold sF70.f
 by_cases he : A.length = C.length
 ·
  have := l7Same_out A C hA hx he A.length 0 (by omega)
  rw [List.drop_zero, List.drop_zero] at this
  exact Ev.ifT (by omega) this
 rw [decide_eq_false fun k => he (by rw [k])]
 exact Ev.ifF (by omega) (Ev.now _)
theorem equal_edges (X Y : List Edg) (hX : X.length ≤ 4294967296) (he : X.length = Y.length) : ∀ (d i : Nat), i + d = X.length →
  Ev (fun k => xF49.l0 k X Y (X.length : Int) (i : Int)) (decide (X.drop i = Y.drop i)) := by
 intro d
 induction d with
 | zero =>
  intro i hi
  rw [List.drop_eq_nil_of_le (by omega), List.drop_eq_nil_of_le (by omega)]
  exact Ev.step (fun k => xF49.l0.eq_2 ..) (Ev.ifF (by omega) (Ev.now _))
 | succ d ih =>
  intro i hi
  have h1 : i < X.length := by omega
  have h2 : i < Y.length := by omega
  refine Ev.step (fun k => xF49.l0.eq_2 ..) (Ev.ifT (by omega) (Ev.ifT (by omega) (Ev.ifT (by omega) (Ev.ifT (by omega) ?_))))
  rw [rd_edge h1, rd_edge h2, edge_ne]
  by_cases e : X[i] = Y[i]
  ·
   rw [decide_eq_false (by simpa using e)]
   refine Ev.ifF (by simp) ?_
   rw [wrap64_succ i (by omega), show decide (X.drop i = Y.drop i) = decide (X.drop (i + 1) = Y.drop (i + 1)) from by congr 1; rw [drop_eq h1 h2]; simp [e]]
   exact ih (i + 1) (by omega)
  rw [decide_eq_true e, decide_eq_false (fun k => e ((drop_eq h1 h2).1 k).1)]
  exact Ev.ifT rfl (Ev.now _)
theorem sameState_ev (x y : Stt) (hx : x.f1.length ≤ 4294967296) : Ev (fun k => iF26.f k x.f0 x.f1 y.f0 y.f1) (decide (x = y)) := by
 unfold iF26.f
 by_cases e0 : x.f0 = y.f0
 ·
  refine Ev.ifT (by simp [e0]) ?_
  have e : decide (x = y) = decide (x.f1 = y.f1) := by congr 1; rw [st_ext]; simp [e0]
  rw [e]
  unfold xF49.f
  by_cases he : x.f1.length = y.f1.length
  ·
   have := equal_edges x.f1 y.f1 hx he x.f1.length 0 (by omega)
   rw [List.drop_zero, List.drop_zero] at this
   exact Ev.bind (Ev.ifT (by omega) this) (Ev.now _)
  rw [decide_eq_false fun k => he (by rw [k])]
  exact Ev.bind (Ev.ifF (by omega) (Ev.now _)) (Ev.now _)
 rw [decide_eq_false fun k => e0 (by rw [k])]
 exact Ev.ifF (by simp [e0]) (Ev.now _)
theorem equalF_out (A C : List Stt) (hA : A.length ≤ 4294967296) (hx : ∀ x ∈ A, x.f1.length ≤ 4294967296) (he : A.length = C.length) : ∀ (d i : Nat), i + d = A.length →
  Ev (fun k => xF48.l0 k C A (A.length : Int) (i : Int)) (decide (A.drop i = C.drop i)) := by
 intro d
 induction d with
 | zero =>
  intro i hi
  rw [List.drop_eq_nil_of_le (by omega), List.drop_eq_nil_of_le (by omega)]
  exact Ev.step (fun k => xF48.l0.eq_2 ..) (Ev.ifF (by omega) (Ev.now _))
 | succ d ih =>
  intro i hi
  have h1 : i < A.length := by omega
  have h2 : i < C.length := by omega
  refine Ev.step (fun k => xF48.l0.eq_2 ..) (Ev.ifT (by omega) (Ev.ifT (by omega) (Ev.ifT (by omega) (Ev.ifT (by omega) ?_))))
  rw [rd_st h1, rd_st h2]
  refine Ev.bind (sameState_ev A[i] C[i] (hx _ (List.getElem_mem h1))) ?_
  by_cases e : A[i] = C[i]
  ·
   rw [decide_eq_true e, wrap64_succ i (by omega), show decide (A.drop i = C.drop i) = decide (A.drop (i + 1) = C.drop (i + 1)) from by congr 1; rw [drop_eq h1 h2]; simp [e]]
   exact Ev.ifT rfl (ih (i + 1) (by omega))
  rw [decide_eq_false e, decide_eq_false (fun k => e ((drop_eq h1 h2).1 k).1)]
  exact Ev.ifF Bool.false_ne_true (Ev.now _)
theorem equalF_ev (A C : List Stt) (hA : A.length ≤ 4294967296) (hx : ∀ x ∈ A, x.f1.length ≤ 4294967296) : Ev (fun k => xF48.f k A C) (decide (A = C)) := by
 unfold xF48.f
 by_cases he : A.length = C.length
 ·
  have := equalF_out A C hA hx he A.length 0 (by omega)
  rw [List.drop_zero, List.drop_zero] at this
  exact Ev.ifT (by omega) this
 rw [decide_eq_false fun k => he (by rw [k])]
 exact Ev.ifF (by omega) (Ev.now _)
end Mach
end Go.Proofs.YtnnkedeohfbkeaaGreatDoor.L
namespace Go.Proofs.YtnnkedeohfbkeaaGreatDoor.L
open Go.RowKit Go.Proofs.YtnnkedeohfbkeaaGreatDoor.P Go.Proofs.YtnnkedeohfbkeaaGreatDoor.M Go.Proofs.YtnnkedeohfbkeaaGreatDoorW.PrintWords Go.Proofs.YtnnkedeohfbkeaaGreatDoorW.PrintLast Go.Proofs.YtnnkedeohfbkeaaGreatDoorW.PrintMore
namespace Mach
theorem in_eq (a b c : Int) : iF19.f a b c = some (decide (b ≤ a ∧ a ≤ c)) := by
 unfold iF19.f
 by_cases h : a ≥ b
 ·
  rw [if_pos h]; congr 1; simp [show b ≤ a from h]
 rw [if_neg h, decide_eq_false (by omega)]
theorem ltr_str2 {e : Edg} (h0 : 0 ≤ e.f0) (h1 : e.f0 ≤ 25) : strOfNums ([(wrap64 (97 + e.f0)) % 256] : List Int) = B [ltr e] := by
 rw [strOfNums_B, wrap64_id (by omega) (by omega)]
 unfold ltr
 congr 2
 have : ((97 + e.f0) % 256).toNat = 97 + e.f0.toNat := by omega
 rw [this]
structure VisOut (acc out : List Txt) (left l2 : Int) : Prop where
 word : (∀ w ∈ acc, wordL w = true) → ∀ w ∈ out, wordL w = true
 low : 0 ≤ l2
 less : l2 ≤ left
 len : (out.length : Int) + l2 ≤ (acc.length : Int) + left
theorem VisOut.same (acc : List Txt) {left : Int} (h : 0 ≤ left) : VisOut acc acc left left := ⟨fun h => h, h, Int.le_refl _, Int.le_refl _⟩
theorem VisOut.trans {a b c : List Txt} {x y z : Int} (h : VisOut a b x y) (k : VisOut b c y z) : VisOut a c x z :=
 ⟨fun w => k.word (h.word w), k.low, Int.le_trans k.less h.less, by have := h.len; have := k.len; omega⟩
theorem visit_ex (m : List Stt) : ∀ (d : Nat) (so : Txt) (st : Int) (acc : List Txt) (left : Int), so.length + d = 13 → 0 ≤ left → left ≤ 481 → (acc.length : Int) + left ≤ 1000 →
  ∃ (ok : Bool) (out : List Txt) (l2 : Int), Ev (fun k => iF25.v k m st (B so) (acc.map B) left) (ok, out.map B, l2) ∧ VisOut acc out left l2 := by
 intro d
 induction d with
 | zero =>
  intro so st acc left hd h0 h1 h2
  refine ⟨false, acc, left, Ev.step (fun k => iF25.v.eq_2 ..) ?_, VisOut.same acc h0⟩
  rw [in_eq]
  refine Ev.some_bind ?_
  by_cases hi : decide (0 ≤ st ∧ st ≤ (m.length : Int) - 1) = true
  ·
   refine Ev.ifT hi ?_
   rw [isWord_eq]
   refine Ev.some_bind (Ev.ifF ?_ (Ev.now _))
   intro hw
   have := (wordL_iff.1 hw).2
   omega
  exact Ev.ifF hi (Ev.now _)
 | succ d ih =>
  intro so st acc left hd h0 h1 h2
  have es : ∀ (L : List Edg) (acc : List Txt) (left : Int), 0 ≤ left → left ≤ 481 → (acc.length : Int) + left ≤ 1000 →
    ∃ (ok : Bool) (out : List Txt) (l2 : Int), Ev (fun k => iF25.es (iF25.v k m) (B so) L (acc.map B) left) (ok, out.map B, l2) ∧ VisOut acc out left l2 := by
   intro L
   induction L with
   | nil =>
    intro acc left h0 h1 h2
    exact ⟨true, acc, left, Ev.now _, VisOut.same acc h0⟩
   | cons e L ihL =>
    intro acc left h0 h1 h2
    by_cases he : 0 ≤ e.f0 ∧ e.f0 ≤ 25
    ·
     obtain ⟨ok, out, l2, hv, ho⟩ := ih (so ++ [ltr e]) e.f1 acc left (by simp; omega) h0 h1 h2
     have hb : (fun k => iF25.es (iF25.v k m) (B so) (e :: L) (acc.map B) left) = fun k => (iF25.v k m e.f1 (B (so ++ [ltr e])) (acc.map B) left).bind fun p => if p.1 = true then iF25.es (iF25.v k m) (B so) L p.2.1 p.2.2 else some (false, p.2.1, p.2.2) := by
      funext k
      rw [iF25.es, in_eq, decide_eq_true he, Option.bind_some, if_pos rfl, if_pos (by rw [size_B]; omega), ltr_str2 he.1 he.2, append_B]
     cases ok with
     | false =>
      refine ⟨false, out, l2, ?_, ho⟩
      rw [hb]
      exact Ev.bind hv (Ev.ifF Bool.false_ne_true (Ev.now _))
     | true =>
      obtain ⟨ok, out2, l3, hv2, ho2⟩ := ihL out l2 ho.low (by have := ho.less; omega) (by have := ho.len; omega)
      refine ⟨ok, out2, l3, ?_, ho.trans ho2⟩
      rw [hb]
      exact Ev.bind hv (Ev.ifT rfl hv2)
    refine ⟨false, acc, left, ?_, VisOut.same acc h0⟩
    have hb : (fun k => iF25.es (iF25.v k m) (B so) (e :: L) (acc.map B) left) = fun _ => some (false, acc.map B, left) := by
     funext k
     rw [iF25.es, in_eq, decide_eq_false he, Option.bind_some, if_neg Bool.false_ne_true]
    rw [hb]
    exact Ev.now _
  by_cases hi : decide (0 ≤ st ∧ st ≤ (m.length : Int) - 1) = true
  rotate_left
  ·
   refine ⟨false, acc, left, Ev.step (fun k => iF25.v.eq_2 ..) ?_, VisOut.same acc h0⟩
   rw [in_eq]
   exact Ev.some_bind (Ev.ifF hi (Ev.now _))
  by_cases hw : wordL so = true
  rotate_left
  ·
   refine ⟨false, acc, left, Ev.step (fun k => iF25.v.eq_2 ..) ?_, VisOut.same acc h0⟩
   rw [in_eq, isWord_eq]
   exact Ev.some_bind (Ev.ifT hi (Ev.some_bind (Ev.ifF hw (Ev.now _))))
  by_cases hl : left = 0
  ·
   refine ⟨false, acc, left, Ev.step (fun k => iF25.v.eq_2 ..) ?_, VisOut.same acc h0⟩
   rw [in_eq, isWord_eq]
   exact Ev.some_bind (Ev.ifT hi (Ev.some_bind (Ev.ifT hw (Ev.ifT hl (Ev.now _)))))
  by_cases he : (rd_T72 m st).f0 = true
  ·
   obtain ⟨ok, out, l2, hv, ho⟩ := es (rd_T72 m st).f1 (acc ++ [so]) (left - 1) (by omega) (by omega) (by rw [List.length_append]; simp; omega)
   refine ⟨ok, out, l2, Ev.step (fun k => iF25.v.eq_2 ..) ?_, ⟨fun h => ho.word fun w hw2 => ?_, ho.low, by have := ho.less; omega, by have := ho.len; rw [List.length_append] at this; simp at this; omega⟩⟩
   ·
    rw [in_eq, isWord_eq, if_pos he]
    refine Ev.some_bind (Ev.ifT hi (Ev.some_bind (Ev.ifT hw (Ev.ifF hl (Ev.ifT ⟨by omega, by omega, by rw [List.length_map]; omega⟩ ?_)))))
    rw [show acc.map B ++ [B so] = (acc ++ [so]).map B from by simp]
    exact hv
   rcases List.mem_append.1 hw2 with k | k
   ·
    exact h w k
   rw [List.mem_singleton.1 k]; exact hw
  obtain ⟨ok, out, l2, hv, ho⟩ := es (rd_T72 m st).f1 acc (left - 1) (by omega) (by omega) (by omega)
  refine ⟨ok, out, l2, Ev.step (fun k => iF25.v.eq_2 ..) ?_, ⟨ho.word, ho.low, by have := ho.less; omega, by have := ho.len; omega⟩⟩
  rw [in_eq, isWord_eq, if_neg he]
  exact Ev.some_bind (Ev.ifT hi (Ev.some_bind (Ev.ifT hw (Ev.ifF hl (Ev.ifT ⟨by omega, by omega, by rw [List.length_map]; omega⟩ hv)))))
theorem visitW {ws : List Txt} (h : OkW ws) : ∀ (n : Nat) (b : List Txt) (so : Txt) (acc : List Txt) (left : Int), Res n b → b ∈ dL ws → so.length + n ≤ 12 → wordL so = true → (cntL n b : Int) ≤ left → left ≤ 481 → (acc.length : Int) + left ≤ 1000 →
  Ev (fun k => iF25.v k (machW ws) ((dL ws).idxOf b : Int) (B so) (acc.map B) left) (true, (acc ++ b.map (so ++ ·)).map B, left - (cntL n b : Int)) := by
 intro n
 induction n with
 | zero =>
  intro b so acc left hr hb hs hw hc hl ha
  have h1 := machW_lt hb
  have hst := machW_rd hb
  have hlz := hr.zero_lets
  have hc1 : cntL 0 b = 1 := rfl
  rw [hc1] at hc ⊢
  refine Ev.step (fun k => iF25.v.eq_2 ..) ?_
  rw [in_eq, isWord_eq, hst, stW_eq, hlz]
  refine Ev.some_bind (Ev.ifT (decide_eq_true (by omega)) (Ev.some_bind (Ev.ifT hw (Ev.ifF (by omega) (Ev.ifT ⟨by omega, by omega, by rw [List.length_map]; omega⟩ ?_)))))
  rw [out_all hr so, hlz]
  show Ev (fun k => some (true, (if decide ([] ∈ b) = true then acc.map B ++ [B so] else acc.map B), left - 1)) _
  by_cases h0 : [] ∈ b
  ·
   rw [if_pos h0, decide_eq_true h0, if_pos rfl]
   have e : (acc ++ ([so] ++ outL b so [])).map B = acc.map B ++ [B so] := by simp [outL]
   rw [e]
   exact Ev.now _
  rw [if_neg h0, decide_eq_false h0, if_neg Bool.false_ne_true]
  have e : (acc ++ ([] ++ outL b so [])).map B = acc.map B := by simp [outL]
  rw [e]
  exact Ev.now _
 | succ n ih =>
  intro b so acc left hr hb hs hw hc hl ha
  have h1 := machW_lt hb
  have hst := machW_rd hb
  rw [cntL] at hc ⊢
  have loop : ∀ (L : List UInt8) (acc : List Txt) (left : Int), (∀ c ∈ L, c ∈ letsL b) → ((L.map fun c => cntL n (succL b c)).sum : Nat) ≤ left → left ≤ 481 → (acc.length : Int) + left ≤ 1000 →
    Ev (fun k => iF25.es (iF25.v k (machW ws)) (B so) (L.map (edgeW ws b)) (acc.map B) left) (true, (acc ++ outL b so L).map B, left - ((L.map fun c => cntL n (succL b c)).sum : Nat)) := by
   intro L
   induction L with
   | nil =>
    intro acc left _ _ _ _
    have e : (acc ++ outL b so []).map B = acc.map B := by simp [outL]
    rw [e]
    show Ev (fun _ => some (true, acc.map B, left)) (true, acc.map B, left - ((0 : Nat) : Int))
    rw [show left - ((0 : Nat) : Int) = left from by omega]
    exact Ev.now _
   | cons c L ihL =>
    intro acc left hL hsum hl ha
    have hcm := hL c List.mem_cons_self
    have hb1 := letsL_let hcm
    have he : 0 ≤ (edgeW ws b c).f0 ∧ (edgeW ws b c).f0 ≤ 25 := ⟨(edgeW_ok h hb hcm).1, (edgeW_ok h hb hcm).2.1⟩
    have esum : ((c :: L).map fun c => cntL n (succL b c)).sum = cntL n (succL b c) + (L.map fun c => cntL n (succL b c)).sum := by simp
    rw [esum] at hsum ⊢
    have hrs := hr.succ c
    have hlc := len_cnt n _ hrs
    have hw2 : wordL (so ++ [c]) = true := wordL_iff.2 ⟨fun x hx => by
     rcases List.mem_append.1 hx with k | k
     ·
      exact (wordL_iff.1 hw).1 x k
     rw [List.mem_singleton.1 k]; unfold letterB; rw [decide_eq_true_eq]; exact hb1, by simp; omega⟩
    have hv := ih (succL b c) (so ++ [c]) acc left hrs (dL_succ h hb hcm) (by simp; omega) hw2 (by omega) hl ha
    have e1 : (succL b c).map ((so ++ [c]) ++ ·) = (succL b c).map fun x => so ++ c :: x := List.map_congr_left fun x _ => by rw [List.append_assoc]; rfl
    rw [e1] at hv
    have hn := ihL (acc ++ (succL b c).map fun x => so ++ c :: x) (left - (cntL n (succL b c) : Int)) (fun x hx => hL x (List.mem_cons_of_mem _ hx)) (by omega) (by omega) (by rw [List.length_append, List.length_map]; omega)
    have hbb : (fun k => iF25.es (iF25.v k (machW ws)) (B so) ((c :: L).map (edgeW ws b)) (acc.map B) left) = fun k => (iF25.v k (machW ws) ((dL ws).idxOf (succL b c) : Int) (B (so ++ [c])) (acc.map B) left).bind fun p => if p.1 = true then iF25.es (iF25.v k (machW ws)) (B so) (L.map (edgeW ws b)) p.2.1 p.2.2 else some (false, p.2.1, p.2.2) := by
     funext k
     rw [List.map_cons, iF25.es, in_eq, decide_eq_true he, Option.bind_some, if_pos rfl, if_pos (by rw [size_B]; omega), ltr_str2 he.1 he.2, append_B, edgeW_ltr hcm]
     rfl
    rw [hbb]
    refine Ev.bind hv (Ev.ifT rfl ?_)
    have e2 : outL b so (c :: L) = ((succL b c).map fun x => so ++ c :: x) ++ outL b so L := by unfold outL; rw [List.flatMap_cons]
    rw [e2, ← List.append_assoc, show left - ((cntL n (succL b c) + (L.map fun c => cntL n (succL b c)).sum : Nat) : Int) = left - (cntL n (succL b c) : Int) - ((L.map fun c => cntL n (succL b c)).sum : Nat) from by omega]
    exact hn
  refine Ev.step (fun k => iF25.v.eq_2 ..) ?_
  rw [in_eq, isWord_eq, hst, stW_eq]
  refine Ev.some_bind (Ev.ifT (decide_eq_true (by omega)) (Ev.some_bind (Ev.ifT hw (Ev.ifF (by omega) (Ev.ifT ⟨by omega, by omega, by rw [List.length_map]; omega⟩ ?_)))))
  rw [out_all hr so]
  rw [show left - ((1 + ((letsL b).map fun c => cntL n (succL b c)).sum : Nat) : Int) = left - 1 - (((letsL b).map fun c => cntL n (succL b c)).sum : Nat) from by omega]
  show Ev (fun k => iF25.es (iF25.v k (machW ws)) (B so) ((letsL b).map (edgeW ws b)) (if decide ([] ∈ b) = true then acc.map B ++ [B so] else acc.map B) (left - 1)) _
  by_cases h0 : [] ∈ b
  ·
   rw [if_pos h0, decide_eq_true h0, if_pos rfl, ← List.append_assoc, show acc.map B ++ [B so] = (acc ++ [so]).map B from by simp]
   exact loop (letsL b) (acc ++ [so]) (left - 1) (fun _ hc => hc) (by omega) (by omega) (by rw [List.length_append]; simp; omega)
  rw [if_neg h0, decide_eq_false h0, if_neg Bool.false_ne_true, List.nil_append]
  exact loop (letsL b) acc (left - 1) (fun _ hc => hc) (by omega) (by omega) (by omega)
end Mach
end Go.Proofs.YtnnkedeohfbkeaaGreatDoor.L
namespace Go.Proofs.YtnnkedeohfbkeaaGreatDoor.L
open Go.RowKit Go.Proofs.YtnnkedeohfbkeaaGreatDoor.P Go.Proofs.YtnnkedeohfbkeaaGreatDoor.M Go.Proofs.YtnnkedeohfbkeaaGreatDoorW.PrintWords Go.Proofs.YtnnkedeohfbkeaaGreatDoorW.PrintLast Go.Proofs.YtnnkedeohfbkeaaGreatDoorW.PrintMore
namespace Mach
def kidsW (ws : List Txt) : List (List Int) := (List.range (preL ws).length).map (kidW ws)
theorem kidsW_length (ws : List Txt) : (kidsW ws).length = (preL ws).length := by simp [kidsW]
theorem kidsW_rd {ws : List Txt} {i : Nat} (hi : i < (preL ws).length) : rd_L10 (kidsW ws) (i : Int) = kidW ws i := by
 unfold rd_L10 kidsW
 rw [Int.toNat_natCast, getD_lt _ (by simpa using hi)]
 simp
def kidsU (P : List Txt) (n : Nat) : List (List Int) := (List.range P.length).map fun j => kidU P (P.getD j []) n
theorem kidsU_length (P : List Txt) (n : Nat) : (kidsU P n).length = P.length := by simp [kidsU]
theorem kidsU_rd {P : List Txt} {n i : Nat} (hi : i < P.length) : rd_L10 (kidsU P n) (i : Int) = kidU P (P.getD i []) n := by
 unfold rd_L10 kidsU
 rw [Int.toNat_natCast, getD_lt _ (by simpa using hi)]
 simp
theorem isKid_par {P : List Txt} (hA : Asc P) (hC : Clo P) {i j : Nat} (hi : i < P.length) (h0 : 0 < i) (hj : j < P.length) : isKid P (P.getD j []) i = decide (j = placeL P (P.getD i []).dropLast) := by
 obtain ⟨h1, h2⟩ := clo_parent hA hC hi h0
 unfold isKid
 congr 1
 refine propext ⟨fun h => ?_, fun h => ⟨clo_pos hA hC hi h0, by rw [h, h2]⟩⟩
 rw [h.2, placeL_get hA hj]
theorem kidsU_set {P : List Txt} (hA : Asc P) (hC : Clo P) {i : Nat} (hi : i < P.length) (h0 : 0 < i) : (kidsU P i).set (placeL P (P.getD i []).dropLast) (kidU P (P.getD (placeL P (P.getD i []).dropLast) []) i ++ [(i : Int)]) = kidsU P (i + 1) := by
 obtain ⟨h1, h2⟩ := clo_parent hA hC hi h0
 apply List.ext_getElem?
 intro j
 by_cases hj : j < P.length
 ·
  unfold kidsU
  rw [List.getElem?_set, List.getElem?_map, List.getElem?_map, List.getElem?_range hj, Option.map_some, Option.map_some, kidU_succ, isKid_par hA hC hi h0 hj]
  by_cases e : placeL P (P.getD i []).dropLast = j
  ·
   rw [if_pos e, if_pos (by rw [List.length_map, List.length_range]; omega), if_pos (decide_eq_true e.symm), e]
  rw [if_neg e, if_neg (by rw [decide_eq_true_eq]; exact fun k => e k.symm), List.append_nil]
 rw [List.getElem?_eq_none (by rw [List.length_set, kidsU_length]; omega), List.getElem?_eq_none (by rw [kidsU_length]; omega)]
theorem l7Kids_ev {ws : List Txt} (h : OkW ws) : Ev (fun k => sF68.f k (trN (preL ws) ws)) (kidsW ws) := by
 have hA := asc_preL ws
 have hC := clo_preL ws
 have hP := h.pre
 obtain ⟨z1, z2⟩ := clo_zero hA hC
 have fin : kidsU (preL ws) (preL ws).length = kidsW ws := by
  unfold kidsU kidsW
  exact List.map_congr_left fun j hj => kidW_eq h j
 have loop : ∀ d n, n + d = (preL ws).length → 0 < n → Ev (fun k => sF68.l0 k (kidsU (preL ws) n) (n : Int) (trN (preL ws) ws)) (kidsW ws) := by
  intro d
  induction d with
  | zero =>
   intro n h1 h2
   rw [show n = (preL ws).length from by omega, fin]
   exact Ev.step (fun k => sF68.l0.eq_2 ..) (Ev.ifF (by rw [trN_length]; omega) (Ev.now _))
  | succ d ih =>
   intro n h1 h2
   have hn : n < (preL ws).length := by omega
   obtain ⟨p1, p2⟩ := clo_parent hA hC hn h2
   have hl := kidU_length (preL ws) ((preL ws).getD (placeL (preL ws) ((preL ws).getD n []).dropLast) []) n
   refine Ev.step (fun k => sF68.l0.eq_2 ..) (Ev.ifT (by rw [trN_length]; omega) (Ev.ifT (by omega) ?_))
   rw [f1_pos ws hA hC hn h2, kidsU_rd (by omega)]
   refine Ev.ifT (by omega) (Ev.ifT (by rw [kidsU_length]; omega) (Ev.ifT (by omega) ?_))
   rw [Int.toNat_natCast, kidsU_set hA hC hn h2, wrap64_succ n (by omega)]
   exact ih (n + 1) (by omega) (by omega)
 unfold sF68.f
 refine Ev.ifT (by omega) (Ev.ifT (by rw [trN_length]; omega) ?_)
 have hr : List.replicate (((trN (preL ws) ws).length : Int)).toNat ([] : List Int) = kidsU (preL ws) 1 := by
  rw [Int.toNat_natCast, trN_length]
  apply List.ext_getElem?
  intro j
  by_cases hj : j < (preL ws).length
  ·
   unfold kidsU
   rw [List.getElem?_replicate, if_pos hj, List.getElem?_map, List.getElem?_range hj, Option.map_some]
   have : kidU (preL ws) ((preL ws).getD j []) 1 = [] := by
    rw [kidU_succ, show kidU (preL ws) ((preL ws).getD j []) 0 = [] from rfl, if_neg, List.nil_append]
    unfold isKid
    rw [z2]
    simp
   rw [this]
  rw [List.getElem?_eq_none (by simp; omega), List.getElem?_eq_none (by rw [kidsU_length]; omega)]
 rw [hr]
 exact loop ((preL ws).length - 1) 1 (by omega) (by omega)
theorem l7Alike_ev {ws : List Txt} (h : OkW ws) {i k : Nat} (hik : i < k) (hk : k < (preL ws).length) (E : List Int) (hE : E.length = (preL ws).length)
  (hv : ∀ j, i < j → j < (preL ws).length → E.getD j 0 = (lastL (resL ws) ((resL ws).getD j []) : Int)) :
  Ev (fun f => sF66.f f (trN (preL ws) ws) (kidsW ws) E (i : Int) (k : Int)) (decide ((resL ws).getD i [] = (resL ws).getD k [])) := by
 have hi : i < (preL ws).length := by omega
 have hP := h.pre
 have Ri : Res 12 ((resL ws).getD i []) := by rw [resL_get hi]; exact Res.beh12 h _
 have Rk : Res 12 ((resL ws).getD k []) := by rw [resL_get hk]; exact Res.beh12 h _
 have hend : ∀ {j}, j < (preL ws).length → (rd_T96 (trN (preL ws) ws) (j : Int)).f2 = decide ([] ∈ (resL ws).getD j []) := fun {j} hj => by
  rw [f2_eq ws hj, resL_get hj]
  congr 1
  exact propext (by rw [mem_behL, List.append_nil])
 have stop : ∀ b : Bool, b = true → Ev (fun f => sF66.j0 f (kidsW ws) E (i : Int) (k : Int) b (trN (preL ws) ws)) false := fun b hb => Ev.step (fun f => sF66.j0.eq_2 ..) (Ev.ifT hb (Ev.now _))
 have hres : ∀ {n m}, n < (preL ws).length → m < (preL ws).length → ((lastL (resL ws) ((resL ws).getD n []) : Int) = (lastL (resL ws) ((resL ws).getD m []) : Int) ↔ (resL ws).getD n [] = (resL ws).getD m []) := fun {n m} hn hm => by
  rw [← lastL_inj (R := resL ws) (by rw [resL_length]; exact hn) (by rw [resL_length]; exact hm)]
  omega
 unfold sF66.f
 refine Ev.ifT (by omega) (Ev.ifT (by rw [trN_length]; omega) (Ev.ifT (by omega) (Ev.ifT (by rw [trN_length]; omega) ?_)))
 rw [hend hi, hend hk, kidsW_rd hi, kidsW_rd hk]
 by_cases h0 : decide ([] ∈ (resL ws).getD i []) = decide ([] ∈ (resL ws).getD k [])
 rotate_left
 ·
  rw [show decide ((resL ws).getD i [] = (resL ws).getD k []) = false from decide_eq_false fun e => h0 (by rw [e])]
  exact Ev.ifT (bne_iff_ne.2 h0) (stop _ rfl)
 refine Ev.ifF (by rw [h0]; simp) (Ev.ifT (by rw [kidsW_length]; omega) (Ev.ifT (by rw [kidsW_length]; omega) ?_))
 have hli : (kidW ws i).length = (letsL ((resL ws).getD i [])).length := by rw [kidW_length, resL_get hi]
 have hlk : (kidW ws k).length = (letsL ((resL ws).getD k [])).length := by rw [kidW_length, resL_get hk]
 have l26 := letsL_length ((resL ws).getD i [])
 by_cases h1 : (kidW ws i).length = (kidW ws k).length
 rotate_left
 ·
  rw [decide_eq_false (fun e => h1 (by rw [hli, hlk, e]))]
  refine stop _ ?_
  rw [bne_iff_ne]
  omega
 refine Ev.step (fun f => sF66.j0.eq_2 ..) (Ev.ifF (by simp; omega) ?_)
 have loop : ∀ d n, n + d = (kidW ws i).length → (∀ m, m < n → (letsL ((resL ws).getD i [])).getD m 0 = (letsL ((resL ws).getD k [])).getD m 0 ∧ succL ((resL ws).getD i []) ((letsL ((resL ws).getD i [])).getD m 0) = succL ((resL ws).getD k []) ((letsL ((resL ws).getD k [])).getD m 0)) →
   Ev (fun f => sF66.l0 f (kidsW ws) E (i : Int) (k : Int) (n : Int) (trN (preL ws) ws)) (decide ((resL ws).getD i [] = (resL ws).getD k [])) := by
  intro d
  induction d with
  | zero =>
   intro n hn hm
   have hle : letsL ((resL ws).getD i []) = letsL ((resL ws).getD k []) := by
    apply List.ext_getElem
    ·
     rw [← hli, ← hlk, h1]
    intro j h2 h3
    have := (hm j (by omega)).1
    rwa [getD_lt 0 h2, getD_lt 0 h3] at this
   have heq : (resL ws).getD i [] = (resL ws).getD k [] := res_eq Ri Rk h0 hle fun c hc => by
    obtain ⟨j, hj, rfl⟩ := List.getElem_of_mem hc
    have h2 := hm j (by omega)
    rw [← h2.1, getD_lt 0 hj] at h2
    exact h2.2
   rw [decide_eq_true heq]
   refine Ev.step (fun f => sF66.l0.eq_2 ..) (Ev.ifT (by omega) (Ev.ifT (by rw [kidsW_length]; omega) ?_))
   rw [kidsW_rd hi]
   exact Ev.ifF (by omega) (Ev.now _)
  | succ d ih =>
   intro n hn hm
   have n1 : n < (kidW ws i).length := by omega
   have n2 : n < (kidW ws k).length := by omega
   obtain ⟨q, q1, q2, q3, q4, q5, q6⟩ := kid_at h hi n1
   obtain ⟨t, t1, t2, t3, t4, t5, t6⟩ := kid_at h hk n2
   have no : ¬ ((letsL ((resL ws).getD i [])).getD n 0 = (letsL ((resL ws).getD k [])).getD n 0 ∧ succL ((resL ws).getD i []) ((letsL ((resL ws).getD i [])).getD n 0) = succL ((resL ws).getD k []) ((letsL ((resL ws).getD k [])).getD n 0)) → decide ((resL ws).getD i [] = (resL ws).getD k []) = false := fun hn => decide_eq_false fun e => hn (by rw [e]; exact ⟨rfl, rfl⟩)
   refine Ev.step (fun f => sF66.l0.eq_2 ..) (Ev.ifT (by omega) (Ev.ifT (by rw [kidsW_length]; omega) ?_))
   rw [kidsW_rd hi]
   refine Ev.ifT (by omega) (Ev.ifT (by omega) (Ev.ifT (by omega) (Ev.ifT (by rw [kidsW_length]; omega) ?_)))
   rw [kidsW_rd hk]
   refine Ev.ifT (by omega) ?_
   rw [rd_nat, rd_nat, q1, t1]
   refine Ev.ifT (by omega) (Ev.ifT (by rw [trN_length]; omega) (Ev.ifT (by omega) (Ev.ifT (by rw [trN_length]; omega) ?_)))
   rw [q5, t5]
   by_cases h2 : (letsL ((resL ws).getD i [])).getD n 0 = (letsL ((resL ws).getD k [])).getD n 0
   ·
    refine Ev.ifT (by rw [h2]) (Ev.ifT (by omega) (Ev.ifT (by omega) ?_))
    rw [rd_nat, rd_nat, hv q (by omega) q2, hv t (by omega) t2]
    by_cases h3 : (resL ws).getD q [] = (resL ws).getD t []
    ·
     refine Ev.ifT ((hres q2 t2).2 h3) ?_
     rw [wrap64_succ n (by omega)]
     refine ih (n + 1) (by omega) fun m hm' => ?_
     rcases Nat.lt_or_ge m n with h4 | h4
     ·
      exact hm m h4
     obtain rfl : m = n := by omega
     rw [q6, t6] at h3
     exact ⟨h2, h3⟩
    rw [no fun e => h3 (by rw [q6, t6]; exact e.2)]
    exact Ev.ifF (fun e => h3 ((hres q2 t2).1 e)) (Ev.now _)
   rw [no fun e => h2 e.1]
   refine Ev.ifF (fun e => h2 (UInt8.toNat_inj.1 (by omega))) (Ev.now _)
 exact loop (kidW ws i).length 0 (by omega) (fun m hm => absurd hm (Nat.not_lt_zero m))
def endsF (ws : List Txt) : List Int := (List.range (preL ws).length).map fun i => (lastL (resL ws) ((resL ws).getD i []) : Int)
theorem endsF_length (ws : List Txt) : (endsF ws).length = (preL ws).length := by simp [endsF]
theorem endsF_get {ws : List Txt} {i : Nat} (hi : i < (preL ws).length) : (endsF ws).getD i 0 = (lastL (resL ws) ((resL ws).getD i []) : Int) := by
 unfold endsF
 rw [getD_lt 0 (by simpa using hi)]
 simp
def endsP (ws : List Txt) (n : Nat) : List Int := List.replicate n 0 ++ (endsF ws).drop n
theorem endsP_length {ws : List Txt} {n : Nat} (hn : n ≤ (preL ws).length) : (endsP ws n).length = (preL ws).length := by
 unfold endsP
 rw [List.length_append, List.length_replicate, List.length_drop, endsF_length]
 omega
theorem endsP_get {ws : List Txt} {n j : Nat} (hn : n ≤ j) (hj : j < (preL ws).length) : (endsP ws n).getD j 0 = (lastL (resL ws) ((resL ws).getD j []) : Int) := by
 rw [← endsF_get hj]
 unfold endsP
 rw [List.getD_eq_getElem?_getD, List.getD_eq_getElem?_getD, List.getElem?_append_right (by simpa using hn), List.length_replicate, List.getElem?_drop, show n + (j - n) = j from by omega]
theorem endsP_set {ws : List Txt} {n : Nat} (hn : n < (preL ws).length) (a b : Int) (hb : b = (lastL (resL ws) ((resL ws).getD n []) : Int)) : ((endsP ws (n + 1)).set n a).set n b = endsP ws n := by
 rw [List.set_set]
 have hl := endsF_length ws
 unfold endsP
 rw [List.replicate_succ', List.append_assoc, List.set_append_right _ _ (by simp), List.length_replicate, Nat.sub_self, List.singleton_append, List.set_cons_zero, List.drop_eq_getElem_cons (show n < (endsF ws).length by omega)]
 congr 2
 rw [hb, ← endsF_get hn, getD_lt 0 (by omega)]
theorem l7Ends_ev {ws : List Txt} (h : OkW ws) : Ev (fun k => sF67.f k (trN (preL ws) ws)) (endsF ws) := by
 have hP := h.pre
 have hRl := resL_length ws
 have one : ∀ n, n < (preL ws).length → ∀ r, Ev (fun k => sF67.l0 k (kidsW ws) (endsP ws n) (wrap64 ((n : Int) - 1)) (trN (preL ws) ws)) r →
   ∀ d m, m = n + d → m < (preL ws).length → lastL (resL ws) ((resL ws).getD n []) ≤ m → Ev (fun k => sF67.l1 k (kidsW ws) ((endsP ws (n + 1)).set n (n : Int)) (n : Int) (m : Int) (trN (preL ws) ws)) r := by
  intro n hn r hr d
  have hge := lastL_ge (R := resL ws) (i := n) (by omega)
  have hlen : ((endsP ws (n + 1)).set n (n : Int)).length = (preL ws).length := by rw [List.length_set, endsP_length (by omega)]
  have hget : ∀ j, n < j → j < (preL ws).length → ((endsP ws (n + 1)).set n (n : Int)).getD j 0 = (lastL (resL ws) ((resL ws).getD j []) : Int) := fun j h1 h2 => by
   rw [List.getD_eq_getElem?_getD, List.getElem?_set_ne (by omega), ← List.getD_eq_getElem?_getD, endsP_get (by omega) h2]
  induction d with
  | zero =>
   intro m hm hml hl
   refine Ev.step (fun k => sF67.l1.eq_2 ..) (Ev.ifF (by omega) ?_)
   have : (endsP ws (n + 1)).set n (n : Int) = endsP ws n := by
    have := endsP_set hn (n : Int) (n : Int) (by omega)
    rwa [List.set_set] at this
   rw [this]
   exact hr
  | succ d ih =>
   intro m hm hml hl
   refine Ev.step (fun k => sF67.l1.eq_2 ..) (Ev.ifT (by omega) (Ev.ifT (by omega) (Ev.ifT (by rw [hlen]; omega) ?_)))
   rw [rd_nat, hget m (by omega) hml]
   have next : lastL (resL ws) ((resL ws).getD n []) ≠ m → Ev (fun k => sF67.l1 k (kidsW ws) ((endsP ws (n + 1)).set n (n : Int)) (n : Int) (wrap64 ((m : Int) - 1)) (trN (preL ws) ws)) r := fun hne => by
    have e : wrap64 ((m : Int) - 1) = ((m - 1 : Nat) : Int) := by rw [wrap64_id (by omega) (by omega)]; omega
    rw [e]
    exact ih (m - 1) (by omega) (by omega) (by omega)
   by_cases h1 : lastL (resL ws) ((resL ws).getD m []) = m
   ·
    refine Ev.ifT (by omega) ?_
    have ha := l7Alike_ev h (show n < m by omega) hml _ hlen hget
    by_cases h2 : (resL ws).getD n [] = (resL ws).getD m []
    ·
     rw [decide_eq_true h2] at ha
     refine Ev.bind ha (Ev.ifT rfl (Ev.ifT (by omega) (Ev.ifT (by rw [hlen]; omega) ?_)))
     rw [Int.toNat_natCast, endsP_set hn _ _ (by rw [h2, h1])]
     exact hr
    rw [decide_eq_false h2] at ha
    refine Ev.bind ha (Ev.ifF Bool.false_ne_true (next fun e => h2 ?_))
    have := (lastL_spec (getR_mem (R := resL ws) (i := n) (by omega))).2.1
    rw [e] at this
    exact this.symm
   refine Ev.ifF (by omega) (next fun e => h1 ?_)
   have := (lastL_spec (getR_mem (R := resL ws) (i := n) (by omega))).2.1
   rw [e] at this
   rw [this, e]
 have loop : ∀ n, n ≤ (preL ws).length → Ev (fun k => sF67.l0 k (kidsW ws) (endsP ws n) (wrap64 ((n : Int) - 1)) (trN (preL ws) ws)) (endsF ws) := by
  intro n
  induction n with
  | zero =>
   intro _
   refine Ev.step (fun k => sF67.l0.eq_2 ..) (Ev.ifF (by rw [wrap64_id (by omega) (by omega)]; omega) ?_)
   unfold endsP
   rw [List.replicate_zero, List.nil_append, List.drop_zero]
   exact Ev.now _
  | succ n ih =>
   intro hn
   have e : wrap64 (((n + 1 : Nat) : Int) - 1) = (n : Int) := by rw [wrap64_id (by omega) (by omega)]; omega
   have e2 : wrap64 ((((endsP ws (n + 1)).set n (n : Int)).length : Int) - 1) = (((preL ws).length - 1 : Nat) : Int) := by
    rw [List.length_set, endsP_length hn, wrap64_id (by omega) (by omega)]; omega
   rw [e]
   refine Ev.step (fun k => sF67.l0.eq_2 ..) (Ev.ifT (by omega) (Ev.ifT (by omega) (Ev.ifT (by rw [endsP_length hn]; omega) ?_)))
   have e3 : wrap64 (((endsP ws (n + 1)).length : Int) - 1) = (((preL ws).length - 1 : Nat) : Int) := by
    rw [endsP_length hn, wrap64_id (by omega) (by omega)]; omega
   rw [Int.toNat_natCast, e3]
   have hlt := (lastL_spec (getR_mem (R := resL ws) (i := n) (by omega))).1
   exact one n (by omega) _ (ih (by omega)) ((preL ws).length - 1 - n) _ (by omega) (by omega) (by omega)
 unfold sF67.f
 refine Ev.bind (l7Kids_ev h) (Ev.ifT (by omega) (Ev.ifT (by rw [trN_length]; omega) (Ev.some_bind ?_)))
 have hr : (List.replicate (((trN (preL ws) ws).length : Int)).toNat 0 : List Int) = endsP ws (preL ws).length := by
  rw [Int.toNat_natCast, trN_length]
  unfold endsP
  rw [List.drop_of_length_le (by rw [endsF_length]; omega), List.append_nil]
 rw [hr, endsP_length (Nat.le_refl _)]
 exact loop _ (Nat.le_refl _)
end Mach
end Go.Proofs.YtnnkedeohfbkeaaGreatDoor.L
namespace Go.Proofs.YtnnkedeohfbkeaaGreatDoor.L
open Go.RowKit Go.Proofs.YtnnkedeohfbkeaaGreatDoor.P Go.Proofs.YtnnkedeohfbkeaaGreatDoor.M Go.Proofs.YtnnkedeohfbkeaaGreatDoorW.PrintWords Go.Proofs.YtnnkedeohfbkeaaGreatDoorW.PrintLast Go.Proofs.YtnnkedeohfbkeaaGreatDoorW.PrintMore
namespace Mach
def placeP (ws : List Txt) (n : Nat) : List Int := (List.range (preL ws).length).map fun g => if (resL ws).getD g [] ∈ fL ws n ∧ lastL (resL ws) ((resL ws).getD g []) = g then ((fL ws n).idxOf ((resL ws).getD g []) : Int) else -1
theorem placeP_length (ws : List Txt) (n : Nat) : (placeP ws n).length = (preL ws).length := by simp [placeP]
theorem placeP_get {ws : List Txt} {n g : Nat} (hg : g < (preL ws).length) : (placeP ws n).getD g 0 = if (resL ws).getD g [] ∈ fL ws n ∧ lastL (resL ws) ((resL ws).getD g []) = g then ((fL ws n).idxOf ((resL ws).getD g []) : Int) else -1 := by
 unfold placeP
 rw [getD_lt 0 (by simpa using hg)]
 simp
theorem placeP_last {ws : List Txt} {n i : Nat} (hi : i < (preL ws).length) : rd (placeP ws n) (lastL (resL ws) ((resL ws).getD i []) : Int) = if (resL ws).getD i [] ∈ fL ws n then ((fL ws n).idxOf ((resL ws).getD i []) : Int) else -1 := by
 obtain ⟨h1, h2⟩ := lastR hi
 rw [rd_nat, placeP_get h1, h2]
 by_cases h : (resL ws).getD i [] ∈ fL ws n
 ·
  rw [if_pos ⟨h, rfl⟩, if_pos h]
 rw [if_neg (fun k => h k.1), if_neg h]
theorem placeP_set {ws : List Txt} {i : Nat} (hi : i < (preL ws).length) (hn : (resL ws).getD i [] ∉ fL ws i) : (placeP ws i).set (lastL (resL ws) ((resL ws).getD i [])) ((fL ws i).length : Int) = placeP ws (i + 1) := by
 obtain ⟨h1, h2⟩ := lastR hi
 have hF : fL ws (i + 1) = fL ws i ++ [(resL ws).getD i []] := by rw [fL_succ hi, if_neg hn]
 apply List.ext_getElem
 ·
  rw [List.length_set, placeP_length, placeP_length]
 intro g g1 g2
 have hg : g < (preL ws).length := by rw [placeP_length] at g2; exact g2
 rw [List.getElem_set, ← getD_lt 0 g2, placeP_get hg]
 by_cases e : lastL (resL ws) ((resL ws).getD i []) = g
 ·
  subst e
  rw [if_pos rfl, h2, if_pos ⟨fL_mem hi, rfl⟩, hF, idx_new hn]
 rw [if_neg e, ← getD_lt 0 (by rw [placeP_length]; exact hg), placeP_get hg]
 by_cases hl : lastL (resL ws) ((resL ws).getD g []) = g
 ·
  have hne : (resL ws).getD g [] ≠ (resL ws).getD i [] := fun k => e (by rw [← k, hl])
  by_cases hm : (resL ws).getD g [] ∈ fL ws i
  ·
   rw [if_pos ⟨hm, hl⟩, if_pos ⟨by rw [hF]; exact List.mem_append_left _ hm, hl⟩, hF, idx_pre (List.prefix_append _ _) hm]
  rw [if_neg (fun k => hm k.1), if_neg (fun k => by
   rw [hF, List.mem_append, List.mem_singleton] at k
   rcases k.1 with k | k
   ·
    exact hm k
   exact hne k)]
 rw [if_neg (fun k => hl k.2), if_neg (fun k => hl k.2)]
theorem l7Machine_ev {ws : List Txt} (h : OkW ws) : Ev (fun k => sF69.f k (trN (preL ws) ws)) (machW ws) := by
 have hP := h.pre
 have eget : ∀ {i}, i < (preL ws).length → rd (endsF ws) (i : Int) = (lastL (resL ws) ((resL ws).getD i []) : Int) := fun {i} hi => by rw [rd_nat, endsF_get hi]
 have edges : ∀ i, i < (preL ws).length → ∀ acc r, Ev (fun k => sF69.l2 k (kidsW ws) (endsF ws) (placeP ws (preL ws).length) (wrap64 ((i : Int) + 1)) (trN (preL ws) ws) (acc ++ [stW ws ((resL ws).getD i [])])) r → acc.length ≤ 1000 →
   ∀ d j, j + d = (kidW ws i).length → Ev (fun k => sF69.l3 k (kidsW ws) (endsF ws) (placeP ws (preL ws).length) (i : Int) (j : Int) (trN (preL ws) ws) acc (decide ([] ∈ (resL ws).getD i [])) (((letsL ((resL ws).getD i [])).take j).map (edgeW ws ((resL ws).getD i [])))) r := by
  intro i hi acc r hr hacc d
  have hkl : (kidW ws i).length = (letsL ((resL ws).getD i [])).length := by rw [kidW_length, resL_get hi]
  have l26 := letsL_length ((resL ws).getD i [])
  induction d with
  | zero =>
   intro j hj
   refine Ev.step (fun k => sF69.l3.eq_2 ..) (Ev.ifT (by omega) (Ev.ifT (by rw [kidsW_length]; omega) ?_))
   rw [kidsW_rd hi, List.take_of_length_le (by omega), ← stW_eq]
   exact Ev.ifF (by omega) (Ev.ifT (by omega) hr)
  | succ d ih =>
   intro j hj
   have hjk : j < (kidW ws i).length := by omega
   obtain ⟨q, q1, q2, q3, q4, q5, q6⟩ := kid_at h hi hjk
   have hq := lastR q2
   refine Ev.step (fun k => sF69.l3.eq_2 ..) (Ev.ifT (by omega) (Ev.ifT (by rw [kidsW_length]; omega) ?_))
   rw [kidsW_rd hi, rd_nat (kidW ws i), q1, eget q2, placeP_last q2, fL_all, if_pos (res_mem q2), q5, q6]
   refine Ev.ifT (by omega) (Ev.ifT (by omega) (Ev.ifT (by omega) (Ev.ifT (by rw [trN_length]; omega) (Ev.ifT (by rw [endsF_length]; omega) (Ev.ifT (by omega) (Ev.ifT (by rw [placeP_length, ← q6]; omega) (Ev.ifT (by rw [List.length_map, List.length_take]; omega) ?_)))))))
   have e : ((letsL ((resL ws).getD i [])).take j).map (edgeW ws ((resL ws).getD i [])) ++ [(⟨(((letsL ((resL ws).getD i [])).getD j 0).toNat : Int) - 97, ((dL ws).idxOf (succL ((resL ws).getD i []) ((letsL ((resL ws).getD i [])).getD j 0)) : Int)⟩ : S88)] = ((letsL ((resL ws).getD i [])).take (j + 1)).map (edgeW ws ((resL ws).getD i [])) := by
    rw [take_succ_getD 0 (by omega), List.map_append]
    rfl
   rw [e, wrap64_succ j (by omega)]
   exact ih (j + 1) (by omega)
 have states : ∀ d i, i + d = (preL ws).length → Ev (fun k => sF69.l2 k (kidsW ws) (endsF ws) (placeP ws (preL ws).length) (i : Int) (trN (preL ws) ws) ((fL ws i).map (stW ws))) (machW ws) := by
  intro d
  induction d with
  | zero =>
   intro i hi
   rw [show i = (preL ws).length from by omega, fL_all]
   exact Ev.step (fun k => sF69.l2.eq_2 ..) (Ev.ifF (by rw [endsF_length]; omega) (Ev.now _))
  | succ d ih =>
   intro i hd
   have hi : i < (preL ws).length := by omega
   have hl := lastR hi
   have hfl := fL_length ws i (by omega)
   refine Ev.step (fun k => sF69.l2.eq_2 ..) (Ev.ifT (by rw [endsF_length]; omega) (Ev.ifT (by omega) ?_))
   rw [eget hi]
   refine Ev.ifT (by omega) (Ev.ifT (by rw [placeP_length]; omega) ?_)
   rw [placeP_last hi, fL_all, if_pos (res_mem hi), List.length_map]
   have hih := ih (i + 1) (by omega)
   by_cases hn : (resL ws).getD i [] ∈ fL ws i
   ·
    refine Ev.ifF (by have := idx_old (ws := ws) (n := i) (by omega) hn; omega) ?_
    rw [wrap64_succ i (by omega)]
    rw [fL_succ hi, if_pos hn] at hih
    exact hih
   refine Ev.ifT (by rw [idx_first hi hn]) (Ev.ifT (by rw [trN_length]; omega) ?_)
   rw [end_eq hi]
   rw [fL_succ hi, if_neg hn, List.map_append] at hih
   have := edges i hi ((fL ws i).map (stW ws)) (machW ws) (by rw [wrap64_succ i (by omega)]; exact hih) (by rw [List.length_map]; omega) (kidW ws i).length 0 (by omega)
   exact this
 have nums : ∀ d i, i + d = (preL ws).length → Ev (fun k => sF69.l1 k (kidsW ws) (endsF ws) (placeP ws i) ((fL ws i).length : Int) (i : Int) (trN (preL ws) ws)) (machW ws) := by
  intro d
  induction d with
  | zero =>
   intro i hi
   rw [show i = (preL ws).length from by omega]
   exact Ev.step (fun k => sF69.l1.eq_2 ..) (Ev.ifF (by rw [endsF_length]; omega) (states (preL ws).length 0 (by omega)))
  | succ d ih =>
   intro i hd
   have hi : i < (preL ws).length := by omega
   have hl := lastR hi
   have hfl := fL_length ws i (by omega)
   refine Ev.step (fun k => sF69.l1.eq_2 ..) (Ev.ifT (by rw [endsF_length]; omega) (Ev.ifT (by omega) ?_))
   rw [eget hi]
   refine Ev.ifT (by omega) (Ev.ifT (by rw [placeP_length]; omega) ?_)
   rw [placeP_last hi]
   have hih := ih (i + 1) (by omega)
   by_cases hn : (resL ws).getD i [] ∈ fL ws i
   ·
    rw [if_pos hn, wrap64_succ i (by omega)]
    refine Ev.ifF (by omega) ?_
    have e : placeP ws (i + 1) = placeP ws i := by
     unfold placeP
     rw [fL_succ hi, if_pos hn]
    rw [e, fL_succ hi, if_pos hn] at hih
    exact hih
   rw [if_neg hn, wrap64_succ i (by omega)]
   refine Ev.ifT (by omega) ?_
   rw [Int.toNat_natCast, placeP_set hi hn, wrap64_succ _ (by omega)]
   rw [show (fL ws (i + 1)).length = (fL ws i).length + 1 from by rw [fL_succ hi, if_neg hn, List.length_append]; rfl] at hih
   exact hih
 have fills : ∀ d i, i + d = (preL ws).length → Ev (fun k => sF69.l0 k (kidsW ws) (endsF ws) (List.replicate i (-1) ++ List.replicate d 0) 0 (i : Int) (trN (preL ws) ws)) (machW ws) := by
  intro d
  induction d with
  | zero =>
   intro i hi
   have e : List.replicate i (-1 : Int) ++ List.replicate 0 0 = placeP ws 0 := by
    rw [List.replicate_zero, List.append_nil]
    unfold placeP
    rw [fL_zero]
    apply List.ext_getElem
    ·
     simp; omega
    intro g g1 g2; simp
   rw [e]
   exact Ev.step (fun k => sF69.l0.eq_2 ..) (Ev.ifF (by rw [endsF_length]; omega) (nums (preL ws).length 0 (by omega)))
  | succ d ih =>
   intro i hd
   refine Ev.step (fun k => sF69.l0.eq_2 ..) (Ev.ifT (by rw [endsF_length]; omega) (Ev.ifT (by omega) (Ev.ifT (by simp; omega) ?_)))
   have e : (List.replicate i (-1 : Int) ++ List.replicate (d + 1) 0).set i (-1) = List.replicate (i + 1) (-1) ++ List.replicate d 0 := by
    rw [List.set_append_right _ _ (by simp), List.length_replicate, Nat.sub_self, List.replicate_succ, List.set_cons_zero, List.replicate_succ', List.append_assoc]
    rfl
   rw [Int.toNat_natCast, e, wrap64_succ i (by omega)]
   exact ih (i + 1) (by omega)
 unfold sF69.f
 refine Ev.bind (l7Kids_ev h) (Ev.bind (l7Ends_ev h) (Ev.ifT (by omega) (Ev.ifT (by rw [endsF_length]; omega) ?_)))
 rw [Int.toNat_natCast, endsF_length]
 have := fills (preL ws).length 0 (by omega)
 rw [List.replicate_zero, List.nil_append] at this
 exact this
end Mach
end Go.Proofs.YtnnkedeohfbkeaaGreatDoor.L
namespace Go.Proofs.YtnnkedeohfbkeaaGreatDoor.L
open Go.RowKit Go.Proofs.YtnnkedeohfbkeaaGreatDoor.P Go.Proofs.YtnnkedeohfbkeaaGreatDoor.M Go.Proofs.YtnnkedeohfbkeaaGreatDoorW.PrintWords Go.Proofs.YtnnkedeohfbkeaaGreatDoorW.PrintLast Go.Proofs.YtnnkedeohfbkeaaGreatDoorW.PrintMore
namespace Mach
def IsM (m : List Stt) : Prop := ∃ ws, OkW ws ∧ m = machW ws
theorem machW_edges {ws : List Txt} : ∀ x ∈ machW ws, x.f1.length ≤ 26 := by
 intro x hx
 obtain ⟨b, _, rfl⟩ := List.mem_map.1 hx
 rw [stW_eq, List.length_map]
 exact letsL_length b
theorem dL_pos {ws : List Txt} (h : OkW ws) : 0 < (dL ws).length := List.length_pos_of_mem (self_dL h)
theorem okAll {ws : List Txt} (h : OkW ws) : ws.all wordL = true := List.all_eq_true.2 h.word
theorem ofWords_evM (W : List Txt) (hW : W.all wordL = true) (hl : W.length ≤ 1000000) : Ev (fun k => iF24.f k (W.map B)) (if (setL W).length ≤ 40 then (trN (preL (setL W)) (setL W), true) else ([], false)) := by
 unfold iF24.f
 rw [set_eq W (by omega)]
 refine Ev.some_bind ?_
 rw [List.length_map]
 by_cases h : (setL W).length ≤ 40
 ·
  rw [if_pos h]
  exact Ev.ifF (by omega) (Ev.bind (trieOf_ev (okW_setL hW h)) (Ev.now _))
 rw [if_neg h]
 exact Ev.ifT (by omega) (Ev.now _)
theorem cnt_all {ws : List Txt} (h : OkW ws) : cntL 12 ws ≤ 481 := by
 have := cntL_ok h []
 rw [behL_nil ws h.asc] at this
 exact this
theorem res_all {ws : List Txt} (h : OkW ws) : Res 12 ws := by
 have := Res.beh12 h []
 rw [behL_nil ws h.asc] at this
 exact this
theorem map_nilT (ws : List Txt) : ws.map ([] ++ ·) = ws := by simp
theorem walkAll_ev {ws : List Txt} (h : OkW ws) : Ev (fun k => sF73.f k (machW ws) 0 (⟨#[]⟩ : ByteArray) 0) (ws.map B, (cntL 12 ws : Int)) := by
 have := walkW h 12 ws [] 0 (res_all h) (self_dL h) (by simp) (by have := cnt_all h; omega)
 rw [idx_zero h, map_nilT, Nat.zero_add] at this
 exact this
theorem valid_end (m : List Stt) (ws : List Txt) (g : Int) (hw : Ev (fun k => sF73.f k m 0 (⟨#[]⟩ : ByteArray) 0) (ws.map B, g)) (hW : ws.all wordL = true) (hl : ws.length ≤ 1000) :
  Ev (fun k => sF72.l0 k (m.length : Int) m) (if (setL ws).length ≤ 40 then decide (machW (setL ws) = m) else false) := by
 refine Ev.step (fun k => sF72.l0.eq_2 ..) (Ev.ifF (by omega) (Ev.bind hw (Ev.bind (l2Set_ev (b := 12) ws (by omega) (fun w hw2 => (wordL_iff.1 (List.all_eq_true.1 hW w hw2)).2)) ?_)))
 rw [if_pos hW]
 by_cases h : (setL ws).length ≤ 40
 ·
  have ho := okW_setL hW h
  rw [if_pos h]
  refine Ev.ifT (decide_eq_true h) (Ev.bind (l2Of_ev ho) (Ev.bind (l7Machine_ev ho) (Ev.bind (l7Same_ev _ m ?_ ?_) (Ev.now _))))
  ·
   rw [machW_length]
   have := dL_length ho
   omega
  intro x hx
  have := machW_edges x hx
  omega
 rw [if_neg h]
 exact Ev.ifF (by simpa using h) (Ev.now _)
theorem valid_in (m : List Stt) (hl : m.length ≤ 481) (i : Nat) (hi : i < m.length) (hx : m[i].f1.length ≤ 1048576) : ∀ (d j : Nat), j + d = m[i].f1.length →
  (∀ r, Ev (fun k => sF72.l0 k ((i + 1 : Nat) : Int) m) r → (∀ e ∈ m[i].f1.drop j, EdgeOk m.length e) → Ev (fun k => sF72.l1 k (i : Int) (j : Int) m) r) ∧
  (¬ (∀ e ∈ m[i].f1.drop j, EdgeOk m.length e) → Ev (fun k => sF72.l1 k (i : Int) (j : Int) m) false) := by
 intro d
 induction d with
 | zero =>
  intro j hj
  refine ⟨fun r hr _ => ?_, fun h => absurd (fun e he => ?_) h⟩
  ·
   refine Ev.step (fun k => sF72.l1.eq_2 ..) (Ev.ifT (by omega) (Ev.ifT (by omega) (Ev.ifF ?_ ?_)))
   ·
    rw [rd_st hi]; omega
   rw [wrap64_succ i (by omega)]; exact hr
  rw [List.drop_eq_nil_of_le (by omega)] at he; cases he
 | succ d ih =>
  intro j hj
  have hjl : j < m[i].f1.length := by omega
  obtain ⟨ih1, ih2⟩ := ih (j + 1) (by omega)
  have e1 : wrap64 ((m.length : Int) - 1) = (m.length : Int) - 1 := wrap64_id (by omega) (by omega)
  have hd := List.drop_eq_getElem_cons hjl
  have step : ∀ {r : Bool}, Ev (fun k => if decide (0 ≤ m[i].f1[j].f0 ∧ m[i].f1[j].f0 ≤ 25) = true then (if decide (0 ≤ m[i].f1[j].f1 ∧ m[i].f1[j].f1 ≤ (m.length : Int) - 1) = true then sF72.l1 k (i : Int) ((j + 1 : Nat) : Int) m else some false) else some false) r → Ev (fun k => sF72.l1 k (i : Int) (j : Int) m) r := by
   intro r hr
   refine Ev.step (fun k => sF72.l1.eq_2 ..) (Ev.ifT (by omega) (Ev.ifT (by omega) (Ev.ifT (by rw [rd_st hi]; omega) (Ev.ifT (by omega) ?_))))
   rw [rd_st hi, rd_edge hjl, e1, l1In_eq, l1In_eq, wrap64_succ j (by omega)]
   exact hr
  refine ⟨fun r hr he => step ?_, fun he => step ?_⟩
  ·
   rw [hd] at he
   obtain ⟨q0, q1, q2, q3⟩ := he _ List.mem_cons_self
   exact Ev.ifT (decide_eq_true ⟨q0, q1⟩) (Ev.ifT (decide_eq_true ⟨q2, by omega⟩) (ih1 r hr fun e h => he e (List.mem_cons_of_mem _ h)))
  by_cases h0 : 0 ≤ m[i].f1[j].f0 ∧ m[i].f1[j].f0 ≤ 25
  ·
   by_cases h1 : 0 ≤ m[i].f1[j].f1 ∧ m[i].f1[j].f1 ≤ (m.length : Int) - 1
   ·
    refine Ev.ifT (decide_eq_true h0) (Ev.ifT (decide_eq_true h1) (ih2 fun k => he ?_))
    rw [hd]
    intro e hm
    rcases List.mem_cons.1 hm with rfl | hm
    ·
     exact ⟨h0.1, h0.2, h1.1, by omega⟩
    exact k e hm
   exact Ev.ifT (decide_eq_true h0) (Ev.ifF (by simpa using h1) (Ev.now _))
  exact Ev.ifF (by simpa using h0) (Ev.now _)
theorem valid_out (m : List Stt) (hl : m.length ≤ 481) (hx : ∀ x ∈ m, x.f1.length ≤ 1048576) : ∀ (d i : Nat), i + d = m.length →
  (∀ r, Ev (fun k => sF72.l0 k (m.length : Int) m) r → (∀ x ∈ m.drop i, ∀ e ∈ x.f1, EdgeOk m.length e) → Ev (fun k => sF72.l0 k (i : Int) m) r) ∧
  (¬ (∀ x ∈ m.drop i, ∀ e ∈ x.f1, EdgeOk m.length e) → Ev (fun k => sF72.l0 k (i : Int) m) false) := by
 intro d
 induction d with
 | zero =>
  intro i hi
  refine ⟨fun r hr _ => ?_, fun h => absurd (fun x hx => ?_) h⟩
  ·
   rw [show i = m.length from by omega]; exact hr
  rw [List.drop_eq_nil_of_le (by omega)] at hx; cases hx
 | succ d ih =>
  intro i hi
  have hil : i < m.length := by omega
  obtain ⟨ih1, ih2⟩ := ih (i + 1) (by omega)
  obtain ⟨in1, in2⟩ := valid_in m hl i hil (hx _ (List.getElem_mem hil)) m[i].f1.length 0 (by omega)
  rw [List.drop_zero] at in1 in2
  have hd := List.drop_eq_getElem_cons hil
  refine ⟨fun r hr he => ?_, fun he => ?_⟩
  ·
   rw [hd] at he
   exact Ev.step (fun k => sF72.l0.eq_2 ..) (Ev.ifT (by omega) (in1 r (ih1 r hr fun x h => he x (List.mem_cons_of_mem _ h)) (he _ List.mem_cons_self)))
  refine Ev.step (fun k => sF72.l0.eq_2 ..) (Ev.ifT (by omega) ?_)
  by_cases h1 : ∀ e ∈ m[i].f1, EdgeOk m.length e
  ·
   refine in1 false (ih2 fun k => he ?_) h1
   rw [hd]
   intro x hm
   rcases List.mem_cons.1 hm with rfl | hm
   ·
    exact h1
   exact k x hm
  exact in2 h1
theorem valid_yes {ws : List Txt} (h : OkW ws) : Ev (fun k => sF72.f k (machW ws)) true := by
 have hp := dL_pos h
 have hd := dL_length h
 unfold sF72.f
 rw [l1In_eq, machW_length]
 refine Ev.some_bind (Ev.ifT (decide_eq_true (by omega)) ?_)
 have h1 := valid_end (machW ws) ws _ (walkAll_ev h) (okAll h) (by have := h.len; omega)
 rw [setL_of_asc h.asc, if_pos h.len, decide_eq_true rfl] at h1
 have h2 := (valid_out (machW ws) (by rw [machW_length]; omega) (fun x hx => by have := machW_edges x hx; omega) (machW ws).length 0 (by omega)).1 true h1
 exact h2 fun x hx e he => (machW_ok h x (by simpa using hx)).2 e he
theorem valid_no {m : List Stt} (hn : ¬ IsM m) (hx : ∀ x ∈ m, x.f1.length ≤ 1048576) : Ev (fun k => sF72.f k m) false := by
 unfold sF72.f
 rw [l1In_eq]
 by_cases hl : (1 : Int) ≤ (m.length : Int) ∧ (m.length : Int) ≤ 481
 rotate_left
 ·
  exact Ev.some_bind (Ev.ifF (by simpa using hl) (Ev.now _))
 refine Ev.some_bind (Ev.ifT (decide_eq_true hl) ?_)
 obtain ⟨o1, o2⟩ := valid_out m (by omega) hx m.length 0 (by omega)
 rw [List.drop_zero] at o1 o2
 by_cases he : ∀ x ∈ m, ∀ e ∈ x.f1, EdgeOk m.length e
 ·
  obtain ⟨ws, g, hw, hwo⟩ := walk_ex m (fun x h => ⟨hx x h, he x h⟩) 12 [] 0 0 rfl (fun c hc => by cases hc) (by omega) (by omega) (by omega)
  have hW : ws.all wordL = true := List.all_eq_true.2 hwo.word
  have h1 := valid_end m ws g hw hW (by have := hwo.len; have := hwo.top; omega)
  refine o1 false ?_ he
  by_cases h40 : (setL ws).length ≤ 40
  ·
   rw [if_pos h40, decide_eq_false fun k => hn ⟨setL ws, okW_setL hW h40, k.symm⟩] at h1
   exact h1
  rw [if_neg h40] at h1
  exact h1
 exact o2 he
theorem open_yes {ws : List Txt} (h : OkW ws) : Ev (fun k => iF7.f k (machW ws)) (trN (preL ws) ws, true) := by
 have hv := visitW h 12 ws [] [] 481 (res_all h) (self_dL h) (by simp) rfl (by have := cnt_all h; omega) (by omega) (by simp)
 rw [idx_zero h, map_nilT, List.nil_append] at hv
 have ho := ofWords_evM ws (okAll h) (by have := h.len; omega)
 rw [setL_of_asc h.asc, if_pos h.len] at ho
 have he := equalF_ev (machW ws) (machW ws) (by rw [machW_length]; have := dL_length h; omega) (fun x hx => by have := machW_edges x hx; omega)
 rw [decide_eq_true rfl] at he
 unfold iF7.f
 exact Ev.bind hv (Ev.ifT rfl (Ev.bind ho (Ev.ifT rfl (Ev.bind (machine_ev h) (Ev.bind he (Ev.ifT rfl (Ev.now _)))))))
theorem open_no {m : List Stt} (hn : ¬ IsM m) : Ev (fun k => iF7.f k m) (([] : List S96), false) := by
 obtain ⟨ok, out, l2, hv, hvo⟩ := visit_ex m 13 [] 0 [] 481 rfl (by omega) (by omega) (by simp)
 unfold iF7.f
 refine Ev.bind hv ?_
 cases ok with
 | false => exact Ev.ifF Bool.false_ne_true (Ev.now _)
 | true =>
  refine Ev.ifT rfl ?_
  have hW : out.all wordL = true := List.all_eq_true.2 (hvo.word fun w hw => by cases hw)
  have ho := ofWords_evM out hW (by have h8 := hvo.low; have h9 := hvo.len; simp at h9; omega)
  refine Ev.bind ho ?_
  by_cases h40 : (setL out).length ≤ 40
  ·
   rw [if_pos h40]
   have hok := okW_setL hW h40
   have he := equalF_ev (machW (setL out)) m (by rw [machW_length]; have := dL_length hok; omega) (fun x hx => by have := machW_edges x hx; omega)
   rw [decide_eq_false fun k => hn ⟨setL out, hok, k.symm⟩] at he
   exact Ev.ifT rfl (Ev.bind (machine_ev hok) (Ev.bind he (Ev.ifF Bool.false_ne_true (Ev.now _))))
  rw [if_neg h40]
  exact Ev.ifF Bool.false_ne_true (Ev.now _)
theorem mach_both (m : List Stt) (hx : ∀ x ∈ m, x.f1.length ≤ 1048576) :
  (∃ ws, OkW ws ∧ m = machW ws ∧ Ev (fun k => sF72.f k m) true ∧ Ev (fun k => iF7.f k m) (trN (preL ws) ws, true)) ∨
  (Ev (fun k => sF72.f k m) false ∧ Ev (fun k => iF7.f k m) (([] : List S96), false)) := by
 by_cases h : IsM m
 ·
  obtain ⟨ws, hw, rfl⟩ := h
  exact .inl ⟨ws, hw, rfl, valid_yes hw, open_yes hw⟩
 exact .inr ⟨valid_no h hx, open_no h⟩
end Mach
end Go.Proofs.YtnnkedeohfbkeaaGreatDoor.L
namespace Go.Proofs.YtnnkedeohfbkeaaGreatDoor.L
open Go.RowKit Go.Proofs.YtnnkedeohfbkeaaGreatDoor.P Go.Proofs.YtnnkedeohfbkeaaGreatDoor.M Go.Proofs.YtnnkedeohfbkeaaGreatDoorW.PrintWords Go.Proofs.YtnnkedeohfbkeaaGreatDoorW.PrintLast Go.Proofs.YtnnkedeohfbkeaaGreatDoorW.PrintMore
namespace Mach
def runL (b : List Txt) : Txt → Option (List Txt)
 | [] => some b
 | c :: r => if c ∈ letsL b then runL (succL b c) r else none
theorem runL_some : ∀ (r : Txt) {n : Nat} {b b' : List Txt}, Res n b → runL b r = some b' → (∀ x, x ∈ b' ↔ r ++ x ∈ b) ∧ (r ≠ [] → b' ≠ [])
 | [], _, b, b', _, h => by
  obtain rfl := Option.some.inj h
  exact ⟨fun x => Iff.rfl, fun k => absurd rfl k⟩
 | c :: r, 0, b, b', hr, h => by
  rw [runL, hr.zero_lets] at h
  simp at h
 | c :: r, n + 1, b, b', hr, h => by
  rw [runL] at h
  by_cases hc : c ∈ letsL b
  ·
   rw [if_pos hc] at h
   obtain ⟨h1, h2⟩ := runL_some r (hr.succ c) h
   refine ⟨fun x => (h1 x).trans mem_succL, fun _ => ?_⟩
   cases r with
   | nil => obtain rfl := Option.some.inj h; exact (letsL_ne hr).1 hc
   | cons d r => exact h2 (by simp)
  rw [if_neg hc] at h; cases h
theorem runL_none : ∀ (r : Txt) {n : Nat} {b : List Txt}, Res n b → runL b r = none → ∀ x, r ++ x ∉ b
 | [], _, b, _, h => by cases h
 | c :: r, 0, b, hr, _ => fun x hx => by
  have := hr.len _ hx
  simp at this
 | c :: r, n + 1, b, hr, h => by
  rw [runL] at h
  by_cases hc : c ∈ letsL b
  ·
   rw [if_pos hc] at h
   exact fun x hx => runL_none r (hr.succ c) h x (mem_succL.2 hx)
  exact fun x hx => hc ((mem_letsL hr).2 ⟨r ++ x, hx⟩)
theorem runL_dL {ws : List Txt} (h : OkW ws) : ∀ (r : Txt) {b b' : List Txt}, b ∈ dL ws → runL b r = some b' → b' ∈ dL ws
 | [], b, b', hb, k => by obtain rfl := Option.some.inj k; exact hb
 | c :: r, b, b', hb, k => by
  rw [runL] at k
  by_cases hc : c ∈ letsL b
  ·
   rw [if_pos hc] at k
   exact runL_dL h r (dL_succ h hb hc) k
  rw [if_neg hc] at k; cases k
def stR (ws : List Txt) : Option (List Txt) → Int
 | some b => ((dL ws).idxOf b : Int)
 | none => -1
theorem state_in {ws : List Txt} (h : OkW ws) (s : Txt) (hs : s.length ≤ 1000000) {b : List Txt} (hb : b ∈ dL ws) (i : Nat) (hi : i < s.length) (r : Int)
  (hr : Ev (fun k => sF71.l0 k (B s) (if s[i] ∈ letsL b then ((dL ws).idxOf (succL b s[i]) : Int) else -1) ((i + 1 : Nat) : Int) (machW ws)) r) : ∀ (L2 L1 : List UInt8), L1 ++ L2 = letsL b →
  Ev (fun k => sF71.l1 k (B s) ((dL ws).idxOf b : Int) (i : Int) (if s[i] ∈ L1 then ((dL ws).idxOf (succL b s[i]) : Int) else -1) (L1.length : Int) (machW ws)) r := by
 have h1 := machW_lt hb
 have hst := machW_rd hb
 intro L2
 induction L2 with
 | nil =>
  intro L1 hL
  rw [List.append_nil] at hL
  refine Ev.step (fun k => sF71.l1.eq_2 ..) (Ev.ifT (by omega) (Ev.ifT h1 (Ev.ifF ?_ ?_)))
  ·
   rw [hst, stW_eq, ← hL]; simp
  rw [wrap64_succ i (by omega), hL]
  exact hr
 | cons d L2 ih =>
  intro L1 hL
  have hd : d ∈ letsL b := by rw [← hL]; simp
  have hdb := letsL_let hd
  have hlt : (L1.length : Int) < ((stW ws b).f1.length : Int) := by rw [stW_eq, List.length_map, ← hL]; simp; omega
  have hix : (rd_T88 (stW ws b).f1 (L1.length : Int)) = edgeW ws b d := by
   have hil : L1.length < (stW ws b).f1.length := by omega
   rw [rd_edge hil]
   simp only [stW_eq, ← hL, List.map_append, List.map_cons]
   rw [List.getElem_append_right (by simp)]
   simp
  have hl1 : L1.length < 27 := by
   have h9 := letsL_length b
   rw [← hL] at h9
   simp at h9
   omega
  have hbt : bt (B s) (i : Int) = (s[i].toNat : Int) := by rw [bt_B s i hi, getD_lt 0 hi]
  have hn := ih (L1 ++ [d]) (by rw [List.append_assoc]; exact hL)
  rw [List.length_append, List.length_singleton] at hn
  refine Ev.step (fun k => sF71.l1.eq_2 ..) (Ev.ifT (by omega) (Ev.ifT h1 (Ev.ifT (by rw [hst]; exact hlt) (Ev.ifT (by omega) (Ev.ifT (by omega) (Ev.ifT (by rw [size_B]; omega) ?_))))))
  have h256 := s[i].toNat_lt
  rw [hst, hix, hbt, wrap64_id (x := (s[i].toNat : Int)) (by omega) (by omega), wrap64_id (x := (s[i].toNat : Int) - 97) (by omega) (by omega), wrap64_succ L1.length (by omega)]
  by_cases e : s[i] = d
  ·
   refine Ev.ifT (by rw [e]; rfl) ?_
   rw [if_pos (by rw [e]; simp)] at hn
   show Ev (fun k => sF71.l1 k (B s) ((dL ws).idxOf b : Int) (i : Int) ((dL ws).idxOf (succL b d) : Int) ((L1.length + 1 : Nat) : Int) (machW ws)) r
   rw [← e]
   exact hn
  refine Ev.ifF ?_ ?_
  ·
   show ¬ ((d.toNat : Int) - 97 = (s[i].toNat : Int) - 97)
   intro k
   exact e (UInt8.toNat_inj.1 (by omega))
  have e2 : (s[i] ∈ L1 ++ [d]) ↔ s[i] ∈ L1 := by simp [e]
  by_cases m : s[i] ∈ L1
  ·
   rw [if_pos m]; rw [if_pos (e2.2 m)] at hn; exact hn
  rw [if_neg m]; rw [if_neg (fun k => m (e2.1 k))] at hn; exact hn
theorem state_out {ws : List Txt} (h : OkW ws) (s : Txt) (hs : s.length ≤ 1000000) : ∀ (d i : Nat) (b : List Txt), i + d = s.length → b ∈ dL ws →
  Ev (fun k => sF71.l0 k (B s) ((dL ws).idxOf b : Int) (i : Int) (machW ws)) (stR ws (runL b (s.drop i))) := by
 have stop : ∀ (i : Nat) (x : Int), Ev (fun k => sF71.j1 k (B s) x (i : Int) false (machW ws)) x := fun i x => Ev.step (fun k => sF71.j1.eq_2 ..) (Ev.ifF Bool.false_ne_true (Ev.now _))
 have dead : ∀ (i : Nat), Ev (fun k => sF71.l0 k (B s) (-1) (i : Int) (machW ws)) (-1) := by
  intro i
  by_cases hi : (i : Int) < ((B s).size : Int)
  ·
   exact Ev.step (fun k => sF71.l0.eq_2 ..) (Ev.ifT hi (stop i (-1)))
  exact Ev.step (fun k => sF71.l0.eq_2 ..) (Ev.ifF hi (stop i (-1)))
 intro d
 induction d with
 | zero =>
  intro i b hi hb
  rw [List.drop_eq_nil_of_le (by omega)]
  exact Ev.step (fun k => sF71.l0.eq_2 ..) (Ev.ifF (by rw [size_B]; omega) (stop i _))
 | succ d ih =>
  intro i b hi hb
  have hil : i < s.length := by omega
  rw [List.drop_eq_getElem_cons hil, runL]
  refine Ev.step (fun k => sF71.l0.eq_2 ..) (Ev.ifT (by rw [size_B]; omega) (Ev.step (fun k => sF71.j1.eq_2 ..) (Ev.ifT (decide_eq_true (by omega)) ?_)))
  have hin := state_in h s hs hb i hil (stR ws (if s[i] ∈ letsL b then runL (succL b s[i]) (s.drop (i + 1)) else none)) (by
   by_cases hc : s[i] ∈ letsL b
   ·
    rw [if_pos hc, if_pos hc]
    exact ih (i + 1) (succL b s[i]) (by omega) (dL_succ h hb hc)
   rw [if_neg hc, if_neg hc]
   exact dead (i + 1)) (letsL b) [] rfl
  simpa using hin
theorem l7State_ev {ws : List Txt} (h : OkW ws) (s : Txt) (hs : s.length ≤ 1000000) : Ev (fun k => sF71.f k (machW ws) (B s)) (stR ws (runL ws s)) := by
 have := state_out h s hs s.length 0 ws (by omega) (self_dL h)
 rw [idx_zero h, List.drop_zero] at this
 unfold sF71.f
 exact this
end Mach
end Go.Proofs.YtnnkedeohfbkeaaGreatDoor.L
namespace Go.Proofs.YtnnkedeohfbkeaaGreatDoor.L
open Go.RowKit Go.Proofs.YtnnkedeohfbkeaaGreatDoor.P Go.Proofs.YtnnkedeohfbkeaaGreatDoor.M Go.Proofs.YtnnkedeohfbkeaaGreatDoorW.PrintWords Go.Proofs.YtnnkedeohfbkeaaGreatDoorW.PrintLast Go.Proofs.YtnnkedeohfbkeaaGreatDoorW.PrintMore
namespace Mach
abbrev Lst := S90
def toM (l : List Lst) : List Stt := l.map fun x => ⟨x.f0, x.f1⟩
theorem toM_length (l : List Lst) : (toM l).length = l.length := List.length_map _
theorem rd_ls {l : List Lst} {i : Nat} (h : i < l.length) : rd_T90 l (i : Int) = l[i] := by
 unfold rd_T90
 rw [Int.toNat_natCast, List.getD_eq_getElem?_getD, List.getElem?_eq_getElem h]
 rfl
theorem szState_eq (x : Lst) (a : Int) (h0 : 0 ≤ a) (h1 : a ≤ 1048576) (hx : x.f1.length ≤ 9223372036854775807) : wF40.f x.f0 x.f1 a = some (if a - (x.f1.length : Int) < 0 then -1 else a - (x.f1.length : Int)) := by
 unfold wF40.f wF38.f
 rw [wrap64_id (by omega) (by omega)]
 by_cases h : a - (x.f1.length : Int) < 0
 ·
  rw [if_pos h, if_pos h]; rfl
 rw [if_neg h, if_neg h, Option.bind_some, if_neg h]
theorem sz_loop (l : List Lst) (hl : l.length ≤ 1048576) (hx : ∀ x ∈ l, x.f1.length ≤ 9223372036854775807) : ∀ (d i : Nat) (a : Int), i + d = l.length → 0 ≤ a → a ≤ 1048576 →
  ∃ c : Int, Ev (fun k => wF41.l0 k l a (i : Int)) c ∧ (c < 0 ∨ (0 ≤ c ∧ ∀ x ∈ l.drop i, x.f1.length ≤ 1048576)) := by
 intro d
 induction d with
 | zero =>
  intro i a hi h0 h1
  refine ⟨a, Ev.step (fun k => wF41.l0.eq_2 ..) (Ev.ifF (by omega) (Ev.now _)), .inr ⟨h0, fun x hx => ?_⟩⟩
  rw [List.drop_eq_nil_of_le (by omega)] at hx
  cases hx
 | succ d ih =>
  intro i a hi h0 h1
  have hil : i < l.length := by omega
  have hxi := hx _ (List.getElem_mem hil)
  by_cases h : a - (l[i].f1.length : Int) < 0
  ·
   refine ⟨-1, Ev.step (fun k => wF41.l0.eq_2 ..) (Ev.ifT (by omega) (Ev.ifT (by omega) ?_)), .inl (by omega)⟩
   rw [rd_ls hil, szState_eq _ a h0 h1 hxi, if_pos h]
   exact Ev.some_bind (Ev.ifT (by omega) (Ev.now _))
  obtain ⟨c, hc, hr⟩ := ih (i + 1) (a - (l[i].f1.length : Int)) (by omega) (by omega) (by omega)
  refine ⟨c, Ev.step (fun k => wF41.l0.eq_2 ..) (Ev.ifT (by omega) (Ev.ifT (by omega) ?_)), hr.imp_right fun ⟨k1, k2⟩ => ⟨k1, fun x hm => ?_⟩⟩
  ·
   rw [rd_ls hil, szState_eq _ a h0 h1 hxi, if_neg h, wrap64_succ i (by omega)]
   exact Ev.some_bind (Ev.ifF h hc)
  rw [List.drop_eq_getElem_cons hil] at hm
  rcases List.mem_cons.1 hm with rfl | hm
  ·
   omega
  exact k2 x hm
theorem szMachine_ev (l : List Lst) (hl : l.length ≤ 9223372036854775807) (hx : ∀ x ∈ l, x.f1.length ≤ 9223372036854775807) :
  ∃ c : Int, Ev (fun k => wF39.f k l 1048576) c ∧ (c < 0 ∨ (0 ≤ c ∧ l.length ≤ 1048576 ∧ ∀ x ∈ l, x.f1.length ≤ 1048576)) := by
 unfold wF39.f wF41.f
 rw [wrap64_id (by omega) (by omega)]
 by_cases h : 1048576 - (l.length : Int) < 0
 ·
  exact ⟨-1, Ev.bind (Ev.ifT h (Ev.now _)) (Ev.ifT (by omega) (Ev.now _)), .inl (by omega)⟩
 obtain ⟨c, hc, hr⟩ := sz_loop l (by omega) hx l.length 0 (1048576 - (l.length : Int)) (by omega) (by omega) (by omega)
 rw [List.drop_zero] at hr
 by_cases h2 : c < 0
 ·
  exact ⟨-1, Ev.bind (Ev.ifF h hc) (Ev.ifT h2 (Ev.now _)), .inl (by omega)⟩
 refine ⟨c, Ev.bind (Ev.ifF h hc) (Ev.ifF h2 (Ev.now _)), .inr ?_⟩
 rcases hr with hr | ⟨k1, k2⟩
 ·
  exact absurd hr h2
 exact ⟨k1, by omega, k2⟩
theorem fillP {α : Type} (z : α) (xs : List α) (n : Nat) (h : n < xs.length) (y : α) : (xs.take n ++ List.replicate (xs.length - n) y).set n (xs[n]) = xs.take (n + 1) ++ List.replicate (xs.length - (n + 1)) y := by
 have := fill_set (xs[n]) xs n h y
 rwa [getD_lt _ h] at this
theorem toIntA2S_loop (l : List Edg) (hl : l.length ≤ 1048576) : ∀ (d i : Nat), i + d = l.length → Ev (fun k => wF43.l0 k l (l.take i ++ List.replicate (l.length - i) z88) (i : Int)) l := by
 intro d
 induction d with
 | zero =>
  intro i hi
  refine Ev.step (fun k => wF43.l0.eq_2 ..) (Ev.ifF (by omega) ?_)
  rw [List.take_of_length_le (by omega), show l.length - i = 0 from by omega, List.replicate_zero, List.append_nil]
  exact Ev.now _
 | succ d ih =>
  intro i hi
  have hil : i < l.length := by omega
  refine Ev.step (fun k => wF43.l0.eq_2 ..) (Ev.ifT (by omega) (Ev.ifT (by omega) ?_))
  rw [rd_edge hil]
  unfold wF42.f
  refine Ev.some_bind (Ev.ifT (by rw [List.length_append, List.length_take, List.length_replicate]; omega) ?_)
  rw [Int.toNat_natCast, show (⟨l[i].f0, l[i].f1⟩ : Edg) = l[i] from rfl, fillP z88 l i hil, wrap64_succ i (by omega)]
  exact ih (i + 1) (by omega)
theorem toIntA2S_ev (l : List Edg) (hl : l.length ≤ 1048576) : Ev (fun k => wF43.f k l) l := by
 unfold wF43.f
 refine Ev.ifT (by omega) (Ev.ifT (by omega) ?_)
 have := toIntA2S_loop l hl l.length 0 (by omega)
 rw [List.take_zero, List.nil_append, Nat.sub_zero] at this
 exact this
theorem toStateS_loop (l : List Lst) (hl : l.length ≤ 1048576) (hx : ∀ x ∈ l, x.f1.length ≤ 1048576) : ∀ (d i : Nat), i + d = l.length → Ev (fun k => wF46.l0 k l ((toM l).take i ++ List.replicate ((toM l).length - i) z72) (i : Int)) (toM l) := by
 intro d
 induction d with
 | zero =>
  intro i hi
  refine Ev.step (fun k => wF46.l0.eq_2 ..) (Ev.ifF (by omega) ?_)
  rw [List.take_of_length_le (by rw [toM_length]; omega), show (toM l).length - i = 0 from by rw [toM_length]; omega, List.replicate_zero, List.append_nil]
  exact Ev.now _
 | succ d ih =>
  intro i hi
  have hil : i < l.length := by omega
  have him : i < (toM l).length := by rw [toM_length]; exact hil
  refine Ev.step (fun k => wF46.l0.eq_2 ..) (Ev.ifT (by omega) (Ev.ifT (by omega) ?_))
  rw [rd_ls hil]
  unfold wF45.f
  refine Ev.bind (Ev.bind (toIntA2S_ev _ (hx _ (List.getElem_mem hil))) (Ev.now _)) (Ev.ifT (by rw [List.length_append, List.length_take, List.length_replicate]; omega) ?_)
  have e : (⟨l[i].f0, l[i].f1⟩ : Stt) = (toM l)[i] := (List.getElem_map (fun x : Lst => (⟨x.f0, x.f1⟩ : Stt)) (l := l) (h := him)).symm
  show Ev (fun k => wF46.l0 k l (((toM l).take i ++ List.replicate ((toM l).length - i) z72).set ((i : Int)).toNat (⟨l[i].f0, l[i].f1⟩ : Stt)) (wrap64 ((i : Int) + 1))) (toM l)
  rw [Int.toNat_natCast, e, fillP z72 (toM l) i him, wrap64_succ i (by omega)]
  exact ih (i + 1) (by omega)
theorem toMachine_ev (l : List Lst) (hl : l.length ≤ 1048576) (hx : ∀ x ∈ l, x.f1.length ≤ 1048576) : Ev (fun k => wF44.f k l) (toM l) := by
 unfold wF44.f wF46.f
 refine Ev.bind (Ev.ifT (by omega) (Ev.ifT (by omega) ?_)) (Ev.now _)
 have := toStateS_loop l hl hx l.length 0 (by omega)
 rw [List.take_zero, List.nil_append, Nat.sub_zero, toM_length] at this
 exact this
theorem toM_edges {l : List Lst} {n : Nat} (hx : ∀ x ∈ l, x.f1.length ≤ n) : ∀ x ∈ toM l, x.f1.length ≤ n := by
 intro x h
 obtain ⟨y, hy, rfl⟩ := List.mem_map.1 h
 exact hx y hy
end Mach
end Go.Proofs.YtnnkedeohfbkeaaGreatDoor.L
namespace Go.Proofs.YtnnkedeohfbkeaaGreatDoor.L
open Go.RowKit Go.Proofs.YtnnkedeohfbkeaaGreatDoor.P Go.Proofs.YtnnkedeohfbkeaaGreatDoor.M Go.Proofs.YtnnkedeohfbkeaaGreatDoorW.PrintWords Go.Proofs.YtnnkedeohfbkeaaGreatDoorW.PrintLast Go.Proofs.YtnnkedeohfbkeaaGreatDoorW.PrintMore
theorem eqA2_self (a b : Int) : wF30.f a b a b = some true := by unfold wF30.f; simp
abbrev Pr := S88
theorem eqIntA2S_loop (l : List Pr) (hl : l.length ≤ 1000000000) : ∀ (d n : Nat), n + d = l.length → Ev (fun k => wF31.l0 k l l (n : Int)) true := by
 intro d
 induction d with
 | zero =>
  intro n hn
  exact Ev.step (fun k => wF31.l0.eq_2 ..) (Ev.ifF (by omega) (Ev.now _))
 | succ d ih =>
  intro n hn
  refine Ev.step (fun k => wF31.l0.eq_2 ..) (Ev.ifT (by omega) (Ev.ifT (by omega) (Ev.ifT (by omega) ?_)))
  rw [eqA2_self]
  refine Ev.some_bind (Ev.ifT rfl ?_)
  rw [wrap64_succ n (by omega)]
  exact ih (n + 1) (by omega)
theorem eqIntA2S_ev (l : List Pr) (hl : l.length ≤ 1000000000) : Ev (fun k => wF31.f k l l) true := by
 unfold wF31.f
 exact Ev.ifT rfl (eqIntA2S_loop l hl l.length 0 (by omega))
end Go.Proofs.YtnnkedeohfbkeaaGreatDoor.L
namespace Go.Proofs.YtnnkedeohfbkeaaGreatDoor.L
open Go.RowKit Go.Proofs.YtnnkedeohfbkeaaGreatDoor.P Go.Proofs.YtnnkedeohfbkeaaGreatDoor.M Go.Proofs.YtnnkedeohfbkeaaGreatDoorW.PrintWords Go.Proofs.YtnnkedeohfbkeaaGreatDoorW.PrintLast Go.Proofs.YtnnkedeohfbkeaaGreatDoorW.PrintMore
namespace MMk
abbrev St := S72
theorem rd_at (pre xs : List St) (x : St) : rd_T72 (pre ++ x :: xs) (pre.length : Int) = x := by
 unfold rd_T72
 rw [Int.toNat_natCast, List.getD_eq_getElem?_getD, List.getElem?_append_right (Nat.le_refl _), Nat.sub_self]
 rfl
theorem eqState_ev (x : St) (h : x.f1.length ≤ 1000000000) : Ev (fun k => wF33.f k x.f0 x.f1 x.f0 x.f1) true := by
 unfold wF33.f
 exact Ev.ifF (by simp) (Ev.bind (eqIntA2S_ev _ h) (Ev.ifT rfl (Ev.now _)))
theorem eqStateS_loop (l : List St) (hl : l.length ≤ 1000000000) : ∀ (xs pre : List St), pre ++ xs = l → (∀ x ∈ xs, x.f1.length ≤ 1000000000) → Ev (fun k => wF34.l0 k l l (pre.length : Int)) true
 | [], pre, e, _ => by
  refine Ev.step (fun k => wF34.l0.eq_2 ..) (Ev.ifF ?_ (Ev.now _))
  rw [← e, List.append_nil]; omega
 | x :: xs, pre, e, hx => by
  have hn : pre.length < l.length := by rw [← e, List.length_append, List.length_cons]; omega
  have er : rd_T72 l (pre.length : Int) = x := by rw [← e]; exact rd_at pre xs x
  refine Ev.step (fun k => wF34.l0.eq_2 ..) (Ev.ifT (by omega) (Ev.ifT (by omega) (Ev.ifT (by omega) ?_)))
  rw [er, wrap64_succ pre.length (by omega)]
  have ih := eqStateS_loop l hl xs (pre ++ [x]) (by rw [List.append_assoc]; exact e) (fun y hy => hx y (List.mem_cons_of_mem _ hy))
  rw [List.length_append, List.length_singleton] at ih
  exact Ev.bind (eqState_ev x (hx x (List.mem_cons_self ..))) (Ev.ifT rfl ih)
theorem eqMachine_ev (l : List St) (hl : l.length ≤ 1000000000) (hx : ∀ x ∈ l, x.f1.length ≤ 1000000000) : Ev (fun k => wF32.f k l l) true := by
 unfold wF32.f wF34.f
 exact Ev.bind (Ev.ifT rfl (eqStateS_loop l hl l [] rfl hx)) (Ev.ifT rfl (Ev.now _))
end MMk
end Go.Proofs.YtnnkedeohfbkeaaGreatDoor.L
namespace Go.Proofs.YtnnkedeohfbkeaaGreatDoor.Pure
open Go.RowKit Go.Proofs.YtnnkedeohfbkeaaGreatDoor.P Go.Proofs.YtnnkedeohfbkeaaGreatDoor.M Go.Proofs.YtnnkedeohfbkeaaGreatDoorW.PrintWords Go.Proofs.YtnnkedeohfbkeaaGreatDoorW.PrintLast Go.Proofs.YtnnkedeohfbkeaaGreatDoorW.PrintMore
open Go.Proofs.YtnnkedeohfbkeaaGreatDoor.L
open Mach
theorem most0 (x : Int) (h : 0 ≤ x) : sF55.f x 0 = some x := by
 unfold sF55.f
 by_cases k : x > 0
 ·
  rw [if_pos k]
 rw [if_neg k]; congr 1; omega
theorem isTrie_yes {ws : List Txt} (h : OkW ws) : Ev (fun k => iF20.f k (trN (preL ws) ws)) true := by
 obtain ⟨b, hb, he⟩ := isTrie_ev (trN (preL ws) ws)
 rw [hb.2 ⟨ws, h, rfl⟩] at he
 exact he
theorem in_pre {ws : List Txt} (h : OkW ws) (s : Txt) : s ∈ preL ws ↔ ∃ b, runL ws s = some b := by
 constructor
 ·
  intro hp
  cases hr : runL ws s with
  | some b => exact ⟨b, rfl⟩
  | none =>
   rcases mem_preL.1 hp with rfl | ⟨w, hw, _, x, rfl⟩
   ·
    cases hr
   exact absurd hw (runL_none s (res_all h) hr x)
 rintro ⟨b, hr⟩
 obtain ⟨h1, h2⟩ := runL_some s (res_all h) hr
 by_cases hs : s = []
 ·
  rw [hs]; exact nil_preL ws
 obtain ⟨x, hx⟩ := List.exists_mem_of_ne_nil _ (h2 hs)
 exact mem_preL.2 (.inr ⟨s ++ x, (h1 x).1 hx, hs, ⟨x, rfl⟩⟩)
theorem run_beh {ws : List Txt} (h : OkW ws) {s : Txt} {b : List Txt} (hr : runL ws s = some b) : behL ws s = b := by
 have hb := dL_res h (runL_dL h s (self_dL h) hr)
 refine asc_ext _ _ (asc_behL h.asc s) hb.asc fun x => ?_
 rw [mem_behL]
 exact ((runL_some s (res_all h) hr).1 x).symm
theorem node_yes {ws : List Txt} (h : OkW ws) {s : Txt} (hp : s ∈ preL ws) : Ev (fun k => iF9.f k (trN (preL ws) ws) (B s)) ((placeL (preL ws) s : Int), true) := by
 have hP := h.pre
 unfold iF9.f
 refine Ev.bind (isTrie_yes h) (Ev.ifT rfl (Ev.bind (prefixes_tr h) (Ev.bind (index_ev (preL ws) s (by omega) hp) ?_)))
 rw [decide_eq_true (by omega), show mx ((placeL (preL ws) s : Nat) : Int) 0 = ((placeL (preL ws) s : Nat) : Int) from by unfold mx; split <;> omega]
 exact Ev.now _
theorem node_no {ws : List Txt} (h : OkW ws) {s : Txt} (hp : s ∉ preL ws) : Ev (fun k => iF9.f k (trN (preL ws) ws) (B s)) (0, false) := by
 have hP := h.pre
 unfold iF9.f
 exact Ev.bind (isTrie_yes h) (Ev.ifT rfl (Ev.bind (prefixes_tr h) (Ev.bind (index_miss (preL ws) s (by omega) hp) (Ev.now _))))
theorem both (m : List Stt) (s : Txt) (hs : s.length ≤ 1048576) (hx : ∀ x ∈ m, x.f1.length ≤ 1048576) : ∃ r : Int × Bool, Ev (fun k => sF53.f k m (B s)) r ∧ Ev (fun k => iF10.f k m (B s)) r := by
 unfold sF53.f iF10.f
 have no : ∀ m, Ev (fun k => sF53.j0 k (B s) true m) (0, false) := fun m => Ev.step (fun k => sF53.j0.eq_2 ..) (Ev.ifT rfl (Ev.now _))
 rcases mach_both m hx with ⟨ws, h, rfl, h1, h2⟩ | ⟨h1, h2⟩
 ·
  have hl := l2Word_ev s (by omega)
  cases hr : runL ws s with
  | some b =>
   have hp := (in_pre h s).2 ⟨b, hr⟩
   have hw := preL_word h.word hp
   rw [hw] at hl
   have hst := l7State_ev h s (by have := (wordL_iff.1 hw).2; omega)
   rw [hr] at hst
   have hb := runL_dL h s (self_dL h) hr
   obtain ⟨z1, z2⟩ := placeL_mem hp
   refine ⟨(((dL ws).idxOf b : Int), true), Ev.bind h1 (Ev.ifT rfl (Ev.bind hl (Ev.step (fun k => sF53.j0.eq_2 ..) (Ev.ifF Bool.false_ne_true (Ev.bind hst ?_))))), Ev.bind h2 (Ev.ifT rfl (Ev.bind (node_yes h hp) (Ev.ifT rfl (Ev.bind (machine_ev h) ?_))))⟩
   ·
    show Ev (fun k => (sF55.f ((dL ws).idxOf b : Int) 0).bind fun t818 => some (t818, decide (((dL ws).idxOf b : Int) ≥ 0))) _
    rw [decide_eq_true (by omega), most0 _ (by omega)]
    exact Ev.some_bind (Ev.now _)
   refine Ev.ifT (by omega) (Ev.ifT (by rw [idsW_length]; omega) ?_)
   rw [idsW_get z1, resL_get z1, z2, run_beh h hr]
   exact Ev.now _
  | none =>
   have hp : s ∉ preL ws := fun k => by obtain ⟨b, hb⟩ := (in_pre h s).1 k; rw [hr] at hb; cases hb
   refine ⟨(0, false), Ev.bind h1 (Ev.ifT rfl (Ev.bind hl ?_)), Ev.bind h2 (Ev.ifT rfl (Ev.bind (node_no h hp) (Ev.ifF Bool.false_ne_true (Ev.now _))))⟩
   cases hw : wordL s with
   | false => exact no _
   | true =>
    have hst := l7State_ev h s (by have := (wordL_iff.1 hw).2; omega)
    rw [hr] at hst
    exact Ev.step (fun k => sF53.j0.eq_2 ..) (Ev.ifF Bool.false_ne_true (Ev.bind hst (Ev.now _)))
 exact ⟨(0, false), Ev.bind h1 (Ev.ifF Bool.false_ne_true (no _)), Ev.bind h2 (Ev.ifF Bool.false_ne_true (Ev.now _))⟩
theorem FnExactStateOf : wF29.Pure := by
 intro l a hl hx hw
 refine Ev.rounds ?_
 unfold wF29.f
 obtain ⟨s, rfl⟩ := exB a
 by_cases hs : s.length ≤ 1048576
 ·
  refine Ev.ifF (by rw [size_B]; omega) ?_
  obtain ⟨c, hc, hr⟩ := szMachine_ev l hl hx
  refine Ev.bind hc ?_
  rcases hr with hneg | ⟨h0, h1, h2⟩
  ·
   exact Ev.ifT hneg (Ev.now _)
  obtain ⟨r, e1, e2⟩ := both (toM l) s hs (toM_edges h2)
  have ht := toMachine_ev l h1 h2
  have he := MMk.eqMachine_ev (toM l) (by rw [toM_length]; omega) (fun x hx => by have := toM_edges h2 x hx; omega)
  exact Ev.ifF (by omega) (Ev.bind ht (Ev.bind e1 (Ev.bind ht (Ev.bind e2 (Ev.ifT rfl (Ev.step (fun k => wF29.j0.eq_2 ..) (Ev.ifF (by simp) (Ev.bind ht (Ev.bind he (Ev.ifT rfl (Ev.now _)))))))))))
 exact Ev.ifT (by rw [size_B]; omega) (Ev.now _)
end Go.Proofs.YtnnkedeohfbkeaaGreatDoor.Pure
namespace Go.Proofs.YtnnkedeohfbkeaaGreatDoor.fnExactStateOf
open Go.ChangeShapes Go.WideShapes Go.ChangeAt Go.RowKit Go.Proofs.YtnnkedeohfbkeaaGreatDoor.P
open Go.ChangeMaps (open_string shut_string)
def laidL : List (String × DataW Unit) := [("unicode/utf8.acceptRanges", Rows.laid_unicode_utf8_acceptRanges), ("unicode/utf8.first", Rows.laid_unicode_utf8_first)]
theorem own : ownKnob Tryz.prog.godebug = none := by kernel_rfl
theorem laidOut : laidOutB Tryz.prog = true := by kernel_rfl
theorem lifted (os : Os) (started : os.Started) (H : Type) (enc : TypeId × Value → H) :
    ReturnsInHanded {} Tryz.checked os 10 .any (fun w args => (Rows.fnExactStateOfSpec.pre enc Tryz.prog Tryz.f10 [] false w args ∧ laidMetH Tryz.prog laidL w) ∧ sizedMet enc Tryz.prog Tryz.f10 (OpenSpec.ofChange Rows.fnExactStateOfSpec) false w args) (Rows.fnExactStateOfSpec.post enc Tryz.prog Tryz.f10 false true false false) := by
  refine returnsInHanded_of_change_and (C := Tryz.checked) (X := fun w _ => laidMetH Tryz.prog laidL w) (fun _ _ _ hh h => h.of_heap hh) own started (by kernel_rfl) Tryz.func10
    (ChangeSpec.witness_shaped (enc := enc) (C := Tryz.checked) (os := os) (X := fun w _ => laidMetH Tryz.prog laidL w) false (World.laidAll Tryz.prog os laidL) #[.agg #[.slice none 0 0], .string ByteArray.empty] 8 (World.laidAll_os _ _ _) (World.shaped_of_ZipB (by kernel_rfl) (by kernel_rfl)) (by kernel_rfl) (by kernel_rfl) (by kernel_rfl)
      (by rw [MakeChecks.laidMetH_plain _ _ _ (by kernel_rfl)]; exact laidMet_laidAll _ (by kernel_rfl) (by kernel_rfl))) ?_
  intro W base args ds gs before hval0 hW hcnd hsz0 hL_ _
  have hsz : (DataW.weightsEach Tryz.prog (Tryz.f10.params.toList ++ Rows.fnExactStateOfSpec.plain.varTypes Tryz.prog) (ds ++ gs)).all (· ≤ reachBytes) = true := hsz0
  have hval : ∀ (j : Nat) t v, Tryz.f10.params[j]? = some t → args[j]? = some v → Value.okWide Tryz.prog W .any base t v := hval0
  have hW' := hW
  obtain ⟨p, q, hA0, hV, rfl, hfz, hnd⟩ := hW
  have hA : DataW.TrodAll enc Tryz.prog W 0 (fun _ => true) true Tryz.f10.params.toList args.toList ds p := hA0
  rw [Tryz.params10] at hA hval hsz
  obtain ⟨v0, vs0, d0, ds0, p0, q0, hargs, rfl, rfl, h0, r0⟩ := trodAll_cons hA
  obtain ⟨v1, vs1, d1, ds1, p1, q1, rfl, rfl, rfl, h1, r1⟩ := trodAll_cons r0
  obtain ⟨rfl, rfl, rfl⟩ := trodAll_nil r1
  obtain rfl : args = #[v0, v1] := by cases args; simp_all
  obtain ⟨rfl, rfl⟩ := trodVars_none hV
  have k0 := h0
  have lt0 : ∀ x ∈ p0, x.block < W.heap.size := by obtain ⟨m, hm⟩ := k0; exact DataW.trod_lt m _ _ _ hm
  obtain ⟨A0, c0, l0, ev0, hc0, hr0⟩ := OM.machine (hval 0 24 v0 rfl rfl) h0
  subst ev0
  obtain ⟨a1, rfl, rfl, rfl, y1⟩ := open_string Tryz.underlying9 (hval 1 9 v1 rfl rfl) h1
  have w1 : a1.size ≤ 140737488351232 := by
    have z := sized_string hsz (j := 1) (t := 9) rfl rfl
    rw [Array.length_toList] at z
    exact z
  clear hA0 hval0 hsz0 hsz
  refine (wF29.walk Pure.FnExactStateOf W A0 c0 l0 hr0 hc0 a1 w1).mono fun e W' ⟨he, bel⟩ => ?_
  subst he
  exact ⟨_, rfl, _, _, _, [], _, [], hW', trodAll_mk1 (shut_bool Tryz.underlying4 _), (trodAll_cons_mk (Below.trod laidOut (by kernel_rfl) (of_decide_eq_true (by kernel_rfl)) k0 bel lt0) (trodAll_cons_mk (shut_string Tryz.underlying9 y1) trodAll_mk0)), rfl, bel.frame _, fun h => by cases h⟩
theorem over : Rows.fnExactStateOfRow.holds Tryz.pinned (OpenSpec.ofChange Rows.fnExactStateOfSpec) :=
  OpenClaim.holds_of_wide 10 Tryz.f10 rfl rfl rfl rfl rfl rfl rfl ⟨rfl, rfl, rfl, rfl, rfl⟩ rfl rfl rfl rfl rfl (by kernel_rfl) Tryz.func10 (by kernel_rfl)
    (of_decide_eq_true (by kernel_rfl)) (by unfold Func.isWrapper; first | (rw [if_pos (by decide +kernel)]; kernel_rfl) | (rw [if_neg (by decide +kernel)]; exact ⟨rfl, rfl⟩))
    (fun os started H enc _ => lifted os started H enc)
theorem proved : Rows.FnExactStateOfSaid := over
end Go.Proofs.YtnnkedeohfbkeaaGreatDoor.fnExactStateOf
namespace Go.Proofs.YtnnkedeohfbkeaaGreatDoor
theorem fnExactStateOf_holds : Rows.FnExactStateOfSaid := fnExactStateOf.proved
theorem fnExactStateOf_card : Rows.FnExactStateOfCardSaid :=
  Claim7.holds_tied_plain_at .later [] [.data, .pinned] true (true, "d24746f385e5a6b2389916c9b9ccdfc43770af261716950c3f87901a77ac8579") false
    fnExactStateOf_holds (fun _ h => by cases h) (by kernel_rfl) (fun _ h => by cases h) fnExactStateOf_row_tie rfl ⟨rfl, rfl⟩ (by kernel_rfl) rfl
    (fun f fn hf hfn => by
      obtain rfl : f = 10 := Option.some.inj ((show Tryz.prog.funcNamed "loop.example/g01243/laws.FnExactStateOf" = some 10 by kernel_rfl).symm.trans hf) |>.symm
      obtain rfl : fn = Tryz.f10 := (Option.some.inj (Tryz.func10.symm.trans hfn)).symm
      exact ⟨by kernel_rfl, fun j t ht => by
        rw [Tryz.params10] at ht
        have hm : t ∈ [24, 9] := by simpa using Array.mem_of_getElem? ht
        have hall : ([24, 9].all fun u => !Tryz.prog.wantsStandIn u) = true := by kernel_rfl
        exact (show Tryz.prog.wantsStandIn t = false by simpa using List.all_eq_true.1 hall t hm)⟩)
    (by kernel_rfl)
end Go.Proofs.YtnnkedeohfbkeaaGreatDoor
