/-
  Part 5 of the proof that FnExactDropPressed returns true for every input: the functions that it reaches, each with its contract, and the law.
  Conditions: those of the given statement, no others.
-/
import Derived.Test.YtfhffcefpnkllaaGreatDoorCFnExactDropPressedW0
import Derived.Lib.SlicesCompact
import Derived.Test.YtfhffcefpnkllaaGreatDoorRows
import Derived.WalkKit
import Derived.ProofKit
import Derived.OpenShut
import Derived.ShutString
import Derived.ChangeOld
import Derived.Below
import Derived.SizedLaws
import Derived.Lay
import Derived.LaidOnce
import Derived.SevenTiedAt
import Derived.Test.YtfhffcefpnkllaaGreatDoorCards
import Derived.Test.YtfhffcefpnkllaaGreatDoorTie
import Derived.Test.YtfhffcefpnkllaaGreatDoorCFnExactDropPressed0
import Derived.Test.YtfhffcefpnkllaaGreatDoorCFnExactDropPressed3
import Derived.Test.YtfhffcefpnkllaaGreatDoorCFnExactDropPressed1
import Derived.Test.YtfhffcefpnkllaaGreatDoorCFnExactDropPressed2
set_option linter.unusedVariables false
set_option linter.unusedSimpArgs false
set_option maxHeartbeats 8000000
set_option maxRecDepth 100000
namespace Go.Proofs.YtfhffcefpnkllaaGreatDoor.P
open Go.RowKit Go.Proofs.YtfhffcefpnkllaaGreatDoorW.PrintWords Go.Proofs.YtfhffcefpnkllaaGreatDoorW.PrintLast Go.Proofs.YtfhffcefpnkllaaGreatDoorW.PrintMore
open Go.Proofs.YtfhffcefpnkllaaGreatDoorW.PrintWords renaming blk_frozen → bF_, blk_cell → bC_, below_set → bS_, blk_below → bB_, below_step → bT_, pw_below_drewN → bN_, below_size → bZ_, below_drew1 → bD_, below_alloc → bA_, blk_far → bR_, gate_callee → gC_, gate_dst → gD_, box_event → bE_, blk_drew → b1_, blk_put → bP_, blk_drewN → b2_, blk_alloc → b3_, blk_lt → bL_, cell_far → cF_
open Go.Proofs.YtfhffcefpnkllaaGreatDoorW.PrintLast renaming any_of → aO_, i64_w → i6_, i32_w → i3_, take_ofW → tW_
open Go.Proofs.YtfhffcefpnkllaaGreatDoorW.PrintWords.Kd renaming R_below → kB_, R_mono → kM_, R_far → kF_, R_reads' → kR_, R_types → kT_, R_slice → kS_, R_celln → kC_, R_alloc → k1_, R_drewN → k2_, R_drew → k3_, C_below → k4_, R_lower → k5_, R_ne → k6_, own_blk → k7_
open Go.Proofs.YtfhffcefpnkllaaGreatDoorW.PrintWords.LeO renaming none → l0_, bind → l1_, ite → l2_, refl → l3_
open World renaming block_lt_of_cell? → wB_
open _root_.Option renaming bind_eq_some_iff → oB_
open _root_.ByteArray renaming empty → eB_
open List renaming setIfInBounds_toArray → sA_, set_cons_zero → sB_, set_cons_succ → sC_, map_toArray → sD_, map_cons → sE_, map_nil → sF_, length_drop → sG_, length_take → sH_
open Bool renaming true → ty, false → fy
open Aside0 renaming mk → aM_
attribute [local go_sem] max2_int min2_int max_two min_two max_three min_three max_four min_four
mutual
def wF29.j0 : Nat → ByteArray → Int → Bool → Int → Bool → Bool → List (S71) → List (S60) → List (S60) → List (S60) → Option (Bool)
 | 0, _, _, _, _, _, _, _, _, _, _ => none
 | k + 1, x1, x7, x8, x11, x12, x57, x860000, x870000, x874000, x880000 => if x57 = true then (some false) else ((wF43.f k x860000).bind fun t881 => ((wF32.f k x874000 t881).bind fun t884 => (if t884 = true then ((wF36.f k x874000 1).bind fun bt885 => (if bt885.1 < 0 then (wF29.j1 k x1 x7 x8 true x860000 x870000 x880000) else ((wF32.f k x880000 x870000).bind fun t887 => (if t887 = true then (if x11 = x7 then (wF29.j1 k x1 x7 x8 (x12 != x8) x860000 x870000 x880000) else (wF29.j1 k x1 x7 x8 true x860000 x870000 x880000)) else (wF29.j1 k x1 x7 x8 true x860000 x870000 x880000))))) else (some false))))
def wF29.j1 : Nat → ByteArray → Int → Bool → Bool → List (S71) → List (S60) → List (S60) → Option (Bool)
 | 0, _, _, _, _, _, _, _ => none
 | k + 1, x1, x7, x8, x83, x860000, x870000, x880000 => if x83 = true then (some false) else ((wF36.f k x880000 1).bind fun bt888 => ((wF34.f k bt888.2 1).bind fun t890 => (if t890 < 0 then (some false) else (if t890 = bt888.1 then ((wF43.f k x860000).bind fun t891 => ((iF7.f k t891 x1).bind fun bt894 => ((wF32.f k bt894.1 x870000).bind fun t900 => (if t900 = true then (if bt894.2.1 = x7 then (wF29.j2 k bt888.1 (bt894.2.2 != x8) bt888.2) else (wF29.j2 k bt888.1 true bt888.2)) else (wF29.j2 k bt888.1 true bt888.2))))) else (some false)))))
def wF29.j2 : Nat → Int → Bool → List (S60) → Option (Bool)
 | 0, _, _, _ => none
 | k + 1, x14, x116, x880000 => if x116 = true then (some false) else ((wF34.f k x880000 1).bind fun t901 => (if t901 < 0 then (some false) else (if t901 = x14 then (some true) else (some false))))
end
def wF29.f (k : Nat) (l0_0 : List (S71)) (a1 : ByteArray) : Option (Bool) := if (a1.size : Int) > 1048576 then (some true) else ((wF40.f k l0_0 1048576).bind fun t860 => (if t860 < 0 then (some true) else ((wF43.f k l0_0).bind fun t861 => ((sF49.f k t861 a1).bind fun bt864 => ((wF43.f k l0_0).bind fun t870 => ((iF7.f k t870 a1).bind fun bt874 => ((wF32.f k bt874.1 bt864.1).bind fun t880 => (if t880 = true then (if bt874.2.1 = bt864.2.1 then (wF29.j0 k a1 bt864.2.1 bt864.2.2 bt874.2.1 bt874.2.2 (bt874.2.2 != bt864.2.2) l0_0 bt864.1 t870 bt874.1) else (wF29.j0 k a1 bt864.2.1 bt864.2.2 bt874.2.1 bt874.2.2 true l0_0 bt864.1 t870 bt874.1)) else (wF29.j0 k a1 bt864.2.1 bt864.2.2 bt874.2.1 bt874.2.2 true l0_0 bt864.1 t870 bt874.1)))))))))
theorem wF29.mono_l : ∀ k, (∀ y0 y1 y2 y3 y4 y5 y6 y7 y8 y9, LeO (wF29.j0 k y0 y1 y2 y3 y4 y5 y6 y7 y8 y9) (wF29.j0 (k + 1) y0 y1 y2 y3 y4 y5 y6 y7 y8 y9)) ∧ (∀ y0 y1 y2 y3 y4 y5 y6, LeO (wF29.j1 k y0 y1 y2 y3 y4 y5 y6) (wF29.j1 (k + 1) y0 y1 y2 y3 y4 y5 y6)) ∧ (∀ y0 y1 y2, LeO (wF29.j2 k y0 y1 y2) (wF29.j2 (k + 1) y0 y1 y2))
 | 0 => ⟨fun _ _ _ _ _ _ _ _ _ _ r h => by simp [wF29.j0] at h, fun _ _ _ _ _ _ _ r h => by simp [wF29.j1] at h, fun _ _ _ r h => by simp [wF29.j2] at h⟩
 | k + 1 => by
  obtain ⟨ih0, ih1, ih2⟩ := wF29.mono_l k
  refine ⟨?_, ?_, ?_⟩
  ·
   intro y0 y1 y2 y3 y4 y5 y6 y7 y8 y9
   unfold wF29.j0
   repeat' with_reducible first | exact ih0 _ _ _ _ _ _ _ _ _ _ | exact ih1 _ _ _ _ _ _ _ | exact ih2 _ _ _ | exact iF7.mono _ _ _ | exact wF32.mono _ _ _ | exact wF34.mono _ _ _ | exact wF36.mono _ _ _ | exact wF40.mono _ _ _ | exact wF43.mono _ _ | exact sF49.mono _ _ _ | exact l3_ _ | exact l0_ _ | refine l2_ ?_ ?_ | refine l1_ ?_ (fun _ => ?_)
  ·
   intro y0 y1 y2 y3 y4 y5 y6
   unfold wF29.j1
   repeat' with_reducible first | exact ih0 _ _ _ _ _ _ _ _ _ _ | exact ih1 _ _ _ _ _ _ _ | exact ih2 _ _ _ | exact iF7.mono _ _ _ | exact wF32.mono _ _ _ | exact wF34.mono _ _ _ | exact wF36.mono _ _ _ | exact wF40.mono _ _ _ | exact wF43.mono _ _ | exact sF49.mono _ _ _ | exact l3_ _ | exact l0_ _ | refine l2_ ?_ ?_ | refine l1_ ?_ (fun _ => ?_)
  intro y0 y1 y2
  unfold wF29.j2
  repeat' with_reducible first | exact ih0 _ _ _ _ _ _ _ _ _ _ | exact ih1 _ _ _ _ _ _ _ | exact ih2 _ _ _ | exact iF7.mono _ _ _ | exact wF32.mono _ _ _ | exact wF34.mono _ _ _ | exact wF36.mono _ _ _ | exact wF40.mono _ _ _ | exact wF43.mono _ _ | exact sF49.mono _ _ _ | exact l3_ _ | exact l0_ _ | refine l2_ ?_ ?_ | refine l1_ ?_ (fun _ => ?_)
theorem wF29.mono : ∀ a0 a1 k, LeO (wF29.f k a0 a1) (wF29.f (k + 1) a0 a1) := by
 intro a0 a1 k
 obtain ⟨ih0, ih1, ih2⟩ := wF29.mono_l k
 unfold wF29.f
 repeat' with_reducible first | exact ih0 _ _ _ _ _ _ _ _ _ _ | exact ih1 _ _ _ _ _ _ _ | exact ih2 _ _ _ | exact iF7.mono _ _ _ | exact wF32.mono _ _ _ | exact wF34.mono _ _ _ | exact wF36.mono _ _ _ | exact wF40.mono _ _ _ | exact wF43.mono _ _ | exact sF49.mono _ _ _ | exact l3_ _ | exact l0_ _ | refine l2_ ?_ ?_ | refine l1_ ?_ (fun _ => ?_)
theorem wF29.calls (k : Nat) (A0_0 : Option Addr) (c0_0 : Nat) (l0_0 : List (S71)) (a1 : ByteArray) (r : Bool) (w : World) (hr0_0 : Kd.C k71 w A0_0 l0_0.length l0_0) (hc0_0 : l0_0.length ≤ c0_0) (h : wF29.f k l0_0 a1 = some r) :
  Calls Tryz.prog 7 #[.agg #[.slice A0_0 l0_0.length c0_0], .string a1] w fun e w' => e = .returned (.bool r) ∧ Below w.heap.size w w' := by
 have hu24 := Tryz.underlying24
 have hu30 := Tryz.underlying30
 have HR0_0 := aM_ hr0_0
 have HC0_0 := aM_ hc0_0
 clear hr0_0 hc0_0
 have HB := aM_ (Below.refl w.heap.size w)
 have H : (if (a1.size : Int) > 1048576 then (some true) else ((wF40.f k l0_0 1048576).bind fun t860 => (if t860 < 0 then (some true) else ((wF43.f k l0_0).bind fun t861 => ((sF49.f k t861 a1).bind fun bt864 => ((wF43.f k l0_0).bind fun t870 => ((iF7.f k t870 a1).bind fun bt874 => ((wF32.f k bt874.1 bt864.1).bind fun t880 => (if t880 = true then (if bt874.2.1 = bt864.2.1 then (wF29.j0 k a1 bt864.2.1 bt864.2.2 bt874.2.1 bt874.2.2 (bt874.2.2 != bt864.2.2) l0_0 bt864.1 t870 bt874.1) else (wF29.j0 k a1 bt864.2.1 bt864.2.2 bt874.2.1 bt874.2.2 true l0_0 bt864.1 t870 bt874.1)) else (wF29.j0 k a1 bt864.2.1 bt864.2.2 bt874.2.1 bt874.2.2 true l0_0 bt864.1 t870 bt874.1)))))))))) = some r := h
 clear h
 by_cases c3 : (a1.size : Int) > 1048576
 ·
  rw [if_pos c3] at H
  have c3b0 := dT_ c3
  have c3b1 : decide (1048576 < a1.size) = true := dT_ (by omega)
  clear c3
  obtain rfl := Option.some.inj H
  go_enter Tryz.func7, Tryz.ntmps7
  go_wp2_with (first | (refine bx_ 2 #[.slice A0_0 l0_0.length c0_0] 24 ?_; intro gb859 hg w4 hbox hb; have BK859 := aM_ (hbox); have GW859 := gw_ hg HB; replace HB := b4_ HB hb; clear hb hbox hg))
  go_ret
  exact ⟨by rfl, by exact HB.out⟩
 rw [if_neg c3] at H
 have c3b0 := dF_ c3
 have c3b1 : decide (1048576 < a1.size) = false := dF_ (by omega)
 clear c3
 replace H := oB_.mp H
 obtain ⟨t860, A50, H⟩ := H
 try dsimp only at H
 have A5 := aM_ A50
 clear A50
 by_cases c6 : t860 < 0
 ·
  rw [if_pos c6] at H
  have c6b0 := dT_ c6
  clear c6
  obtain rfl := Option.some.inj H
  go_enter Tryz.func7, Tryz.ntmps7
  go_wp2_with (first | (refine bx_ 2 #[.slice A0_0 l0_0.length c0_0] 24 ?_; intro gb859 hg w7 hbox hb; have BK859 := aM_ (hbox); have GW859 := gw_ hg HB; replace HB := b4_ HB hb; clear hb hbox hg; have hcz8_0 := c0_ BK859; have hfz8_0 := bF_ BK859.out 0) | (refine gs_ 24 Tryz.func8 #[.agg #[.slice A0_0 l0_0.length c0_0], .int .i64 1048576] ?_; (with_reducible refine (wF40.calls k _ _ l0_0 1048576 t860 _ ?side1 HC0_0.out A5.out).mono ?_); (case side1 => repeat (first | exact (k4_ HR0_0.out HB.out) | with_reducible first | apply cA_ | apply cN_ | apply cD_)); rintro e w9 ⟨rfl, hb⟩; refine ⟨_, rfl, ?_⟩; replace BK859 := b5_ BK859 hb; replace HB := b4_ HB hb; (try clear hb)))
  go_ret
  exact ⟨by rfl, by exact HB.out⟩
 rw [if_neg c6] at H
 have c6b0 := dF_ c6
 clear c6
 replace H := oB_.mp H
 obtain ⟨t861, A100, H⟩ := H
 try dsimp only at H
 have A10 := aM_ A100
 clear A100
 replace H := oB_.mp H
 obtain ⟨⟨t864, t867, t868⟩, A110, H⟩ := H
 try dsimp only at H
 have A11 := aM_ A110
 clear A110
 replace H := oB_.mp H
 obtain ⟨t870, A120, H⟩ := H
 try dsimp only at H
 have A12 := aM_ A120
 clear A120
 replace H := oB_.mp H
 obtain ⟨⟨t874, t877, t878⟩, A130, H⟩ := H
 try dsimp only at H
 have A13 := aM_ A130
 clear A130
 have HC14 := aM_ H
 clear H
 go_enter Tryz.func7, Tryz.ntmps7
 go_upto_region 10 with (first | (refine bx_ 2 #[.slice A0_0 l0_0.length c0_0] 24 ?_; intro gb859 hg w15 hbox hb; have BK859 := aM_ (hbox); have GW859 := gw_ hg HB; replace HB := b4_ HB hb; clear hb hbox hg; have hcz16_0 := c0_ BK859; have hfz16_0 := bF_ BK859.out 0) | (refine gs_ 24 Tryz.func8 #[.agg #[.slice A0_0 l0_0.length c0_0], .int .i64 1048576] ?_; (with_reducible refine (wF40.calls k _ _ l0_0 1048576 t860 _ ?side1 HC0_0.out A5.out).mono ?_); (case side1 => repeat (first | exact (k4_ HR0_0.out HB.out) | with_reducible first | apply cA_ | apply cN_ | apply cD_)); rintro e w17 ⟨rfl, hb⟩; refine ⟨_, rfl, ?_⟩; replace BK859 := b5_ BK859 hb; replace HB := b4_ HB hb; (try clear hb); have hcz18_0 := c0_ BK859; have hfz18_0 := bF_ BK859.out 0) | (refine gs_ 29 Tryz.func10 #[.agg #[.slice A0_0 l0_0.length c0_0]] ?_; (with_reducible refine (wF43.calls k _ _ l0_0 t861 _ ?side1 HC0_0.out A10.out).mono ?_); (case side1 => repeat (first | exact (k4_ HR0_0.out HB.out) | with_reducible first | apply cA_ | apply cN_ | apply cD_)); rintro e w19 ⟨v862, rfl, ho0, hb⟩; refine ⟨_, rfl, ?_⟩; have HO863 := aM_ (k5_ ho0 (bZ_ HB.out)); replace BK859 := b5_ BK859 hb; replace HB := b4_ HB hb; (try clear hb); (try clear ho0); obtain ⟨Ao20, co20, eo20⟩ := kS_ HO863.out; subst eo20) | (refine gs_ 31 Tryz.func24 #[.agg #[.slice Ao20 t861.length co20], .string a1] ?_; (with_reducible refine (sF49.calls k _ _ t861 a1 t864 t867 t868 _ ?side1 ?side2 A11.out).mono ?_); (case side1 => repeat (first | exact (kR_ HO863.out).2.2 | with_reducible first | apply cA_ | apply cN_ | apply cD_)); (case side2 => exact (kR_ HO863.out).2.1); rintro e w21 ⟨v865, rfl, ho0, hb⟩; refine ⟨_, rfl, ?_⟩; have HO866 := aM_ (k5_ (Kd.R_new' ho0 (Kd.R_lt HO863.out)) (bZ_ HB.out)); replace HO863 := aM_ (Kd.R_elder' HO863.out (Kd.R_base ho0) hb); replace BK859 := b5_ BK859 hb; replace HB := b4_ HB hb; (try clear hb); (try clear ho0)) | (refine bx_ 6 #[.slice none 0 0] 30 ?_; intro gb869 hg w22 hbox hb; replace HO863 := k9_ HO863 hb; replace HO866 := k9_ HO866 hb; have BK869 := aM_ (hbox); have GW869 := gw_ hg HB; replace HB := b4_ HB hb; have NB859_869 := nb_ hg BK859; have NB869_859 := ns_ NB859_869; replace BK859 := b5_ BK859 hb; clear hb hbox hg; obtain ⟨Ao23, co23, eo23⟩ := kS_ HO866.out; subst eo23; have hnb24 := NB869_859.out; have hnc24 := NB859_869.out; have hcz25_0 := c0_ BK869; have hfz25_0 := bF_ BK869.out 0; have hcz26_0 := c0_ BK859; have hfz26_0 := bF_ BK859.out 0) | (refine gs_ 36 Tryz.func10 #[.agg #[.slice A0_0 l0_0.length c0_0]] ?_; (with_reducible refine (wF43.calls k _ _ l0_0 t870 _ ?side1 HC0_0.out A12.out).mono ?_); (case side1 => exact k4_ HR0_0.out (by repeat with_reducible first | exact HB.out | apply bA_ | apply bN_ | apply bD_ | refine bS_ ?_ (Aside0.out ‹_›))); rintro e w27 ⟨v871, rfl, ho0, hb⟩; refine ⟨_, rfl, ?_⟩; have HO872 := aM_ (k5_ (Kd.R_new' (Kd.R_new' ho0 (Kd.R_lt (by exact (kM_ (kG_ (kT_ HO863.out BK869.out (by decide))) (fun _ h_ => h_.1))))) (Kd.R_lt (by exact (kM_ (kG_ (kT_ HO866.out BK869.out (by decide))) (fun _ h_ => h_.1))))) (bZ_ (by repeat with_reducible first | exact HB.out | apply bA_ | apply bN_ | apply bD_ | refine bS_ ?_ (Aside0.out ‹_›)))); replace HO863 := aM_ (Kd.R_elder' (by exact (kM_ (kG_ (kT_ HO863.out BK869.out (by decide))) (fun _ h_ => h_.1))) (Kd.R_base ho0) hb); replace HO866 := aM_ (Kd.R_elder' (by exact (kM_ (kG_ (kT_ HO866.out BK869.out (by decide))) (fun _ h_ => h_.1))) (Kd.R_base ho0) hb); replace BK859 := aM_ (bB_ (g := gb859) (o := .cells #[.slice A0_0 l0_0.length c0_0] 24 (0, 0)) (by exact br_ NB859_869.out (BK859.out)) hb); replace BK869 := aM_ (bB_ (g := gb869) (o := .cells #[.slice Ao23 t864.length co23] 30 (0, 0)) (by refine bP_ (cs := #[.slice none 0 0]) ?_ 0 _ rfl; exact BK869.out) hb); replace HB := aM_ (bT_ (by repeat with_reducible first | exact HB.out | apply bA_ | apply bN_ | apply bD_ | refine bS_ ?_ (Aside0.out ‹_›)) hb); (try clear hb); (try clear ho0)) | (refine bx_ 9 #[.slice none 0 0] 30 ?_; intro gb873 hg w28 hbox hb; replace HO863 := k9_ HO863 hb; replace HO866 := k9_ HO866 hb; replace HO872 := k9_ HO872 hb; have BK873 := aM_ (hbox); have GW873 := gw_ hg HB; replace HB := b4_ HB hb; have NB859_873 := nb_ hg BK859; have NB873_859 := ns_ NB859_873; replace BK859 := b5_ BK859 hb; have NB869_873 := nb_ hg BK869; have NB873_869 := ns_ NB869_873; replace BK869 := b5_ BK869 hb; clear hb hbox hg; obtain ⟨Ao29, co29, eo29⟩ := kS_ HO872.out; subst eo29; have hnb30 := NB873_859.out; have hnc30 := NB859_873.out; have hnb31 := NB873_869.out; have hnc31 := NB869_873.out; have hcz32_0 := c0_ BK873; have hfz32_0 := bF_ BK873.out 0) | (refine gs_ 40 Tryz.func25 #[.agg #[.slice Ao29 t870.length co29], .string a1] ?_; (with_reducible refine (iF7.calls k _ _ t870 a1 t874 t877 t878 _ ?side1 ?side2 A13.out).mono ?_); (case side1 => refine (kR_ (e := 60) (base := w.heap.size) (ok := fun k_ => ((True ∧ some k_ ≠ (.slice Ao20 t861.length co20 : Value).ownBlock) ∧ some k_ ≠ (.slice Ao23 t864.length co23 : Value).ownBlock)) (n := t870.length) (c := co29) ?_).2.2; exact (by exact (kM_ (kG_ (kT_ HO872.out BK873.out (by decide))) (fun _ h_ => h_.1)))); (case side2 => exact (kR_ HO872.out).2.1); rintro e w33 ⟨v875, rfl, ho0, hb⟩; refine ⟨_, rfl, ?_⟩; have HO876 := aM_ (k5_ (Kd.R_new' (Kd.R_new' (Kd.R_new' ho0 (Kd.R_lt (by exact (kM_ (kG_ (kT_ HO863.out BK873.out (by decide))) (fun _ h_ => h_.1))))) (Kd.R_lt (by exact (kM_ (kG_ (kT_ HO866.out BK873.out (by decide))) (fun _ h_ => h_.1))))) (Kd.R_lt (by exact (kM_ (kG_ (kT_ HO872.out BK873.out (by decide))) (fun _ h_ => h_.1))))) (bZ_ (by repeat with_reducible first | exact HB.out | apply bA_ | apply bN_ | apply bD_ | refine bS_ ?_ (Aside0.out ‹_›)))); replace HO863 := aM_ (Kd.R_elder' (by exact (kM_ (kG_ (kT_ HO863.out BK873.out (by decide))) (fun _ h_ => h_.1))) (Kd.R_base ho0) hb); replace HO866 := aM_ (Kd.R_elder' (by exact (kM_ (kG_ (kT_ HO866.out BK873.out (by decide))) (fun _ h_ => h_.1))) (Kd.R_base ho0) hb); replace HO872 := aM_ (Kd.R_elder' (by exact (kM_ (kG_ (kT_ HO872.out BK873.out (by decide))) (fun _ h_ => h_.1))) (Kd.R_base ho0) hb); replace BK859 := aM_ (bB_ (g := gb859) (o := .cells #[.slice A0_0 l0_0.length c0_0] 24 (0, 0)) (by exact br_ NB859_873.out (BK859.out)) hb); replace BK869 := aM_ (bB_ (g := gb869) (o := .cells #[.slice Ao23 t864.length co23] 30 (0, 0)) (by exact br_ NB869_873.out (BK869.out)) hb); replace BK873 := aM_ (bB_ (g := gb873) (o := .cells #[.slice Ao29 t870.length co29] 30 (0, 0)) (by refine bP_ (cs := #[.slice none 0 0]) ?_ 0 _ rfl; exact BK873.out) hb); replace HB := aM_ (bT_ (by repeat with_reducible first | exact HB.out | apply bA_ | apply bN_ | apply bD_ | refine bS_ ?_ (Aside0.out ‹_›)) hb); (try clear hb); (try clear ho0)) | (refine bx_ 10 #[.slice none 0 0] 30 ?_; intro gb879 hg w34 hbox hb; replace HO863 := k9_ HO863 hb; replace HO866 := k9_ HO866 hb; replace HO872 := k9_ HO872 hb; replace HO876 := k9_ HO876 hb; have BK879 := aM_ (hbox); have GW879 := gw_ hg HB; replace HB := b4_ HB hb; have NB859_879 := nb_ hg BK859; have NB879_859 := ns_ NB859_879; replace BK859 := b5_ BK859 hb; have NB869_879 := nb_ hg BK869; have NB879_869 := ns_ NB869_879; replace BK869 := b5_ BK869 hb; have NB873_879 := nb_ hg BK873; have NB879_873 := ns_ NB873_879; replace BK873 := b5_ BK873 hb; clear hb hbox hg; obtain ⟨Ao35, co35, eo35⟩ := kS_ HO876.out; subst eo35; have hnb36 := NB879_859.out; have hnc36 := NB859_879.out; have hnb37 := NB879_869.out; have hnc37 := NB869_879.out; have hnb38 := NB879_873.out; have hnc38 := NB873_879.out; have hcz39_0 := c0_ BK879; have hfz39_0 := bF_ BK879.out 0))
 (try simp only [Act.put, sA_, sB_, sC_])
 go_cut [57] (fun v57 wc => ∃ (kq : Nat) (x57_13 : Bool), v57 = .bool x57_13 ∧ Aside0 (wF29.j0 kq a1 t867 t868 t877 t878 x57_13 l0_0 t864 t870 t874 = some r) ∧ Aside0 (kq ≤ k) ∧ Aside0 (Kd.R k60 60 wc w.heap.size (fun k_ => some k_ ≠ ((.slice Ao29 t870.length co29) : Value).ownBlock ∧ some k_ ≠ ((.slice Ao35 t874.length co35) : Value).ownBlock) (.slice Ao23 t864.length co23) t864) ∧ Aside0 (Kd.R k60 60 wc w.heap.size (fun k_ => some k_ ≠ ((.slice Ao23 t864.length co23) : Value).ownBlock ∧ some k_ ≠ ((.slice Ao35 t874.length co35) : Value).ownBlock) (.slice Ao29 t870.length co29) t870) ∧ Aside0 (Kd.R k60 60 wc w.heap.size (fun k_ => some k_ ≠ ((.slice Ao23 t864.length co23) : Value).ownBlock ∧ some k_ ≠ ((.slice Ao29 t870.length co29) : Value).ownBlock) (.slice Ao35 t874.length co35) t874) ∧ Aside0 (wc.heap[gb859]? = some (.cells #[(.slice A0_0 l0_0.length c0_0)] 24 (0, 0))) ∧ Aside0 (wc.heap[gb869]? = some (.cells #[(.slice Ao23 t864.length co23)] 30 (0, 0))) ∧ Aside0 (wc.heap[gb873]? = some (.cells #[(.slice Ao29 t870.length co29)] 30 (0, 0))) ∧ Aside0 (wc.heap[gb879]? = some (.cells #[(.slice Ao35 t874.length co35)] 30 (0, 0))) ∧ Aside0 (Below w.heap.size w wc))
 case first =>
  have H := HC14.out
  clear HC14
  replace H := oB_.mp H
  obtain ⟨t880, A400, H⟩ := H
  try dsimp only at H
  have A40 := aM_ A400
  clear A400
  by_cases c41 : t880 = true
  rotate_left
  ·
   replace c41 := Bool.eq_false_iff.mpr c41
   subst c41
   replace H : (wF29.j0 k a1 t867 t868 t877 t878 true l0_0 t864 t870 t874) = some r := by rw [if_neg (show ¬ (false = true) by decide)] at H; exact H
   have H' := aM_ H
   clear H
   have hnb59 := NB879_859.out
   have hnc59 := NB859_879.out
   have hnb60 := NB879_869.out
   have hnc60 := NB869_879.out
   have hnb61 := NB879_873.out
   have hnc61 := NB873_879.out
   have hcz62_0 := c0_ BK879
   have hfz62_0 := bF_ BK879.out 0
   have hnb63 := NB869_859.out
   have hnc63 := NB859_869.out
   have hnb64 := NB869_873.out
   have hnc64 := NB873_869.out
   have hcz65_0 := c0_ BK869
   have hfz65_0 := bF_ BK869.out 0
   go_wp2_with (first | (refine gs_ 46 Tryz.func12 #[.agg #[.slice Ao35 t874.length co35], .agg #[.slice Ao23 t864.length co23]] ?_; (with_reducible refine (wF32.calls k _ _ t874 _ _ t864 false _ ?side1 ?side2 ?side3 ?side4 A40.out).mono ?_); (case side1 => refine (kR_ (e := 60) (base := w.heap.size) (ok := fun k_ => (((True ∧ some k_ ≠ (.slice Ao20 t861.length co20 : Value).ownBlock) ∧ some k_ ≠ (.slice Ao23 t864.length co23 : Value).ownBlock) ∧ some k_ ≠ (.slice Ao29 t870.length co29 : Value).ownBlock)) (n := t874.length) (c := co35) ?_).2.2; exact (by exact (kM_ (kG_ (kT_ HO876.out BK879.out (by decide))) (fun _ h_ => h_.1)))); (case side2 => exact (kR_ HO876.out).2.1); (case side3 => refine (kR_ (e := 60) (base := w.heap.size) (ok := fun k_ => (((True ∧ some k_ ≠ (.slice Ao20 t861.length co20 : Value).ownBlock) ∧ some k_ ≠ (.slice Ao29 t870.length co29 : Value).ownBlock) ∧ some k_ ≠ (.slice Ao35 t874.length co35 : Value).ownBlock)) (n := t864.length) (c := co23) ?_).2.2; exact (by exact (kM_ (kG_ (kT_ HO866.out BK879.out (by decide))) (fun _ h_ => h_.1)))); (case side4 => exact (kR_ HO866.out).2.1); rintro e w66 ⟨rfl, hb⟩; refine ⟨_, rfl, ?_⟩; replace HO863 := aM_ (kB_ (by exact (kM_ (kG_ (kT_ HO863.out BK879.out (by decide))) (fun _ h_ => h_.1))) hb); replace HO866 := aM_ (kB_ (by exact (kM_ (kG_ (kT_ HO866.out BK879.out (by decide))) (fun _ h_ => h_.1))) hb); replace HO872 := aM_ (kB_ (by exact (kM_ (kG_ (kT_ HO872.out BK879.out (by decide))) (fun _ h_ => h_.1))) hb); replace HO876 := aM_ (kB_ (by exact (kM_ (kG_ (kT_ HO876.out BK879.out (by decide))) (fun _ h_ => h_.1))) hb); replace BK859 := aM_ (bB_ (g := gb859) (o := .cells #[.slice A0_0 l0_0.length c0_0] 24 (0, 0)) (by exact br_ NB859_879.out (BK859.out)) hb); replace BK869 := aM_ (bB_ (g := gb869) (o := .cells #[.slice Ao23 t864.length co23] 30 (0, 0)) (by exact br_ NB869_879.out (BK869.out)) hb); replace BK873 := aM_ (bB_ (g := gb873) (o := .cells #[.slice Ao29 t870.length co29] 30 (0, 0)) (by exact br_ NB873_879.out (BK873.out)) hb); replace BK879 := aM_ (bB_ (g := gb879) (o := .cells #[.slice Ao35 t874.length co35] 30 (0, 0)) (by refine bP_ (cs := #[.slice none 0 0]) ?_ 0 _ rfl; exact BK879.out) hb); replace HB := aM_ (bT_ (by repeat with_reducible first | exact HB.out | apply bA_ | apply bN_ | apply bD_ | refine bS_ ?_ (Aside0.out ‹_›)) hb); (try clear hb)))
   go_meet
   case rel => exact ⟨_, (true), (by rfl), H', ⟨by omega⟩, ⟨by exact kM_ HO866.out (fun _ hk => ⟨hk.1.2, hk.2⟩)⟩, ⟨by exact kM_ HO872.out (fun _ hk => ⟨hk.1.2, hk.2⟩)⟩, ⟨by exact kM_ HO876.out (fun _ hk => ⟨hk.1.2, hk.2⟩)⟩, ⟨BK859.out⟩, ⟨BK869.out⟩, ⟨BK873.out⟩, ⟨BK879.out⟩, ⟨HB.out⟩⟩
  subst c41
  rw [if_pos rfl] at H
  by_cases c42 : t877 = t867
  ·
   rw [if_pos c42] at H
   have c42b0 : (t877 == t867) = true := beq_iff_eq.mpr c42
   have c42b1 : (t877 != t867) = false := bne_eq_false_iff_eq.mpr c42
   clear c42
   (skip)
   have H' := aM_ H
   clear H
   have hnb43 := NB879_859.out
   have hnc43 := NB859_879.out
   have hnb44 := NB879_869.out
   have hnc44 := NB869_879.out
   have hnb45 := NB879_873.out
   have hnc45 := NB873_879.out
   have hcz46_0 := c0_ BK879
   have hfz46_0 := bF_ BK879.out 0
   have hnb47 := NB869_859.out
   have hnc47 := NB859_869.out
   have hnb48 := NB869_873.out
   have hnc48 := NB873_869.out
   have hcz49_0 := c0_ BK869
   have hfz49_0 := bF_ BK869.out 0
   go_wp2_with (first | (refine gs_ 46 Tryz.func12 #[.agg #[.slice Ao35 t874.length co35], .agg #[.slice Ao23 t864.length co23]] ?_; (with_reducible refine (wF32.calls k _ _ t874 _ _ t864 true _ ?side1 ?side2 ?side3 ?side4 A40.out).mono ?_); (case side1 => refine (kR_ (e := 60) (base := w.heap.size) (ok := fun k_ => (((True ∧ some k_ ≠ (.slice Ao20 t861.length co20 : Value).ownBlock) ∧ some k_ ≠ (.slice Ao23 t864.length co23 : Value).ownBlock) ∧ some k_ ≠ (.slice Ao29 t870.length co29 : Value).ownBlock)) (n := t874.length) (c := co35) ?_).2.2; exact (by exact (kM_ (kG_ (kT_ HO876.out BK879.out (by decide))) (fun _ h_ => h_.1)))); (case side2 => exact (kR_ HO876.out).2.1); (case side3 => refine (kR_ (e := 60) (base := w.heap.size) (ok := fun k_ => (((True ∧ some k_ ≠ (.slice Ao20 t861.length co20 : Value).ownBlock) ∧ some k_ ≠ (.slice Ao29 t870.length co29 : Value).ownBlock) ∧ some k_ ≠ (.slice Ao35 t874.length co35 : Value).ownBlock)) (n := t864.length) (c := co23) ?_).2.2; exact (by exact (kM_ (kG_ (kT_ HO866.out BK879.out (by decide))) (fun _ h_ => h_.1)))); (case side4 => exact (kR_ HO866.out).2.1); rintro e w50 ⟨rfl, hb⟩; refine ⟨_, rfl, ?_⟩; replace HO863 := aM_ (kB_ (by exact (kM_ (kG_ (kT_ HO863.out BK879.out (by decide))) (fun _ h_ => h_.1))) hb); replace HO866 := aM_ (kB_ (by exact (kM_ (kG_ (kT_ HO866.out BK879.out (by decide))) (fun _ h_ => h_.1))) hb); replace HO872 := aM_ (kB_ (by exact (kM_ (kG_ (kT_ HO872.out BK879.out (by decide))) (fun _ h_ => h_.1))) hb); replace HO876 := aM_ (kB_ (by exact (kM_ (kG_ (kT_ HO876.out BK879.out (by decide))) (fun _ h_ => h_.1))) hb); replace BK859 := aM_ (bB_ (g := gb859) (o := .cells #[.slice A0_0 l0_0.length c0_0] 24 (0, 0)) (by exact br_ NB859_879.out (BK859.out)) hb); replace BK869 := aM_ (bB_ (g := gb869) (o := .cells #[.slice Ao23 t864.length co23] 30 (0, 0)) (by exact br_ NB869_879.out (BK869.out)) hb); replace BK873 := aM_ (bB_ (g := gb873) (o := .cells #[.slice Ao29 t870.length co29] 30 (0, 0)) (by exact br_ NB873_879.out (BK873.out)) hb); replace BK879 := aM_ (bB_ (g := gb879) (o := .cells #[.slice Ao35 t874.length co35] 30 (0, 0)) (by refine bP_ (cs := #[.slice none 0 0]) ?_ 0 _ rfl; exact BK879.out) hb); replace HB := aM_ (bT_ (by repeat with_reducible first | exact HB.out | apply bA_ | apply bN_ | apply bD_ | refine bS_ ?_ (Aside0.out ‹_›)) hb); (try clear hb)))
   go_meet
   case rel => exact ⟨_, ((t878 != t868)), (by rfl), H', ⟨by omega⟩, ⟨by exact kM_ HO866.out (fun _ hk => ⟨hk.1.2, hk.2⟩)⟩, ⟨by exact kM_ HO872.out (fun _ hk => ⟨hk.1.2, hk.2⟩)⟩, ⟨by exact kM_ HO876.out (fun _ hk => ⟨hk.1.2, hk.2⟩)⟩, ⟨BK859.out⟩, ⟨BK869.out⟩, ⟨BK873.out⟩, ⟨BK879.out⟩, ⟨HB.out⟩⟩
  rw [if_neg c42] at H
  have c42b0 : (t877 == t867) = false := beq_eq_false_iff_ne.mpr c42
  have c42b1 : (t877 != t867) = true := bne_iff_ne.mpr c42
  (skip)
  have H' := aM_ H
  clear H
  have hnb51 := NB879_859.out
  have hnc51 := NB859_879.out
  have hnb52 := NB879_869.out
  have hnc52 := NB869_879.out
  have hnb53 := NB879_873.out
  have hnc53 := NB873_879.out
  have hcz54_0 := c0_ BK879
  have hfz54_0 := bF_ BK879.out 0
  have hnb55 := NB869_859.out
  have hnc55 := NB859_869.out
  have hnb56 := NB869_873.out
  have hnc56 := NB873_869.out
  have hcz57_0 := c0_ BK869
  have hfz57_0 := bF_ BK869.out 0
  go_wp2_with (first | (refine gs_ 46 Tryz.func12 #[.agg #[.slice Ao35 t874.length co35], .agg #[.slice Ao23 t864.length co23]] ?_; (with_reducible refine (wF32.calls k _ _ t874 _ _ t864 true _ ?side1 ?side2 ?side3 ?side4 A40.out).mono ?_); (case side1 => refine (kR_ (e := 60) (base := w.heap.size) (ok := fun k_ => (((True ∧ some k_ ≠ (.slice Ao20 t861.length co20 : Value).ownBlock) ∧ some k_ ≠ (.slice Ao23 t864.length co23 : Value).ownBlock) ∧ some k_ ≠ (.slice Ao29 t870.length co29 : Value).ownBlock)) (n := t874.length) (c := co35) ?_).2.2; exact (by exact (kM_ (kG_ (kT_ HO876.out BK879.out (by decide))) (fun _ h_ => h_.1)))); (case side2 => exact (kR_ HO876.out).2.1); (case side3 => refine (kR_ (e := 60) (base := w.heap.size) (ok := fun k_ => (((True ∧ some k_ ≠ (.slice Ao20 t861.length co20 : Value).ownBlock) ∧ some k_ ≠ (.slice Ao29 t870.length co29 : Value).ownBlock) ∧ some k_ ≠ (.slice Ao35 t874.length co35 : Value).ownBlock)) (n := t864.length) (c := co23) ?_).2.2; exact (by exact (kM_ (kG_ (kT_ HO866.out BK879.out (by decide))) (fun _ h_ => h_.1)))); (case side4 => exact (kR_ HO866.out).2.1); rintro e w58 ⟨rfl, hb⟩; refine ⟨_, rfl, ?_⟩; replace HO863 := aM_ (kB_ (by exact (kM_ (kG_ (kT_ HO863.out BK879.out (by decide))) (fun _ h_ => h_.1))) hb); replace HO866 := aM_ (kB_ (by exact (kM_ (kG_ (kT_ HO866.out BK879.out (by decide))) (fun _ h_ => h_.1))) hb); replace HO872 := aM_ (kB_ (by exact (kM_ (kG_ (kT_ HO872.out BK879.out (by decide))) (fun _ h_ => h_.1))) hb); replace HO876 := aM_ (kB_ (by exact (kM_ (kG_ (kT_ HO876.out BK879.out (by decide))) (fun _ h_ => h_.1))) hb); replace BK859 := aM_ (bB_ (g := gb859) (o := .cells #[.slice A0_0 l0_0.length c0_0] 24 (0, 0)) (by exact br_ NB859_879.out (BK859.out)) hb); replace BK869 := aM_ (bB_ (g := gb869) (o := .cells #[.slice Ao23 t864.length co23] 30 (0, 0)) (by exact br_ NB869_879.out (BK869.out)) hb); replace BK873 := aM_ (bB_ (g := gb873) (o := .cells #[.slice Ao29 t870.length co29] 30 (0, 0)) (by exact br_ NB873_879.out (BK873.out)) hb); replace BK879 := aM_ (bB_ (g := gb879) (o := .cells #[.slice Ao35 t874.length co35] 30 (0, 0)) (by refine bP_ (cs := #[.slice none 0 0]) ?_ 0 _ rfl; exact BK879.out) hb); replace HB := aM_ (bT_ (by repeat with_reducible first | exact HB.out | apply bA_ | apply bN_ | apply bD_ | refine bS_ ?_ (Aside0.out ‹_›)) hb); (try clear hb)))
  go_meet
  case rel => exact ⟨_, (true), (by rfl), H', ⟨by omega⟩, ⟨by exact kM_ HO866.out (fun _ hk => ⟨hk.1.2, hk.2⟩)⟩, ⟨by exact kM_ HO872.out (fun _ hk => ⟨hk.1.2, hk.2⟩)⟩, ⟨by exact kM_ HO876.out (fun _ hk => ⟨hk.1.2, hk.2⟩)⟩, ⟨BK859.out⟩, ⟨BK869.out⟩, ⟨BK873.out⟩, ⟨BK879.out⟩, ⟨HB.out⟩⟩
 clear HC14
 try clear p2
 try clear c3b0
 try clear c3b1
 try clear c6b0
 try clear c42b0
 try clear c42b1
 try clear hcz16_0
 try clear hcz18_0
 try clear hcz25_0
 try clear hcz26_0
 try clear hcz32_0
 try clear hcz39_0
 try clear hcz46_0
 try clear hcz49_0
 try clear hcz54_0
 try clear hcz57_0
 try clear hcz62_0
 try clear hcz65_0
 try clear hcz8_0
 try clear hfz16_0
 try clear hfz18_0
 try clear hfz25_0
 try clear hfz26_0
 try clear hfz32_0
 try clear hfz39_0
 try clear hfz46_0
 try clear hfz49_0
 try clear hfz54_0
 try clear hfz57_0
 try clear hfz62_0
 try clear hfz65_0
 try clear hfz8_0
 obtain ⟨kq, x57_13, rfl, HA, HJ13, HO_870000, HO_874000, HO_880000, BK859, BK869, BK873, BK879, HB⟩ := hcut
 cases kq with
 | zero => exact absurd HA.out (by simp [wF29.j0])
 | succ kj13 =>
  have H := HA.out
  clear HA
  simp only [wF29.j0] at H
  by_cases c67 : x57_13 = true
  ·
   subst c67
   rw [if_pos rfl] at H
   obtain rfl := Option.some.inj H
   go_wp2
   go_ret
   exact ⟨by rfl, by exact HB.out⟩
  replace c67 := Bool.eq_false_iff.mpr c67
  subst c67
  replace H : ((wF43.f kj13 l0_0).bind fun t881 => ((wF32.f kj13 t870 t881).bind fun t884 => (if t884 = true then ((wF36.f kj13 t870 1).bind fun bt885 => (if bt885.1 < 0 then (wF29.j1 kj13 a1 t867 t868 true l0_0 t864 t874) else ((wF32.f kj13 t874 t864).bind fun t887 => (if t887 = true then (if t877 = t867 then (wF29.j1 kj13 a1 t867 t868 (t878 != t868) l0_0 t864 t874) else (wF29.j1 kj13 a1 t867 t868 true l0_0 t864 t874)) else (wF29.j1 kj13 a1 t867 t868 true l0_0 t864 t874))))) else (some false)))) = some r := by rw [if_neg (show ¬ (false = true) by decide)] at H; exact H
  replace H := oB_.mp H
  obtain ⟨t881, A680, H⟩ := H
  try dsimp only at H
  have A68 := aM_ A680
  clear A680
  replace H := oB_.mp H
  obtain ⟨t884, A690, H⟩ := H
  try dsimp only at H
  have A69 := aM_ A690
  clear A690
  by_cases c70 : t884 = true
  rotate_left
  ·
   replace c70 := Bool.eq_false_iff.mpr c70
   subst c70
   replace H : (some false) = some r := by rw [if_neg (show ¬ (false = true) by decide)] at H; exact H
   obtain rfl := Option.some.inj H
   try go_wp2
   have n0_ := aM_ (k3_ HO_870000.out)
   have n1_ := aM_ (k3_ HO_874000.out)
   have n2_ := aM_ (k3_ HO_880000.out)
   have n3_ := aM_ (b1_ BK859.out)
   have n4_ := aM_ (b1_ BK869.out)
   have n5_ := aM_ (b1_ BK873.out)
   have n6_ := aM_ (b1_ BK879.out)
   have n7_ := aM_ (bD_ HB.out)
   clear HO_870000
   clear HO_874000
   clear HO_880000
   clear BK859
   clear BK869
   clear BK873
   clear BK879
   clear HB
   have HO_870000 := n0_
   have HO_874000 := n1_
   have HO_880000 := n2_
   have BK859 := n3_
   have BK869 := n4_
   have BK873 := n5_
   have BK879 := n6_
   have HB := n7_
   clear n0_ n1_ n2_ n3_ n4_ n5_ n6_ n7_
   refine start_ (n := 5) (S := fun w' => w'.cell? ⟨gb873, 0, none⟩ = some (.slice Ao29 t870.length co29) ∧ w'.cell? ⟨gb859, 0, none⟩ = some (.slice A0_0 l0_0.length c0_0)) (ds := []) #[fy, fy, fy, fy, fy] (by kernel_rfl) rfl rfl ⟨(bC_ BK873.out 0).trans rfl, (bC_ BK859.out 0).trans rfl⟩ (fun hHeld => ?_)
   generalize wc.drew = w207 at HO_870000 HO_874000 HO_880000 BK859 BK869 BK873 BK879 HB hHeld ⊢
   refine take_ (i := 0) (N := some 58) (v := ?_) (a' := ?_) #[ty, fy, fy, fy, fy] rfl rfl (by kernel_rfl) (fun _ _ _ h => h) (Or.inl ⟨by rfl, ?_⟩) hHeld ?_ ?_; rotate_left; (rintro w' ⟨s0, s1⟩; go_simp; with_reducible rfl); rotate_left; (simp only [Act.put, sA_, sB_, sC_, i6_, i3_]; rfl)
   refine take_ (i := 1) (N := some 59) (v := ?_) (a' := ?_) #[ty, ty, fy, fy, fy] rfl rfl (by kernel_rfl) (fun _ _ _ h => h) (Or.inl ⟨by rfl, ?_⟩) hHeld ?_ ?_; rotate_left; (rintro w' ⟨s0, s1⟩; go_simp; with_reducible rfl); rotate_left; (simp only [Act.put, sA_, sB_, sC_, i6_, i3_]; rfl)
   refine one_ (i := 2) (N := some 60) #[ty, ty, ty, fy, fy] rfl rfl (by kernel_rfl) (by decide) (fun K hK => ?_)
   refine goes_ Tryz.func10 (by kernel_rfl) rfl #[.agg #[.slice A0_0 l0_0.length c0_0]] (by rfl) rfl rfl (by (try simp only [sD_, sE_, sF_]); rfl) ?_
   with_reducible refine (wF43.calls kj13 _ _ l0_0 t881 _ ?side1 ?side2 A68.out).mono ?_
   (case side1 => repeat (first | exact (k4_ HR0_0.out HB.out) | with_reducible first | apply cA_ | apply cN_ | apply cD_))
   (case side2 => exact HC0_0.out)
   rintro e w208 ⟨v882, rfl, ho0, hb⟩
   refine ⟨_, rfl, ?_⟩
   have n0_ := aM_ (Kd.R_elder' HO_870000.out (Kd.R_base ho0) hb)
   have n1_ := aM_ (Kd.R_elder' HO_874000.out (Kd.R_base ho0) hb)
   have n2_ := aM_ (Kd.R_elder' HO_880000.out (Kd.R_base ho0) hb)
   have n3_ := aM_ (k5_ (Kd.R_new' (Kd.R_new' (Kd.R_new' ho0 (Kd.R_lt HO_870000.out)) (Kd.R_lt HO_874000.out)) (Kd.R_lt HO_880000.out)) (bZ_ HB.out))
   have n4_ := b5_ BK859 hb
   have n5_ := b5_ BK869 hb
   have n6_ := b5_ BK873 hb
   have n7_ := b5_ BK879 hb
   have n8_ := b4_ HB hb
   clear HO_870000
   clear HO_874000
   clear HO_880000
   clear BK859
   clear BK869
   clear BK873
   clear BK879
   clear HB
   have HO_870000 := n0_
   have HO_874000 := n1_
   have HO_880000 := n2_
   have HO883 := n3_
   have BK859 := n4_
   have BK869 := n5_
   have BK873 := n6_
   have BK879 := n7_
   have HB := n8_
   clear n0_ n1_ n2_ n3_ n4_ n5_ n6_ n7_ n8_
   (try clear hb)
   (try clear ho0)
   obtain ⟨Ao209, co209, eo209⟩ := kS_ HO883.out
   (subst eo209)
   refine hK.out _ _ ⟨(bC_ BK873.out 0).trans rfl, (bC_ BK859.out 0).trans rfl⟩ (fun hHeld => ?_)
   clear hK K
   refine norm_ (by show Act.put _ (some 60) _ = _; simp only [Act.put, sA_, sB_, sC_, i6_, i3_]; rfl) ?_
   refine one_ (i := 3) (N := some 61) #[ty, ty, ty, ty, fy] rfl rfl (by kernel_rfl) (by decide) (fun K hK => ?_)
   refine goes_ Tryz.func12 (by kernel_rfl) rfl #[.agg #[.slice Ao29 t870.length co29], .agg #[.slice Ao209 t881.length co209]] (by rfl) rfl rfl (by (try simp only [sD_, sE_, sF_]); rfl) ?_
   with_reducible refine (wF32.calls kj13 _ _ t870 _ _ t881 false _ ?side1 ?side2 ?side3 ?side4 A69.out).mono ?_
   (case side1 => repeat (first | exact (kR_ HO_874000.out).2.2 | with_reducible first | apply cA_ | apply cN_ | apply cD_))
   (case side2 => exact (kR_ HO_874000.out).2.1)
   (case side3 => repeat (first | exact (kR_ HO883.out).2.2 | with_reducible first | apply cA_ | apply cN_ | apply cD_))
   (case side4 => exact (kR_ HO883.out).2.1)
   rintro e w210 ⟨rfl, hb⟩
   refine ⟨_, rfl, ?_⟩
   have n0_ := k9_ HO_870000 hb
   have n1_ := k9_ HO_874000 hb
   have n2_ := k9_ HO_880000 hb
   have n3_ := k9_ HO883 hb
   have n4_ := b5_ BK859 hb
   have n5_ := b5_ BK869 hb
   have n6_ := b5_ BK873 hb
   have n7_ := b5_ BK879 hb
   have n8_ := b4_ HB hb
   clear HO_870000
   clear HO_874000
   clear HO_880000
   clear HO883
   clear BK859
   clear BK869
   clear BK873
   clear BK879
   clear HB
   have HO_870000 := n0_
   have HO_874000 := n1_
   have HO_880000 := n2_
   have HO883 := n3_
   have BK859 := n4_
   have BK869 := n5_
   have BK873 := n6_
   have BK879 := n7_
   have HB := n8_
   clear n0_ n1_ n2_ n3_ n4_ n5_ n6_ n7_ n8_
   (try clear hb)
   refine hK.out _ _ ⟨(bC_ BK873.out 0).trans rfl, (bC_ BK859.out 0).trans rfl⟩ (fun hHeld => ?_)
   clear hK K
   refine norm_ (by show Act.put _ (some 61) _ = _; simp only [Act.put, sA_, sB_, sC_, i6_, i3_]; rfl) ?_
   refine pure_ (i := 4) (N := some 62) (v := ?_) (a' := ?_) #[ty, ty, ty, ty, ty] rfl rfl (by kernel_rfl) (fun _ _ _ h => h) (Or.inl ⟨by rfl, ?_⟩) ?_ ?_; rotate_left; (intro w'; go_simp; with_reducible rfl); rotate_left; (simp only [Act.put, sA_, sB_, sC_, i6_, i3_]; rfl)
   refine done_ (by kernel_rfl) ?_
   try go_wp2
   go_ret
   exact ⟨by rfl, by exact HB.out⟩
  subst c70
  rw [if_pos rfl] at H
  replace H := oB_.mp H
  obtain ⟨⟨t885, t886⟩, A710, H⟩ := H
  try dsimp only at H
  have A71 := aM_ A710
  clear A710
  have HC72 := aM_ H
  clear H
  try go_wp2
  have n0_ := aM_ (k3_ HO_870000.out)
  have n1_ := aM_ (k3_ HO_874000.out)
  have n2_ := aM_ (k3_ HO_880000.out)
  have n3_ := aM_ (b1_ BK859.out)
  have n4_ := aM_ (b1_ BK869.out)
  have n5_ := aM_ (b1_ BK873.out)
  have n6_ := aM_ (b1_ BK879.out)
  have n7_ := aM_ (bD_ HB.out)
  clear HO_870000
  clear HO_874000
  clear HO_880000
  clear BK859
  clear BK869
  clear BK873
  clear BK879
  clear HB
  have HO_870000 := n0_
  have HO_874000 := n1_
  have HO_880000 := n2_
  have BK859 := n3_
  have BK869 := n4_
  have BK873 := n5_
  have BK879 := n6_
  have HB := n7_
  clear n0_ n1_ n2_ n3_ n4_ n5_ n6_ n7_
  refine start_ (n := 5) (S := fun w' => w'.cell? ⟨gb873, 0, none⟩ = some (.slice Ao29 t870.length co29) ∧ w'.cell? ⟨gb859, 0, none⟩ = some (.slice A0_0 l0_0.length c0_0)) (ds := []) #[fy, fy, fy, fy, fy] (by kernel_rfl) rfl rfl ⟨(bC_ BK873.out 0).trans rfl, (bC_ BK859.out 0).trans rfl⟩ (fun hHeld => ?_)
  generalize wc.drew = w73 at HO_870000 HO_874000 HO_880000 BK859 BK869 BK873 BK879 HB hHeld ⊢
  refine take_ (i := 0) (N := some 58) (v := ?_) (a' := ?_) #[ty, fy, fy, fy, fy] rfl rfl (by kernel_rfl) (fun _ _ _ h => h) (Or.inl ⟨by rfl, ?_⟩) hHeld ?_ ?_; rotate_left; (rintro w' ⟨s0, s1⟩; go_simp; with_reducible rfl); rotate_left; (simp only [Act.put, sA_, sB_, sC_, i6_, i3_]; rfl)
  refine take_ (i := 1) (N := some 59) (v := ?_) (a' := ?_) #[ty, ty, fy, fy, fy] rfl rfl (by kernel_rfl) (fun _ _ _ h => h) (Or.inl ⟨by rfl, ?_⟩) hHeld ?_ ?_; rotate_left; (rintro w' ⟨s0, s1⟩; go_simp; with_reducible rfl); rotate_left; (simp only [Act.put, sA_, sB_, sC_, i6_, i3_]; rfl)
  refine one_ (i := 2) (N := some 60) #[ty, ty, ty, fy, fy] rfl rfl (by kernel_rfl) (by decide) (fun K hK => ?_)
  refine goes_ Tryz.func10 (by kernel_rfl) rfl #[.agg #[.slice A0_0 l0_0.length c0_0]] (by rfl) rfl rfl (by (try simp only [sD_, sE_, sF_]); rfl) ?_
  with_reducible refine (wF43.calls kj13 _ _ l0_0 t881 _ ?side1 ?side2 A68.out).mono ?_
  (case side1 => repeat (first | exact (k4_ HR0_0.out HB.out) | with_reducible first | apply cA_ | apply cN_ | apply cD_))
  (case side2 => exact HC0_0.out)
  rintro e w74 ⟨v882, rfl, ho0, hb⟩
  refine ⟨_, rfl, ?_⟩
  have n0_ := aM_ (Kd.R_elder' HO_870000.out (Kd.R_base ho0) hb)
  have n1_ := aM_ (Kd.R_elder' HO_874000.out (Kd.R_base ho0) hb)
  have n2_ := aM_ (Kd.R_elder' HO_880000.out (Kd.R_base ho0) hb)
  have n3_ := aM_ (k5_ (Kd.R_new' (Kd.R_new' (Kd.R_new' ho0 (Kd.R_lt HO_870000.out)) (Kd.R_lt HO_874000.out)) (Kd.R_lt HO_880000.out)) (bZ_ HB.out))
  have n4_ := b5_ BK859 hb
  have n5_ := b5_ BK869 hb
  have n6_ := b5_ BK873 hb
  have n7_ := b5_ BK879 hb
  have n8_ := b4_ HB hb
  clear HO_870000
  clear HO_874000
  clear HO_880000
  clear BK859
  clear BK869
  clear BK873
  clear BK879
  clear HB
  have HO_870000 := n0_
  have HO_874000 := n1_
  have HO_880000 := n2_
  have HO883 := n3_
  have BK859 := n4_
  have BK869 := n5_
  have BK873 := n6_
  have BK879 := n7_
  have HB := n8_
  clear n0_ n1_ n2_ n3_ n4_ n5_ n6_ n7_ n8_
  (try clear hb)
  (try clear ho0)
  obtain ⟨Ao75, co75, eo75⟩ := kS_ HO883.out
  (subst eo75)
  refine hK.out _ _ ⟨(bC_ BK873.out 0).trans rfl, (bC_ BK859.out 0).trans rfl⟩ (fun hHeld => ?_)
  clear hK K
  refine norm_ (by show Act.put _ (some 60) _ = _; simp only [Act.put, sA_, sB_, sC_, i6_, i3_]; rfl) ?_
  refine one_ (i := 3) (N := some 61) #[ty, ty, ty, ty, fy] rfl rfl (by kernel_rfl) (by decide) (fun K hK => ?_)
  refine goes_ Tryz.func12 (by kernel_rfl) rfl #[.agg #[.slice Ao29 t870.length co29], .agg #[.slice Ao75 t881.length co75]] (by rfl) rfl rfl (by (try simp only [sD_, sE_, sF_]); rfl) ?_
  with_reducible refine (wF32.calls kj13 _ _ t870 _ _ t881 true _ ?side1 ?side2 ?side3 ?side4 A69.out).mono ?_
  (case side1 => repeat (first | exact (kR_ HO_874000.out).2.2 | with_reducible first | apply cA_ | apply cN_ | apply cD_))
  (case side2 => exact (kR_ HO_874000.out).2.1)
  (case side3 => repeat (first | exact (kR_ HO883.out).2.2 | with_reducible first | apply cA_ | apply cN_ | apply cD_))
  (case side4 => exact (kR_ HO883.out).2.1)
  rintro e w76 ⟨rfl, hb⟩
  refine ⟨_, rfl, ?_⟩
  have n0_ := k9_ HO_870000 hb
  have n1_ := k9_ HO_874000 hb
  have n2_ := k9_ HO_880000 hb
  have n3_ := k9_ HO883 hb
  have n4_ := b5_ BK859 hb
  have n5_ := b5_ BK869 hb
  have n6_ := b5_ BK873 hb
  have n7_ := b5_ BK879 hb
  have n8_ := b4_ HB hb
  clear HO_870000
  clear HO_874000
  clear HO_880000
  clear HO883
  clear BK859
  clear BK869
  clear BK873
  clear BK879
  clear HB
  have HO_870000 := n0_
  have HO_874000 := n1_
  have HO_880000 := n2_
  have HO883 := n3_
  have BK859 := n4_
  have BK869 := n5_
  have BK873 := n6_
  have BK879 := n7_
  have HB := n8_
  clear n0_ n1_ n2_ n3_ n4_ n5_ n6_ n7_ n8_
  (try clear hb)
  refine hK.out _ _ ⟨(bC_ BK873.out 0).trans rfl, (bC_ BK859.out 0).trans rfl⟩ (fun hHeld => ?_)
  clear hK K
  refine norm_ (by show Act.put _ (some 61) _ = _; simp only [Act.put, sA_, sB_, sC_, i6_, i3_]; rfl) ?_
  refine pure_ (i := 4) (N := some 62) (v := ?_) (a' := ?_) #[ty, ty, ty, ty, ty] rfl rfl (by kernel_rfl) (fun _ _ _ h => h) (Or.inl ⟨by rfl, ?_⟩) ?_ ?_; rotate_left; (intro w'; go_simp; with_reducible rfl); rotate_left; (simp only [Act.put, sA_, sB_, sC_, i6_, i3_]; rfl)
  refine done_ (by kernel_rfl) ?_
  have hnb77 := NB873_859.out
  have hnc77 := NB859_873.out
  have hnb78 := NB873_869.out
  have hnc78 := NB869_873.out
  have hnb79 := NB873_879.out
  have hnc79 := NB879_873.out
  have hcz80_0 := c0_ BK873
  have hfz80_0 := bF_ BK873.out 0
  go_upto_region 16 with (first | (refine gs_ 65 Tryz.func16 #[.agg #[.slice Ao29 t870.length co29], .int .i64 1] ?_; (with_reducible refine (wF36.calls kj13 (fun k_ => some k_ = (.slice Ao29 t870.length co29 : Value).ownBlock) (.slice Ao29 t870.length co29) t870 1 t885 t886 w _ HB.out ?side2 A71.out).mono ?_); (case side2 => exact Kd.R_tight rfl HO_874000.out); rintro e w81 ⟨rfl, hy0, hb, hkp⟩; refine ⟨_, rfl, ?_⟩; replace HO_870000 := aM_ (kM_ (ok' := fun k_ => some k_ ≠ (.slice Ao29 t870.length co29 : Value).ownBlock ∧ some k_ ≠ (.slice Ao35 t874.length co35 : Value).ownBlock ∧ some k_ ≠ (.slice Ao75 t881.length co75 : Value).ownBlock) (Kd.R_keptB (HO_870000.out) hkp (fun k_ hk_ hs_ => (hk_.1.1) hs_)) (fun k_ hk_ => ⟨hk_.1.1.1, hk_.1.1.2, hk_.1.2⟩)); replace HO_880000 := aM_ (kM_ (ok' := fun k_ => some k_ ≠ (.slice Ao23 t864.length co23 : Value).ownBlock ∧ some k_ ≠ (.slice Ao29 t870.length co29 : Value).ownBlock ∧ some k_ ≠ (.slice Ao75 t881.length co75 : Value).ownBlock) (Kd.R_keptB (HO_880000.out) hkp (fun k_ hk_ hs_ => (hk_.1.2) hs_)) (fun k_ hk_ => ⟨hk_.1.1.1, hk_.1.1.2, hk_.1.2⟩)); replace BK859 := aM_ (blk_kept BK859.out hkp (fun hs_ => (fun e_ => (k6_ HO_874000.out BK859.out (by decide)) e_) hs_)); replace BK869 := aM_ (blk_kept BK869.out hkp (fun hs_ => (fun e_ => (k6_ HO_874000.out BK869.out (by decide)) e_) hs_)); replace BK873 := aM_ (blk_kept BK873.out hkp (fun hs_ => (fun e_ => (k6_ HO_874000.out BK873.out (by decide)) e_) hs_)); replace BK879 := aM_ (blk_kept BK879.out hkp (fun hs_ => (fun e_ => (k6_ HO_874000.out BK879.out (by decide)) e_) hs_)); replace HO_874000 := aM_ (Kd.R_reok rfl hy0 (fun k_ e_ => HO_874000.out.1 k_ e_)); replace HO883 := aM_ (kM_ (ok' := fun k_ => some k_ ≠ (.slice Ao23 t864.length co23 : Value).ownBlock ∧ some k_ ≠ (.slice Ao29 t870.length co29 : Value).ownBlock ∧ some k_ ≠ (.slice Ao35 t874.length co35 : Value).ownBlock) (Kd.R_keptB (HO883.out) hkp (fun k_ hk_ hs_ => (hk_.1.2) hs_)) (fun k_ hk_ => ⟨hk_.1.1.1.2, hk_.1.1.2, hk_.1.2⟩)); replace HB := aM_ (hb); (try clear hb); (try clear hkp); (try clear hy0)))
  (try simp only [Act.put, sA_, sB_, sC_])
  go_cut [83] (fun v83 wc => ∃ (kq : Nat) (x83_71 : Bool), v83 = .bool x83_71 ∧ Aside0 (wF29.j1 kq a1 t867 t868 x83_71 l0_0 t864 t874 = some r) ∧ Aside0 (kq ≤ kj13) ∧ Aside0 (Kd.R k60 60 wc w.heap.size (fun k_ => some k_ ≠ ((.slice Ao29 t870.length co29) : Value).ownBlock ∧ some k_ ≠ ((.slice Ao35 t874.length co35) : Value).ownBlock) (.slice Ao23 t864.length co23) t864) ∧ Aside0 (Kd.R k60 60 wc w.heap.size (fun k_ => some k_ ≠ ((.slice Ao23 t864.length co23) : Value).ownBlock ∧ some k_ ≠ ((.slice Ao35 t874.length co35) : Value).ownBlock) (.slice Ao29 t870.length co29) t886) ∧ Aside0 (Kd.R k60 60 wc w.heap.size (fun k_ => some k_ ≠ ((.slice Ao23 t864.length co23) : Value).ownBlock ∧ some k_ ≠ ((.slice Ao29 t870.length co29) : Value).ownBlock) (.slice Ao35 t874.length co35) t874) ∧ Aside0 (wc.heap[gb859]? = some (.cells #[(.slice A0_0 l0_0.length c0_0)] 24 (0, 0))) ∧ Aside0 (wc.heap[gb869]? = some (.cells #[(.slice Ao23 t864.length co23)] 30 (0, 0))) ∧ Aside0 (wc.heap[gb873]? = some (.cells #[(.slice Ao29 t870.length co29)] 30 (0, 0))) ∧ Aside0 (wc.heap[gb879]? = some (.cells #[(.slice Ao35 t874.length co35)] 30 (0, 0))) ∧ Aside0 (Below w.heap.size w wc))
  case first =>
   have H := HC72.out
   clear HC72
   by_cases c82 : t885 < 0
   ·
    rw [if_pos c82] at H
    have c82b0 := dT_ c82
    clear c82
    (skip)
    have H' := aM_ H
    clear H
    go_wp2
    go_meet
    case rel => exact ⟨_, (true), (by rfl), H', ⟨by have := HJ13.out; omega⟩, ⟨by exact kM_ HO_870000.out (fun _ hk => ⟨hk.1, hk.2.1⟩)⟩, ⟨by exact kM_ HO_874000.out (fun _ hk => ⟨hk.1.1, hk.1.2⟩)⟩, ⟨by exact kM_ HO_880000.out (fun _ hk => ⟨hk.1, hk.2.1⟩)⟩, ⟨BK859.out⟩, ⟨BK869.out⟩, ⟨BK873.out⟩, ⟨BK879.out⟩, ⟨HB.out⟩⟩
   rw [if_neg c82] at H
   have c82b0 := dF_ c82
   clear c82
   (skip)
   replace H := oB_.mp H
   obtain ⟨t887, A830, H⟩ := H
   try dsimp only at H
   have A83 := aM_ A830
   clear A830
   by_cases c84 : t887 = true
   rotate_left
   ·
    replace c84 := Bool.eq_false_iff.mpr c84
    subst c84
    replace H : (wF29.j1 kj13 a1 t867 t868 true l0_0 t864 t874) = some r := by rw [if_neg (show ¬ (false = true) by decide)] at H; exact H
    have H' := aM_ H
    clear H
    have hnb102 := NB879_859.out
    have hnc102 := NB859_879.out
    have hnb103 := NB879_869.out
    have hnc103 := NB869_879.out
    have hnb104 := NB879_873.out
    have hnc104 := NB873_879.out
    have hcz105_0 := c0_ BK879
    have hfz105_0 := bF_ BK879.out 0
    have hnb106 := NB869_859.out
    have hnc106 := NB859_869.out
    have hnb107 := NB869_873.out
    have hnc107 := NB873_869.out
    have hcz108_0 := c0_ BK869
    have hfz108_0 := bF_ BK869.out 0
    go_wp2_with (first | (go_at_call 12; (with_reducible refine (wF32.calls kj13 _ _ t874 _ _ t864 false _ ?side1 ?side2 ?side3 ?side4 A83.out).mono ?_); (case side1 => repeat (first | exact (kR_ HO_880000.out).2.2 | with_reducible first | apply cA_ | apply cN_ | apply cD_)); (case side2 => exact (kR_ HO_880000.out).2.1); (case side3 => repeat (first | exact (kR_ HO_870000.out).2.2 | with_reducible first | apply cA_ | apply cN_ | apply cD_)); (case side4 => exact (kR_ HO_870000.out).2.1); rintro e w109 ⟨rfl, hb⟩; replace HO_870000 := k9_ HO_870000 hb; replace HO_874000 := k9_ HO_874000 hb; replace HO_880000 := k9_ HO_880000 hb; replace HO883 := k9_ HO883 hb; replace BK859 := b5_ BK859 hb; replace BK869 := b5_ BK869 hb; replace BK873 := b5_ BK873 hb; replace BK879 := b5_ BK879 hb; replace HB := b4_ HB hb; (try clear hb)))
    go_meet
    case rel => exact ⟨_, (true), (by rfl), H', ⟨by have := HJ13.out; omega⟩, ⟨by exact kM_ HO_870000.out (fun _ hk => ⟨hk.1, hk.2.1⟩)⟩, ⟨by exact kM_ HO_874000.out (fun _ hk => ⟨hk.1.1, hk.1.2⟩)⟩, ⟨by exact kM_ HO_880000.out (fun _ hk => ⟨hk.1, hk.2.1⟩)⟩, ⟨BK859.out⟩, ⟨BK869.out⟩, ⟨BK873.out⟩, ⟨BK879.out⟩, ⟨HB.out⟩⟩
   subst c84
   rw [if_pos rfl] at H
   by_cases c85 : t877 = t867
   ·
    rw [if_pos c85] at H
    have c85b0 : (t877 == t867) = true := beq_iff_eq.mpr c85
    have c85b1 : (t877 != t867) = false := bne_eq_false_iff_eq.mpr c85
    clear c85
    have H' := aM_ H
    clear H
    have hnb86 := NB879_859.out
    have hnc86 := NB859_879.out
    have hnb87 := NB879_869.out
    have hnc87 := NB869_879.out
    have hnb88 := NB879_873.out
    have hnc88 := NB873_879.out
    have hcz89_0 := c0_ BK879
    have hfz89_0 := bF_ BK879.out 0
    have hnb90 := NB869_859.out
    have hnc90 := NB859_869.out
    have hnb91 := NB869_873.out
    have hnc91 := NB873_869.out
    have hcz92_0 := c0_ BK869
    have hfz92_0 := bF_ BK869.out 0
    go_wp2_with (first | (go_at_call 12; (with_reducible refine (wF32.calls kj13 _ _ t874 _ _ t864 true _ ?side1 ?side2 ?side3 ?side4 A83.out).mono ?_); (case side1 => repeat (first | exact (kR_ HO_880000.out).2.2 | with_reducible first | apply cA_ | apply cN_ | apply cD_)); (case side2 => exact (kR_ HO_880000.out).2.1); (case side3 => repeat (first | exact (kR_ HO_870000.out).2.2 | with_reducible first | apply cA_ | apply cN_ | apply cD_)); (case side4 => exact (kR_ HO_870000.out).2.1); rintro e w93 ⟨rfl, hb⟩; replace HO_870000 := k9_ HO_870000 hb; replace HO_874000 := k9_ HO_874000 hb; replace HO_880000 := k9_ HO_880000 hb; replace HO883 := k9_ HO883 hb; replace BK859 := b5_ BK859 hb; replace BK869 := b5_ BK869 hb; replace BK873 := b5_ BK873 hb; replace BK879 := b5_ BK879 hb; replace HB := b4_ HB hb; (try clear hb)))
    go_meet
    case rel => exact ⟨_, ((t878 != t868)), (by rfl), H', ⟨by have := HJ13.out; omega⟩, ⟨by exact kM_ HO_870000.out (fun _ hk => ⟨hk.1, hk.2.1⟩)⟩, ⟨by exact kM_ HO_874000.out (fun _ hk => ⟨hk.1.1, hk.1.2⟩)⟩, ⟨by exact kM_ HO_880000.out (fun _ hk => ⟨hk.1, hk.2.1⟩)⟩, ⟨BK859.out⟩, ⟨BK869.out⟩, ⟨BK873.out⟩, ⟨BK879.out⟩, ⟨HB.out⟩⟩
   rw [if_neg c85] at H
   have c85b0 : (t877 == t867) = false := beq_eq_false_iff_ne.mpr c85
   have c85b1 : (t877 != t867) = true := bne_iff_ne.mpr c85
   have H' := aM_ H
   clear H
   have hnb94 := NB879_859.out
   have hnc94 := NB859_879.out
   have hnb95 := NB879_869.out
   have hnc95 := NB869_879.out
   have hnb96 := NB879_873.out
   have hnc96 := NB873_879.out
   have hcz97_0 := c0_ BK879
   have hfz97_0 := bF_ BK879.out 0
   have hnb98 := NB869_859.out
   have hnc98 := NB859_869.out
   have hnb99 := NB869_873.out
   have hnc99 := NB873_869.out
   have hcz100_0 := c0_ BK869
   have hfz100_0 := bF_ BK869.out 0
   go_wp2_with (first | (go_at_call 12; (with_reducible refine (wF32.calls kj13 _ _ t874 _ _ t864 true _ ?side1 ?side2 ?side3 ?side4 A83.out).mono ?_); (case side1 => repeat (first | exact (kR_ HO_880000.out).2.2 | with_reducible first | apply cA_ | apply cN_ | apply cD_)); (case side2 => exact (kR_ HO_880000.out).2.1); (case side3 => repeat (first | exact (kR_ HO_870000.out).2.2 | with_reducible first | apply cA_ | apply cN_ | apply cD_)); (case side4 => exact (kR_ HO_870000.out).2.1); rintro e w101 ⟨rfl, hb⟩; replace HO_870000 := k9_ HO_870000 hb; replace HO_874000 := k9_ HO_874000 hb; replace HO_880000 := k9_ HO_880000 hb; replace HO883 := k9_ HO883 hb; replace BK859 := b5_ BK859 hb; replace BK869 := b5_ BK869 hb; replace BK873 := b5_ BK873 hb; replace BK879 := b5_ BK879 hb; replace HB := b4_ HB hb; (try clear hb)))
   go_meet
   case rel => exact ⟨_, (true), (by rfl), H', ⟨by have := HJ13.out; omega⟩, ⟨by exact kM_ HO_870000.out (fun _ hk => ⟨hk.1, hk.2.1⟩)⟩, ⟨by exact kM_ HO_874000.out (fun _ hk => ⟨hk.1.1, hk.1.2⟩)⟩, ⟨by exact kM_ HO_880000.out (fun _ hk => ⟨hk.1, hk.2.1⟩)⟩, ⟨BK859.out⟩, ⟨BK869.out⟩, ⟨BK873.out⟩, ⟨BK879.out⟩, ⟨HB.out⟩⟩
  clear HC72
  try clear p2
  try clear c3b0
  try clear c3b1
  try clear c6b0
  try clear c42b0
  try clear c42b1
  try clear c82b0
  try clear c85b0
  try clear c85b1
  try clear hcz100_0
  try clear hcz105_0
  try clear hcz108_0
  try clear hcz16_0
  try clear hcz18_0
  try clear hcz25_0
  try clear hcz26_0
  try clear hcz32_0
  try clear hcz39_0
  try clear hcz46_0
  try clear hcz49_0
  try clear hcz54_0
  try clear hcz57_0
  try clear hcz62_0
  try clear hcz65_0
  try clear hcz80_0
  try clear hcz89_0
  try clear hcz8_0
  try clear hcz92_0
  try clear hcz97_0
  try clear hfz100_0
  try clear hfz105_0
  try clear hfz108_0
  try clear hfz16_0
  try clear hfz18_0
  try clear hfz25_0
  try clear hfz26_0
  try clear hfz32_0
  try clear hfz39_0
  try clear hfz46_0
  try clear hfz49_0
  try clear hfz54_0
  try clear hfz57_0
  try clear hfz62_0
  try clear hfz65_0
  try clear hfz80_0
  try clear hfz89_0
  try clear hfz8_0
  try clear hfz92_0
  try clear hfz97_0
  try clear p2
  obtain ⟨kq, x83_71, rfl, HA, HJ71, HO_870000, HO_874000, HO_880000, BK859, BK869, BK873, BK879, HB⟩ := hcut
  have hl874000_71 := (kR_ HO_874000.out).1
  rw [hl874000_71] at HO_874000
  (try simp only [hl874000_71])
  (try simp only [hl874000_71] at BK859)
  (try simp only [hl874000_71] at BK869)
  (try simp only [hl874000_71] at BK873)
  (try simp only [hl874000_71] at BK879)
  (try simp only [hl874000_71] at HO_870000)
  (try simp only [hl874000_71] at HO_880000)
  cases kq with
  | zero => exact absurd HA.out (by simp [wF29.j1])
  | succ kj71 =>
   have H := HA.out
   clear HA
   simp only [wF29.j1] at H
   by_cases c110 : x83_71 = true
   ·
    subst c110
    rw [if_pos rfl] at H
    obtain rfl := Option.some.inj H
    go_wp2
    go_ret
    exact ⟨by rfl, by exact HB.out⟩
   replace c110 := Bool.eq_false_iff.mpr c110
   subst c110
   replace H : ((wF36.f kj71 t874 1).bind fun bt888 => ((wF34.f kj71 bt888.2 1).bind fun t890 => (if t890 < 0 then (some false) else (if t890 = bt888.1 then ((wF43.f kj71 l0_0).bind fun t891 => ((iF7.f kj71 t891 a1).bind fun bt894 => ((wF32.f kj71 bt894.1 t864).bind fun t900 => (if t900 = true then (if bt894.2.1 = t867 then (wF29.j2 kj71 bt888.1 (bt894.2.2 != t868) bt888.2) else (wF29.j2 kj71 bt888.1 true bt888.2)) else (wF29.j2 kj71 bt888.1 true bt888.2))))) else (some false))))) = some r := by rw [if_neg (show ¬ (false = true) by decide)] at H; exact H
   replace H := oB_.mp H
   obtain ⟨⟨t888, t889⟩, A1110, H⟩ := H
   try dsimp only at H
   have A111 := aM_ A1110
   clear A1110
   replace H := oB_.mp H
   obtain ⟨t890, A1120, H⟩ := H
   try dsimp only at H
   have A112 := aM_ A1120
   clear A1120
   by_cases c113 : t890 < 0
   ·
    rw [if_pos c113] at H
    have c113b0 := dT_ c113
    clear c113
    obtain rfl := Option.some.inj H
    have hnb114 := NB879_859.out
    have hnc114 := NB859_879.out
    have hnb115 := NB879_869.out
    have hnc115 := NB869_879.out
    have hnb116 := NB879_873.out
    have hnc116 := NB873_879.out
    have hcz117_0 := c0_ BK879
    have hfz117_0 := bF_ BK879.out 0
    go_wp2_with (first | (refine gs_ 86 Tryz.func16 #[.agg #[.slice Ao35 t874.length co35], .int .i64 1] ?_; (with_reducible refine (wF36.calls kj71 (fun k_ => some k_ = (.slice Ao35 t874.length co35 : Value).ownBlock) (.slice Ao35 t874.length co35) t874 1 t888 t889 w _ HB.out ?side2 A111.out).mono ?_); (case side2 => exact Kd.R_tight rfl HO_880000.out); rintro e w118 ⟨rfl, hy0, hb, hkp⟩; refine ⟨_, rfl, ?_⟩; replace HO_870000 := aM_ (kM_ (ok' := fun k_ => some k_ ≠ (.slice Ao29 t886.length co29 : Value).ownBlock ∧ some k_ ≠ (.slice Ao35 t874.length co35 : Value).ownBlock) (Kd.R_keptB (HO_870000.out) hkp (fun k_ hk_ hs_ => (hk_.2) hs_)) (fun k_ hk_ => ⟨hk_.1.1, hk_.1.2⟩)); replace HO_874000 := aM_ (kM_ (ok' := fun k_ => some k_ ≠ (.slice Ao23 t864.length co23 : Value).ownBlock ∧ some k_ ≠ (.slice Ao35 t874.length co35 : Value).ownBlock) (Kd.R_keptB (HO_874000.out) hkp (fun k_ hk_ hs_ => (hk_.2) hs_)) (fun k_ hk_ => ⟨hk_.1.1, hk_.1.2⟩)); replace BK859 := aM_ (blk_kept BK859.out hkp (fun hs_ => (fun e_ => (k6_ HO_880000.out BK859.out (by decide)) e_) hs_)); replace BK869 := aM_ (blk_kept BK869.out hkp (fun hs_ => (fun e_ => (k6_ HO_880000.out BK869.out (by decide)) e_) hs_)); replace BK873 := aM_ (blk_kept BK873.out hkp (fun hs_ => (fun e_ => (k6_ HO_880000.out BK873.out (by decide)) e_) hs_)); replace BK879 := aM_ (blk_kept BK879.out hkp (fun hs_ => (fun e_ => (k6_ HO_880000.out BK879.out (by decide)) e_) hs_)); replace HO_880000 := aM_ (Kd.R_reok rfl hy0 (fun k_ e_ => HO_880000.out.1 k_ e_)); replace HB := aM_ (hb); (try clear hb); (try clear hkp); (try clear hy0); have hcz119_0 := c0_ BK879; have hfz119_0 := bF_ BK879.out 0) | ((with_reducible refine gC_ (f := 23) rfl ?_); refine goesL_ (some 89) rfl rfl Tryz.func23 (by kernel_rfl) rfl #[.agg #[.slice Ao35 t889.length co35], .int .i64 1] rfl (by (try simp only [sD_, sE_, sF_]); (rw [show t889.length = t874.length from (kR_ HO_880000.out).1.symm] <;> rfl)) ?_; (with_reducible refine (wF34.calls kj71 _ _ t889 1 t890 _ ?side1 ?side2 A112.out).mono ?_); (case side1 => repeat (first | exact (kR_ HO_880000.out).2.2 | with_reducible first | apply cA_ | apply cN_ | apply cD_)); (case side2 => rw [show t889.length = t874.length from (kR_ HO_880000.out).1.symm]; exact (kR_ HO_880000.out).2.1); rintro e w120 ⟨rfl, hb⟩; refine ⟨_, rfl, ?_⟩; replace HO_870000 := k9_ HO_870000 hb; replace HO_874000 := k9_ HO_874000 hb; replace HO_880000 := k9_ HO_880000 hb; replace BK859 := b5_ BK859 hb; replace BK869 := b5_ BK869 hb; replace BK873 := b5_ BK873 hb; replace BK879 := b5_ BK879 hb; replace HB := b4_ HB hb; (try clear hb)))
    go_ret
    exact ⟨by rfl, by exact HB.out⟩
   rw [if_neg c113] at H
   have c113b0 := dF_ c113
   clear c113
   by_cases c121 : t890 = t888
   rotate_left
   ·
    rw [if_neg c121] at H
    have c121b0 : (t890 == t888) = false := beq_eq_false_iff_ne.mpr c121
    have c121b1 : (t890 != t888) = true := bne_iff_ne.mpr c121
    obtain rfl := Option.some.inj H
    have hnb200 := NB879_859.out
    have hnc200 := NB859_879.out
    have hnb201 := NB879_869.out
    have hnc201 := NB869_879.out
    have hnb202 := NB879_873.out
    have hnc202 := NB873_879.out
    have hcz203_0 := c0_ BK879
    have hfz203_0 := bF_ BK879.out 0
    go_wp2_with (first | (refine gs_ 86 Tryz.func16 #[.agg #[.slice Ao35 t874.length co35], .int .i64 1] ?_; (with_reducible refine (wF36.calls kj71 (fun k_ => some k_ = (.slice Ao35 t874.length co35 : Value).ownBlock) (.slice Ao35 t874.length co35) t874 1 t888 t889 w _ HB.out ?side2 A111.out).mono ?_); (case side2 => exact Kd.R_tight rfl HO_880000.out); rintro e w204 ⟨rfl, hy0, hb, hkp⟩; refine ⟨_, rfl, ?_⟩; replace HO_870000 := aM_ (kM_ (ok' := fun k_ => some k_ ≠ (.slice Ao29 t886.length co29 : Value).ownBlock ∧ some k_ ≠ (.slice Ao35 t874.length co35 : Value).ownBlock) (Kd.R_keptB (HO_870000.out) hkp (fun k_ hk_ hs_ => (hk_.2) hs_)) (fun k_ hk_ => ⟨hk_.1.1, hk_.1.2⟩)); replace HO_874000 := aM_ (kM_ (ok' := fun k_ => some k_ ≠ (.slice Ao23 t864.length co23 : Value).ownBlock ∧ some k_ ≠ (.slice Ao35 t874.length co35 : Value).ownBlock) (Kd.R_keptB (HO_874000.out) hkp (fun k_ hk_ hs_ => (hk_.2) hs_)) (fun k_ hk_ => ⟨hk_.1.1, hk_.1.2⟩)); replace BK859 := aM_ (blk_kept BK859.out hkp (fun hs_ => (fun e_ => (k6_ HO_880000.out BK859.out (by decide)) e_) hs_)); replace BK869 := aM_ (blk_kept BK869.out hkp (fun hs_ => (fun e_ => (k6_ HO_880000.out BK869.out (by decide)) e_) hs_)); replace BK873 := aM_ (blk_kept BK873.out hkp (fun hs_ => (fun e_ => (k6_ HO_880000.out BK873.out (by decide)) e_) hs_)); replace BK879 := aM_ (blk_kept BK879.out hkp (fun hs_ => (fun e_ => (k6_ HO_880000.out BK879.out (by decide)) e_) hs_)); replace HO_880000 := aM_ (Kd.R_reok rfl hy0 (fun k_ e_ => HO_880000.out.1 k_ e_)); replace HB := aM_ (hb); (try clear hb); (try clear hkp); (try clear hy0); have hcz205_0 := c0_ BK879; have hfz205_0 := bF_ BK879.out 0) | ((with_reducible refine gC_ (f := 23) rfl ?_); refine goesL_ (some 89) rfl rfl Tryz.func23 (by kernel_rfl) rfl #[.agg #[.slice Ao35 t889.length co35], .int .i64 1] rfl (by (try simp only [sD_, sE_, sF_]); (rw [show t889.length = t874.length from (kR_ HO_880000.out).1.symm] <;> rfl)) ?_; (with_reducible refine (wF34.calls kj71 _ _ t889 1 t890 _ ?side1 ?side2 A112.out).mono ?_); (case side1 => repeat (first | exact (kR_ HO_880000.out).2.2 | with_reducible first | apply cA_ | apply cN_ | apply cD_)); (case side2 => rw [show t889.length = t874.length from (kR_ HO_880000.out).1.symm]; exact (kR_ HO_880000.out).2.1); rintro e w206 ⟨rfl, hb⟩; refine ⟨_, rfl, ?_⟩; replace HO_870000 := k9_ HO_870000 hb; replace HO_874000 := k9_ HO_874000 hb; replace HO_880000 := k9_ HO_880000 hb; replace BK859 := b5_ BK859 hb; replace BK869 := b5_ BK869 hb; replace BK873 := b5_ BK873 hb; replace BK879 := b5_ BK879 hb; replace HB := b4_ HB hb; (try clear hb)))
    go_ret
    exact ⟨by rfl, by exact HB.out⟩
   rw [if_pos c121] at H
   have c121b0 : (t890 == t888) = true := beq_iff_eq.mpr c121
   have c121b1 : (t890 != t888) = false := bne_eq_false_iff_eq.mpr c121
   clear c121
   replace H := oB_.mp H
   obtain ⟨t891, A1220, H⟩ := H
   try dsimp only at H
   have A122 := aM_ A1220
   clear A1220
   replace H := oB_.mp H
   obtain ⟨⟨t894, t897, t898⟩, A1230, H⟩ := H
   try dsimp only at H
   have A123 := aM_ A1230
   clear A1230
   have HC124 := aM_ H
   clear H
   have hnb125 := NB879_859.out
   have hnc125 := NB859_879.out
   have hnb126 := NB879_869.out
   have hnc126 := NB869_879.out
   have hnb127 := NB879_873.out
   have hnc127 := NB873_879.out
   have hcz128_0 := c0_ BK879
   have hfz128_0 := bF_ BK879.out 0
   go_upto_region 27 with (first | (refine gs_ 86 Tryz.func16 #[.agg #[.slice Ao35 t874.length co35], .int .i64 1] ?_; (with_reducible refine (wF36.calls kj71 (fun k_ => some k_ = (.slice Ao35 t874.length co35 : Value).ownBlock) (.slice Ao35 t874.length co35) t874 1 t888 t889 w _ HB.out ?side2 A111.out).mono ?_); (case side2 => exact Kd.R_tight rfl HO_880000.out); rintro e w129 ⟨rfl, hy0, hb, hkp⟩; refine ⟨_, rfl, ?_⟩; replace HO_870000 := aM_ (kM_ (ok' := fun k_ => some k_ ≠ (.slice Ao29 t886.length co29 : Value).ownBlock ∧ some k_ ≠ (.slice Ao35 t874.length co35 : Value).ownBlock) (Kd.R_keptB (HO_870000.out) hkp (fun k_ hk_ hs_ => (hk_.2) hs_)) (fun k_ hk_ => ⟨hk_.1.1, hk_.1.2⟩)); replace HO_874000 := aM_ (kM_ (ok' := fun k_ => some k_ ≠ (.slice Ao23 t864.length co23 : Value).ownBlock ∧ some k_ ≠ (.slice Ao35 t874.length co35 : Value).ownBlock) (Kd.R_keptB (HO_874000.out) hkp (fun k_ hk_ hs_ => (hk_.2) hs_)) (fun k_ hk_ => ⟨hk_.1.1, hk_.1.2⟩)); replace BK859 := aM_ (blk_kept BK859.out hkp (fun hs_ => (fun e_ => (k6_ HO_880000.out BK859.out (by decide)) e_) hs_)); replace BK869 := aM_ (blk_kept BK869.out hkp (fun hs_ => (fun e_ => (k6_ HO_880000.out BK869.out (by decide)) e_) hs_)); replace BK873 := aM_ (blk_kept BK873.out hkp (fun hs_ => (fun e_ => (k6_ HO_880000.out BK873.out (by decide)) e_) hs_)); replace BK879 := aM_ (blk_kept BK879.out hkp (fun hs_ => (fun e_ => (k6_ HO_880000.out BK879.out (by decide)) e_) hs_)); replace HO_880000 := aM_ (Kd.R_reok rfl hy0 (fun k_ e_ => HO_880000.out.1 k_ e_)); replace HB := aM_ (hb); (try clear hb); (try clear hkp); (try clear hy0); have hcz130_0 := c0_ BK879; have hfz130_0 := bF_ BK879.out 0) | ((with_reducible refine gC_ (f := 23) rfl ?_); refine goesL_ (some 89) rfl rfl Tryz.func23 (by kernel_rfl) rfl #[.agg #[.slice Ao35 t889.length co35], .int .i64 1] rfl (by (try simp only [sD_, sE_, sF_]); (rw [show t889.length = t874.length from (kR_ HO_880000.out).1.symm] <;> rfl)) ?_; (with_reducible refine (wF34.calls kj71 _ _ t889 1 t890 _ ?side1 ?side2 A112.out).mono ?_); (case side1 => repeat (first | exact (kR_ HO_880000.out).2.2 | with_reducible first | apply cA_ | apply cN_ | apply cD_)); (case side2 => rw [show t889.length = t874.length from (kR_ HO_880000.out).1.symm]; exact (kR_ HO_880000.out).2.1); rintro e w131 ⟨rfl, hb⟩; refine ⟨_, rfl, ?_⟩; replace HO_870000 := k9_ HO_870000 hb; replace HO_874000 := k9_ HO_874000 hb; replace HO_880000 := k9_ HO_880000 hb; replace BK859 := b5_ BK859 hb; replace BK869 := b5_ BK869 hb; replace BK873 := b5_ BK873 hb; replace BK879 := b5_ BK879 hb; replace HB := b4_ HB hb; (try clear hb); have hnb132 := NB859_869.out; have hnc132 := NB869_859.out; have hnb133 := NB859_873.out; have hnc133 := NB873_859.out; have hcz134_0 := c0_ BK859; have hfz134_0 := bF_ BK859.out 0) | (refine gs_ 97 Tryz.func10 #[.agg #[.slice A0_0 l0_0.length c0_0]] ?_; (with_reducible refine (wF43.calls kj71 _ _ l0_0 t891 _ ?side1 HC0_0.out A122.out).mono ?_); (case side1 => repeat (first | exact (k4_ HR0_0.out HB.out) | with_reducible first | apply cA_ | apply cN_ | apply cD_)); rintro e w135 ⟨v892, rfl, ho0, hb⟩; refine ⟨_, rfl, ?_⟩; have HO893 := aM_ (k5_ (Kd.R_new' (Kd.R_new' (Kd.R_new' ho0 (Kd.R_lt HO_870000.out)) (Kd.R_lt HO_874000.out)) (Kd.R_lt HO_880000.out)) (bZ_ HB.out)); replace HO_870000 := aM_ (Kd.R_elder' HO_870000.out (Kd.R_base ho0) hb); replace HO_874000 := aM_ (Kd.R_elder' HO_874000.out (Kd.R_base ho0) hb); replace HO_880000 := aM_ (Kd.R_elder' HO_880000.out (Kd.R_base ho0) hb); replace BK859 := b5_ BK859 hb; replace BK869 := b5_ BK869 hb; replace BK873 := b5_ BK873 hb; replace BK879 := b5_ BK879 hb; replace HB := b4_ HB hb; (try clear hb); (try clear ho0); obtain ⟨Ao136, co136, eo136⟩ := kS_ HO893.out; subst eo136) | (refine gs_ 99 Tryz.func25 #[.agg #[.slice Ao136 t891.length co136], .string a1] ?_; (with_reducible refine (iF7.calls kj71 _ _ t891 a1 t894 t897 t898 _ ?side1 ?side2 A123.out).mono ?_); (case side1 => repeat (first | exact (kR_ HO893.out).2.2 | with_reducible first | apply cA_ | apply cN_ | apply cD_)); (case side2 => exact (kR_ HO893.out).2.1); rintro e w137 ⟨v895, rfl, ho0, hb⟩; refine ⟨_, rfl, ?_⟩; have HO896 := aM_ (k5_ (Kd.R_new' (Kd.R_new' (Kd.R_new' (Kd.R_new' ho0 (Kd.R_lt HO_870000.out)) (Kd.R_lt HO_874000.out)) (Kd.R_lt HO_880000.out)) (Kd.R_lt HO893.out)) (bZ_ HB.out)); replace HO_870000 := aM_ (Kd.R_elder' HO_870000.out (Kd.R_base ho0) hb); replace HO_874000 := aM_ (Kd.R_elder' HO_874000.out (Kd.R_base ho0) hb); replace HO_880000 := aM_ (Kd.R_elder' HO_880000.out (Kd.R_base ho0) hb); replace HO893 := aM_ (Kd.R_elder' HO893.out (Kd.R_base ho0) hb); replace BK859 := b5_ BK859 hb; replace BK869 := b5_ BK869 hb; replace BK873 := b5_ BK873 hb; replace BK879 := b5_ BK879 hb; replace HB := b4_ HB hb; (try clear hb); (try clear ho0)) | (refine bx_ 16 #[.slice none 0 0] 30 ?_; intro gb899 hg w138 hbox hb; replace HO_870000 := k9_ HO_870000 hb; replace HO_874000 := k9_ HO_874000 hb; replace HO_880000 := k9_ HO_880000 hb; replace HO893 := k9_ HO893 hb; replace HO896 := k9_ HO896 hb; have BK899 := aM_ (hbox); have GW899 := gw_ hg HB; replace HB := b4_ HB hb; have NB859_899 := nb_ hg BK859; have NB899_859 := ns_ NB859_899; replace BK859 := b5_ BK859 hb; have NB869_899 := nb_ hg BK869; have NB899_869 := ns_ NB869_899; replace BK869 := b5_ BK869 hb; have NB873_899 := nb_ hg BK873; have NB899_873 := ns_ NB873_899; replace BK873 := b5_ BK873 hb; have NB879_899 := nb_ hg BK879; have NB899_879 := ns_ NB879_899; replace BK879 := b5_ BK879 hb; clear hb hbox hg; obtain ⟨Ao139, co139, eo139⟩ := kS_ HO896.out; subst eo139; have hnb140 := NB899_859.out; have hnc140 := NB859_899.out; have hnb141 := NB899_869.out; have hnc141 := NB869_899.out; have hnb142 := NB899_873.out; have hnc142 := NB873_899.out; have hnb143 := NB899_879.out; have hnc143 := NB879_899.out; have hcz144_0 := c0_ BK899; have hfz144_0 := bF_ BK899.out 0))
   (try simp only [Act.put, sA_, sB_, sC_])
   go_cut [116] (fun v116 wc => ∃ (kq : Nat) (x116_123 : Bool), v116 = .bool x116_123 ∧ Aside0 (wF29.j2 kq t888 x116_123 t889 = some r) ∧ Aside0 (kq ≤ kj71) ∧ Aside0 (Kd.R k60 60 wc w.heap.size (fun k_ => some k_ ≠ ((.slice Ao29 t886.length co29) : Value).ownBlock ∧ some k_ ≠ ((.slice Ao35 t874.length co35) : Value).ownBlock ∧ some k_ ≠ ((.slice Ao139 t894.length co139) : Value).ownBlock) (.slice Ao23 t864.length co23) t864) ∧ Aside0 (Kd.R k60 60 wc w.heap.size (fun k_ => some k_ ≠ ((.slice Ao23 t864.length co23) : Value).ownBlock ∧ some k_ ≠ ((.slice Ao35 t874.length co35) : Value).ownBlock ∧ some k_ ≠ ((.slice Ao139 t894.length co139) : Value).ownBlock) (.slice Ao29 t886.length co29) t886) ∧ Aside0 (Kd.R k60 60 wc w.heap.size (fun k_ => some k_ ≠ ((.slice Ao23 t864.length co23) : Value).ownBlock ∧ some k_ ≠ ((.slice Ao29 t886.length co29) : Value).ownBlock ∧ some k_ ≠ ((.slice Ao139 t894.length co139) : Value).ownBlock) (.slice Ao35 t874.length co35) t889) ∧ Aside0 (Kd.R k60 60 wc w.heap.size (fun k_ => some k_ ≠ ((.slice Ao23 t864.length co23) : Value).ownBlock ∧ some k_ ≠ ((.slice Ao29 t886.length co29) : Value).ownBlock ∧ some k_ ≠ ((.slice Ao35 t874.length co35) : Value).ownBlock) (.slice Ao139 t894.length co139) t894) ∧ Aside0 (wc.heap[gb859]? = some (.cells #[(.slice A0_0 l0_0.length c0_0)] 24 (0, 0))) ∧ Aside0 (wc.heap[gb869]? = some (.cells #[(.slice Ao23 t864.length co23)] 30 (0, 0))) ∧ Aside0 (wc.heap[gb873]? = some (.cells #[(.slice Ao29 t886.length co29)] 30 (0, 0))) ∧ Aside0 (wc.heap[gb879]? = some (.cells #[(.slice Ao35 t874.length co35)] 30 (0, 0))) ∧ Aside0 (wc.heap[gb899]? = some (.cells #[(.slice Ao139 t894.length co139)] 30 (0, 0))) ∧ Aside0 (Below w.heap.size w wc))
   case first =>
    have H := HC124.out
    clear HC124
    replace H := oB_.mp H
    obtain ⟨t900, A1450, H⟩ := H
    try dsimp only at H
    have A145 := aM_ A1450
    clear A1450
    by_cases c146 : t900 = true
    rotate_left
    ·
     replace c146 := Bool.eq_false_iff.mpr c146
     subst c146
     replace H : (wF29.j2 kj71 t888 true t889) = some r := by rw [if_neg (show ¬ (false = true) by decide)] at H; exact H
     have H' := aM_ H
     clear H
     have hnb168 := NB899_859.out
     have hnc168 := NB859_899.out
     have hnb169 := NB899_869.out
     have hnc169 := NB869_899.out
     have hnb170 := NB899_873.out
     have hnc170 := NB873_899.out
     have hnb171 := NB899_879.out
     have hnc171 := NB879_899.out
     have hcz172_0 := c0_ BK899
     have hfz172_0 := bF_ BK899.out 0
     have hnb173 := NB869_859.out
     have hnc173 := NB859_869.out
     have hnb174 := NB869_873.out
     have hnc174 := NB873_869.out
     have hnb175 := NB869_879.out
     have hnc175 := NB879_869.out
     have hcz176_0 := c0_ BK869
     have hfz176_0 := bF_ BK869.out 0
     go_wp2_with (first | (refine gs_ 105 Tryz.func12 #[.agg #[.slice Ao139 t894.length co139], .agg #[.slice Ao23 t864.length co23]] ?_; (with_reducible refine (wF32.calls kj71 _ _ t894 _ _ t864 false _ ?side1 ?side2 ?side3 ?side4 A145.out).mono ?_); (case side1 => refine (kR_ (e := 60) (base := w.heap.size) (ok := fun k_ => ((((True ∧ some k_ ≠ (.slice Ao23 t864.length co23 : Value).ownBlock) ∧ some k_ ≠ (.slice Ao29 t886.length co29 : Value).ownBlock) ∧ some k_ ≠ (.slice Ao35 t874.length co35 : Value).ownBlock) ∧ some k_ ≠ (.slice Ao136 t891.length co136 : Value).ownBlock)) (n := t894.length) (c := co139) ?_).2.2; exact (by exact (kM_ (kG_ (kT_ HO896.out BK899.out (by decide))) (fun _ h_ => h_.1)))); (case side2 => exact (kR_ HO896.out).2.1); (case side3 => refine (kR_ (e := 60) (base := w.heap.size) (ok := fun k_ => (((some k_ ≠ (.slice Ao29 t886.length co29 : Value).ownBlock ∧ some k_ ≠ (.slice Ao35 t874.length co35 : Value).ownBlock) ∧ some k_ ≠ (.slice Ao136 t891.length co136 : Value).ownBlock) ∧ some k_ ≠ (.slice Ao139 t894.length co139 : Value).ownBlock)) (n := t864.length) (c := co23) ?_).2.2; exact (by exact (kM_ (kG_ (kT_ HO_870000.out BK899.out (by decide))) (fun _ h_ => h_.1)))); (case side4 => exact (kR_ HO_870000.out).2.1); rintro e w177 ⟨rfl, hb⟩; refine ⟨_, rfl, ?_⟩; replace HO_870000 := aM_ (kB_ (by exact (kM_ (kG_ (kT_ HO_870000.out BK899.out (by decide))) (fun _ h_ => h_.1))) hb); replace HO_874000 := aM_ (kB_ (by exact (kM_ (kG_ (kT_ HO_874000.out BK899.out (by decide))) (fun _ h_ => h_.1))) hb); replace HO_880000 := aM_ (kB_ (by exact (kM_ (kG_ (kT_ HO_880000.out BK899.out (by decide))) (fun _ h_ => h_.1))) hb); replace HO893 := aM_ (kB_ (by exact (kM_ (kG_ (kT_ HO893.out BK899.out (by decide))) (fun _ h_ => h_.1))) hb); replace HO896 := aM_ (kB_ (by exact (kM_ (kG_ (kT_ HO896.out BK899.out (by decide))) (fun _ h_ => h_.1))) hb); replace BK859 := aM_ (bB_ (g := gb859) (o := .cells #[.slice A0_0 l0_0.length c0_0] 24 (0, 0)) (by exact br_ NB859_899.out (BK859.out)) hb); replace BK869 := aM_ (bB_ (g := gb869) (o := .cells #[.slice Ao23 t864.length co23] 30 (0, 0)) (by exact br_ NB869_899.out (BK869.out)) hb); replace BK873 := aM_ (bB_ (g := gb873) (o := .cells #[.slice Ao29 t886.length co29] 30 (0, 0)) (by exact br_ NB873_899.out (BK873.out)) hb); replace BK879 := aM_ (bB_ (g := gb879) (o := .cells #[.slice Ao35 t874.length co35] 30 (0, 0)) (by exact br_ NB879_899.out (BK879.out)) hb); replace BK899 := aM_ (bB_ (g := gb899) (o := .cells #[.slice Ao139 t894.length co139] 30 (0, 0)) (by refine bP_ (cs := #[.slice none 0 0]) ?_ 0 _ rfl; exact BK899.out) hb); replace HB := aM_ (bT_ (by repeat with_reducible first | exact HB.out | apply bA_ | apply bN_ | apply bD_ | refine bS_ ?_ (Aside0.out ‹_›)) hb); (try clear hb)))
     go_meet
     case rel => exact ⟨_, (true), (by rfl), H', ⟨by have := HJ13.out; have := HJ71.out; omega⟩, ⟨by (try simp only [hl874000_71]); exact kM_ HO_870000.out (fun _ hk => ⟨hk.1.1.1, ⟨hk.1.1.2, hk.2⟩⟩)⟩, ⟨by (try simp only [hl874000_71]); exact kM_ HO_874000.out (fun _ hk => ⟨hk.1.1.1, ⟨hk.1.1.2, hk.2⟩⟩)⟩, ⟨by (try simp only [hl874000_71]); exact kM_ HO_880000.out (fun _ hk => ⟨hk.1.1.1, ⟨hk.1.1.2, hk.2⟩⟩)⟩, ⟨by (try simp only [hl874000_71]); exact kM_ HO896.out (fun _ hk => ⟨hk.1.1.1.2, ⟨hk.1.1.2, hk.1.2⟩⟩)⟩, ⟨by (try simp only [hl874000_71]); exact BK859.out⟩, ⟨by (try simp only [hl874000_71]); exact BK869.out⟩, ⟨by (try simp only [hl874000_71]); exact BK873.out⟩, ⟨by (try simp only [hl874000_71]); exact BK879.out⟩, ⟨by (try simp only [hl874000_71]); exact BK899.out⟩, ⟨HB.out⟩⟩
    subst c146
    rw [if_pos rfl] at H
    by_cases c147 : t897 = t867
    ·
     rw [if_pos c147] at H
     have c147b0 : (t897 == t867) = true := beq_iff_eq.mpr c147
     have c147b1 : (t897 != t867) = false := bne_eq_false_iff_eq.mpr c147
     clear c147
     (skip)
     have H' := aM_ H
     clear H
     have hnb148 := NB899_859.out
     have hnc148 := NB859_899.out
     have hnb149 := NB899_869.out
     have hnc149 := NB869_899.out
     have hnb150 := NB899_873.out
     have hnc150 := NB873_899.out
     have hnb151 := NB899_879.out
     have hnc151 := NB879_899.out
     have hcz152_0 := c0_ BK899
     have hfz152_0 := bF_ BK899.out 0
     have hnb153 := NB869_859.out
     have hnc153 := NB859_869.out
     have hnb154 := NB869_873.out
     have hnc154 := NB873_869.out
     have hnb155 := NB869_879.out
     have hnc155 := NB879_869.out
     have hcz156_0 := c0_ BK869
     have hfz156_0 := bF_ BK869.out 0
     go_wp2_with (first | (refine gs_ 105 Tryz.func12 #[.agg #[.slice Ao139 t894.length co139], .agg #[.slice Ao23 t864.length co23]] ?_; (with_reducible refine (wF32.calls kj71 _ _ t894 _ _ t864 true _ ?side1 ?side2 ?side3 ?side4 A145.out).mono ?_); (case side1 => refine (kR_ (e := 60) (base := w.heap.size) (ok := fun k_ => ((((True ∧ some k_ ≠ (.slice Ao23 t864.length co23 : Value).ownBlock) ∧ some k_ ≠ (.slice Ao29 t886.length co29 : Value).ownBlock) ∧ some k_ ≠ (.slice Ao35 t874.length co35 : Value).ownBlock) ∧ some k_ ≠ (.slice Ao136 t891.length co136 : Value).ownBlock)) (n := t894.length) (c := co139) ?_).2.2; exact (by exact (kM_ (kG_ (kT_ HO896.out BK899.out (by decide))) (fun _ h_ => h_.1)))); (case side2 => exact (kR_ HO896.out).2.1); (case side3 => refine (kR_ (e := 60) (base := w.heap.size) (ok := fun k_ => (((some k_ ≠ (.slice Ao29 t886.length co29 : Value).ownBlock ∧ some k_ ≠ (.slice Ao35 t874.length co35 : Value).ownBlock) ∧ some k_ ≠ (.slice Ao136 t891.length co136 : Value).ownBlock) ∧ some k_ ≠ (.slice Ao139 t894.length co139 : Value).ownBlock)) (n := t864.length) (c := co23) ?_).2.2; exact (by exact (kM_ (kG_ (kT_ HO_870000.out BK899.out (by decide))) (fun _ h_ => h_.1)))); (case side4 => exact (kR_ HO_870000.out).2.1); rintro e w157 ⟨rfl, hb⟩; refine ⟨_, rfl, ?_⟩; replace HO_870000 := aM_ (kB_ (by exact (kM_ (kG_ (kT_ HO_870000.out BK899.out (by decide))) (fun _ h_ => h_.1))) hb); replace HO_874000 := aM_ (kB_ (by exact (kM_ (kG_ (kT_ HO_874000.out BK899.out (by decide))) (fun _ h_ => h_.1))) hb); replace HO_880000 := aM_ (kB_ (by exact (kM_ (kG_ (kT_ HO_880000.out BK899.out (by decide))) (fun _ h_ => h_.1))) hb); replace HO893 := aM_ (kB_ (by exact (kM_ (kG_ (kT_ HO893.out BK899.out (by decide))) (fun _ h_ => h_.1))) hb); replace HO896 := aM_ (kB_ (by exact (kM_ (kG_ (kT_ HO896.out BK899.out (by decide))) (fun _ h_ => h_.1))) hb); replace BK859 := aM_ (bB_ (g := gb859) (o := .cells #[.slice A0_0 l0_0.length c0_0] 24 (0, 0)) (by exact br_ NB859_899.out (BK859.out)) hb); replace BK869 := aM_ (bB_ (g := gb869) (o := .cells #[.slice Ao23 t864.length co23] 30 (0, 0)) (by exact br_ NB869_899.out (BK869.out)) hb); replace BK873 := aM_ (bB_ (g := gb873) (o := .cells #[.slice Ao29 t886.length co29] 30 (0, 0)) (by exact br_ NB873_899.out (BK873.out)) hb); replace BK879 := aM_ (bB_ (g := gb879) (o := .cells #[.slice Ao35 t874.length co35] 30 (0, 0)) (by exact br_ NB879_899.out (BK879.out)) hb); replace BK899 := aM_ (bB_ (g := gb899) (o := .cells #[.slice Ao139 t894.length co139] 30 (0, 0)) (by refine bP_ (cs := #[.slice none 0 0]) ?_ 0 _ rfl; exact BK899.out) hb); replace HB := aM_ (bT_ (by repeat with_reducible first | exact HB.out | apply bA_ | apply bN_ | apply bD_ | refine bS_ ?_ (Aside0.out ‹_›)) hb); (try clear hb)))
     go_meet
     case rel => exact ⟨_, ((t898 != t868)), (by rfl), H', ⟨by have := HJ13.out; have := HJ71.out; omega⟩, ⟨by (try simp only [hl874000_71]); exact kM_ HO_870000.out (fun _ hk => ⟨hk.1.1.1, ⟨hk.1.1.2, hk.2⟩⟩)⟩, ⟨by (try simp only [hl874000_71]); exact kM_ HO_874000.out (fun _ hk => ⟨hk.1.1.1, ⟨hk.1.1.2, hk.2⟩⟩)⟩, ⟨by (try simp only [hl874000_71]); exact kM_ HO_880000.out (fun _ hk => ⟨hk.1.1.1, ⟨hk.1.1.2, hk.2⟩⟩)⟩, ⟨by (try simp only [hl874000_71]); exact kM_ HO896.out (fun _ hk => ⟨hk.1.1.1.2, ⟨hk.1.1.2, hk.1.2⟩⟩)⟩, ⟨by (try simp only [hl874000_71]); exact BK859.out⟩, ⟨by (try simp only [hl874000_71]); exact BK869.out⟩, ⟨by (try simp only [hl874000_71]); exact BK873.out⟩, ⟨by (try simp only [hl874000_71]); exact BK879.out⟩, ⟨by (try simp only [hl874000_71]); exact BK899.out⟩, ⟨HB.out⟩⟩
    rw [if_neg c147] at H
    have c147b0 : (t897 == t867) = false := beq_eq_false_iff_ne.mpr c147
    have c147b1 : (t897 != t867) = true := bne_iff_ne.mpr c147
    (skip)
    have H' := aM_ H
    clear H
    have hnb158 := NB899_859.out
    have hnc158 := NB859_899.out
    have hnb159 := NB899_869.out
    have hnc159 := NB869_899.out
    have hnb160 := NB899_873.out
    have hnc160 := NB873_899.out
    have hnb161 := NB899_879.out
    have hnc161 := NB879_899.out
    have hcz162_0 := c0_ BK899
    have hfz162_0 := bF_ BK899.out 0
    have hnb163 := NB869_859.out
    have hnc163 := NB859_869.out
    have hnb164 := NB869_873.out
    have hnc164 := NB873_869.out
    have hnb165 := NB869_879.out
    have hnc165 := NB879_869.out
    have hcz166_0 := c0_ BK869
    have hfz166_0 := bF_ BK869.out 0
    go_wp2_with (first | (refine gs_ 105 Tryz.func12 #[.agg #[.slice Ao139 t894.length co139], .agg #[.slice Ao23 t864.length co23]] ?_; (with_reducible refine (wF32.calls kj71 _ _ t894 _ _ t864 true _ ?side1 ?side2 ?side3 ?side4 A145.out).mono ?_); (case side1 => refine (kR_ (e := 60) (base := w.heap.size) (ok := fun k_ => ((((True ∧ some k_ ≠ (.slice Ao23 t864.length co23 : Value).ownBlock) ∧ some k_ ≠ (.slice Ao29 t886.length co29 : Value).ownBlock) ∧ some k_ ≠ (.slice Ao35 t874.length co35 : Value).ownBlock) ∧ some k_ ≠ (.slice Ao136 t891.length co136 : Value).ownBlock)) (n := t894.length) (c := co139) ?_).2.2; exact (by exact (kM_ (kG_ (kT_ HO896.out BK899.out (by decide))) (fun _ h_ => h_.1)))); (case side2 => exact (kR_ HO896.out).2.1); (case side3 => refine (kR_ (e := 60) (base := w.heap.size) (ok := fun k_ => (((some k_ ≠ (.slice Ao29 t886.length co29 : Value).ownBlock ∧ some k_ ≠ (.slice Ao35 t874.length co35 : Value).ownBlock) ∧ some k_ ≠ (.slice Ao136 t891.length co136 : Value).ownBlock) ∧ some k_ ≠ (.slice Ao139 t894.length co139 : Value).ownBlock)) (n := t864.length) (c := co23) ?_).2.2; exact (by exact (kM_ (kG_ (kT_ HO_870000.out BK899.out (by decide))) (fun _ h_ => h_.1)))); (case side4 => exact (kR_ HO_870000.out).2.1); rintro e w167 ⟨rfl, hb⟩; refine ⟨_, rfl, ?_⟩; replace HO_870000 := aM_ (kB_ (by exact (kM_ (kG_ (kT_ HO_870000.out BK899.out (by decide))) (fun _ h_ => h_.1))) hb); replace HO_874000 := aM_ (kB_ (by exact (kM_ (kG_ (kT_ HO_874000.out BK899.out (by decide))) (fun _ h_ => h_.1))) hb); replace HO_880000 := aM_ (kB_ (by exact (kM_ (kG_ (kT_ HO_880000.out BK899.out (by decide))) (fun _ h_ => h_.1))) hb); replace HO893 := aM_ (kB_ (by exact (kM_ (kG_ (kT_ HO893.out BK899.out (by decide))) (fun _ h_ => h_.1))) hb); replace HO896 := aM_ (kB_ (by exact (kM_ (kG_ (kT_ HO896.out BK899.out (by decide))) (fun _ h_ => h_.1))) hb); replace BK859 := aM_ (bB_ (g := gb859) (o := .cells #[.slice A0_0 l0_0.length c0_0] 24 (0, 0)) (by exact br_ NB859_899.out (BK859.out)) hb); replace BK869 := aM_ (bB_ (g := gb869) (o := .cells #[.slice Ao23 t864.length co23] 30 (0, 0)) (by exact br_ NB869_899.out (BK869.out)) hb); replace BK873 := aM_ (bB_ (g := gb873) (o := .cells #[.slice Ao29 t886.length co29] 30 (0, 0)) (by exact br_ NB873_899.out (BK873.out)) hb); replace BK879 := aM_ (bB_ (g := gb879) (o := .cells #[.slice Ao35 t874.length co35] 30 (0, 0)) (by exact br_ NB879_899.out (BK879.out)) hb); replace BK899 := aM_ (bB_ (g := gb899) (o := .cells #[.slice Ao139 t894.length co139] 30 (0, 0)) (by refine bP_ (cs := #[.slice none 0 0]) ?_ 0 _ rfl; exact BK899.out) hb); replace HB := aM_ (bT_ (by repeat with_reducible first | exact HB.out | apply bA_ | apply bN_ | apply bD_ | refine bS_ ?_ (Aside0.out ‹_›)) hb); (try clear hb)))
    go_meet
    case rel => exact ⟨_, (true), (by rfl), H', ⟨by have := HJ13.out; have := HJ71.out; omega⟩, ⟨by (try simp only [hl874000_71]); exact kM_ HO_870000.out (fun _ hk => ⟨hk.1.1.1, ⟨hk.1.1.2, hk.2⟩⟩)⟩, ⟨by (try simp only [hl874000_71]); exact kM_ HO_874000.out (fun _ hk => ⟨hk.1.1.1, ⟨hk.1.1.2, hk.2⟩⟩)⟩, ⟨by (try simp only [hl874000_71]); exact kM_ HO_880000.out (fun _ hk => ⟨hk.1.1.1, ⟨hk.1.1.2, hk.2⟩⟩)⟩, ⟨by (try simp only [hl874000_71]); exact kM_ HO896.out (fun _ hk => ⟨hk.1.1.1.2, ⟨hk.1.1.2, hk.1.2⟩⟩)⟩, ⟨by (try simp only [hl874000_71]); exact BK859.out⟩, ⟨by (try simp only [hl874000_71]); exact BK869.out⟩, ⟨by (try simp only [hl874000_71]); exact BK873.out⟩, ⟨by (try simp only [hl874000_71]); exact BK879.out⟩, ⟨by (try simp only [hl874000_71]); exact BK899.out⟩, ⟨HB.out⟩⟩
   clear HC124
   try clear p2
   try clear c3b0
   try clear c3b1
   try clear c6b0
   try clear c42b0
   try clear c42b1
   try clear c82b0
   try clear c85b0
   try clear c85b1
   try clear c113b0
   try clear c121b0
   try clear c121b1
   try clear c147b0
   try clear c147b1
   try clear hcz100_0
   try clear hcz105_0
   try clear hcz108_0
   try clear hcz117_0
   try clear hcz119_0
   try clear hcz128_0
   try clear hcz130_0
   try clear hcz134_0
   try clear hcz144_0
   try clear hcz152_0
   try clear hcz156_0
   try clear hcz162_0
   try clear hcz166_0
   try clear hcz16_0
   try clear hcz172_0
   try clear hcz176_0
   try clear hcz18_0
   try clear hcz25_0
   try clear hcz26_0
   try clear hcz32_0
   try clear hcz39_0
   try clear hcz46_0
   try clear hcz49_0
   try clear hcz54_0
   try clear hcz57_0
   try clear hcz62_0
   try clear hcz65_0
   try clear hcz80_0
   try clear hcz89_0
   try clear hcz8_0
   try clear hcz92_0
   try clear hcz97_0
   try clear hfz100_0
   try clear hfz105_0
   try clear hfz108_0
   try clear hfz117_0
   try clear hfz119_0
   try clear hfz128_0
   try clear hfz130_0
   try clear hfz134_0
   try clear hfz144_0
   try clear hfz152_0
   try clear hfz156_0
   try clear hfz162_0
   try clear hfz166_0
   try clear hfz16_0
   try clear hfz172_0
   try clear hfz176_0
   try clear hfz18_0
   try clear hfz25_0
   try clear hfz26_0
   try clear hfz32_0
   try clear hfz39_0
   try clear hfz46_0
   try clear hfz49_0
   try clear hfz54_0
   try clear hfz57_0
   try clear hfz62_0
   try clear hfz65_0
   try clear hfz80_0
   try clear hfz89_0
   try clear hfz8_0
   try clear hfz92_0
   try clear hfz97_0
   try clear p2
   obtain ⟨kq, x116_123, rfl, HA, HJ123, HO_870000, HO_874000, HO_880000, HO_900000, BK859, BK869, BK873, BK879, BK899, HB⟩ := hcut
   have hl880000_123 := (kR_ HO_880000.out).1
   rw [hl880000_123] at HO_880000
   (try simp only [hl880000_123])
   (try simp only [hl880000_123] at BK859)
   (try simp only [hl880000_123] at BK869)
   (try simp only [hl880000_123] at BK873)
   (try simp only [hl880000_123] at BK879)
   (try simp only [hl880000_123] at BK899)
   (try simp only [hl880000_123] at HO_870000)
   (try simp only [hl880000_123] at HO_874000)
   (try simp only [hl880000_123] at HO_900000)
   cases kq with
   | zero => exact absurd HA.out (by simp [wF29.j2])
   | succ kj123 =>
    have H := HA.out
    clear HA
    simp only [wF29.j2] at H
    by_cases c178 : x116_123 = true
    ·
     subst c178
     rw [if_pos rfl] at H
     obtain rfl := Option.some.inj H
     go_wp2
     go_ret
     exact ⟨by rfl, by exact HB.out⟩
    replace c178 := Bool.eq_false_iff.mpr c178
    subst c178
    replace H : ((wF34.f kj123 t889 1).bind fun t901 => (if t901 < 0 then (some false) else (if t901 = t888 then (some true) else (some false)))) = some r := by rw [if_neg (show ¬ (false = true) by decide)] at H; exact H
    replace H := oB_.mp H
    obtain ⟨t901, A1790, H⟩ := H
    try dsimp only at H
    have A179 := aM_ A1790
    clear A1790
    by_cases c180 : t901 < 0
    ·
     rw [if_pos c180] at H
     have c180b0 := dT_ c180
     clear c180
     obtain rfl := Option.some.inj H
     have hnb181 := NB879_859.out
     have hnc181 := NB859_879.out
     have hnb182 := NB879_869.out
     have hnc182 := NB869_879.out
     have hnb183 := NB879_873.out
     have hnc183 := NB873_879.out
     have hnb184 := NB879_899.out
     have hnc184 := NB899_879.out
     have hcz185_0 := c0_ BK879
     have hfz185_0 := bF_ BK879.out 0
     go_wp2_with (first | (refine gs_ 119 Tryz.func23 #[.agg #[.slice Ao35 t889.length co35], .int .i64 1] ?_; (with_reducible refine (wF34.calls kj123 _ _ t889 1 t901 _ ?side1 ?side2 A179.out).mono ?_); (case side1 => repeat (first | exact (kR_ HO_880000.out).2.2 | with_reducible first | apply cA_ | apply cN_ | apply cD_)); (case side2 => exact (kR_ HO_880000.out).2.1); rintro e w186 ⟨rfl, hb⟩; refine ⟨_, rfl, ?_⟩; replace HO_870000 := k9_ HO_870000 hb; replace HO_874000 := k9_ HO_874000 hb; replace HO_880000 := k9_ HO_880000 hb; replace HO_900000 := k9_ HO_900000 hb; replace BK859 := b5_ BK859 hb; replace BK869 := b5_ BK869 hb; replace BK873 := b5_ BK873 hb; replace BK879 := b5_ BK879 hb; replace BK899 := b5_ BK899 hb; replace HB := b4_ HB hb; (try clear hb)))
     go_ret
     exact ⟨by rfl, by exact HB.out⟩
    rw [if_neg c180] at H
    have c180b0 := dF_ c180
    clear c180
    by_cases c187 : t901 = t888
    ·
     rw [if_pos c187] at H
     have c187b0 : (t901 == t888) = true := beq_iff_eq.mpr c187
     have c187b1 : (t901 != t888) = false := bne_eq_false_iff_eq.mpr c187
     clear c187
     obtain rfl := Option.some.inj H
     have hnb188 := NB879_859.out
     have hnc188 := NB859_879.out
     have hnb189 := NB879_869.out
     have hnc189 := NB869_879.out
     have hnb190 := NB879_873.out
     have hnc190 := NB873_879.out
     have hnb191 := NB879_899.out
     have hnc191 := NB899_879.out
     have hcz192_0 := c0_ BK879
     have hfz192_0 := bF_ BK879.out 0
     go_wp2_with (first | (refine gs_ 119 Tryz.func23 #[.agg #[.slice Ao35 t889.length co35], .int .i64 1] ?_; (with_reducible refine (wF34.calls kj123 _ _ t889 1 t901 _ ?side1 ?side2 A179.out).mono ?_); (case side1 => repeat (first | exact (kR_ HO_880000.out).2.2 | with_reducible first | apply cA_ | apply cN_ | apply cD_)); (case side2 => exact (kR_ HO_880000.out).2.1); rintro e w193 ⟨rfl, hb⟩; refine ⟨_, rfl, ?_⟩; replace HO_870000 := k9_ HO_870000 hb; replace HO_874000 := k9_ HO_874000 hb; replace HO_880000 := k9_ HO_880000 hb; replace HO_900000 := k9_ HO_900000 hb; replace BK859 := b5_ BK859 hb; replace BK869 := b5_ BK869 hb; replace BK873 := b5_ BK873 hb; replace BK879 := b5_ BK879 hb; replace BK899 := b5_ BK899 hb; replace HB := b4_ HB hb; (try clear hb)))
     go_ret
     exact ⟨by rfl, by exact HB.out⟩
    rw [if_neg c187] at H
    have c187b0 : (t901 == t888) = false := beq_eq_false_iff_ne.mpr c187
    have c187b1 : (t901 != t888) = true := bne_iff_ne.mpr c187
    obtain rfl := Option.some.inj H
    have hnb194 := NB879_859.out
    have hnc194 := NB859_879.out
    have hnb195 := NB879_869.out
    have hnc195 := NB869_879.out
    have hnb196 := NB879_873.out
    have hnc196 := NB873_879.out
    have hnb197 := NB879_899.out
    have hnc197 := NB899_879.out
    have hcz198_0 := c0_ BK879
    have hfz198_0 := bF_ BK879.out 0
    go_wp2_with (first | (refine gs_ 119 Tryz.func23 #[.agg #[.slice Ao35 t889.length co35], .int .i64 1] ?_; (with_reducible refine (wF34.calls kj123 _ _ t889 1 t901 _ ?side1 ?side2 A179.out).mono ?_); (case side1 => repeat (first | exact (kR_ HO_880000.out).2.2 | with_reducible first | apply cA_ | apply cN_ | apply cD_)); (case side2 => exact (kR_ HO_880000.out).2.1); rintro e w199 ⟨rfl, hb⟩; refine ⟨_, rfl, ?_⟩; replace HO_870000 := k9_ HO_870000 hb; replace HO_874000 := k9_ HO_874000 hb; replace HO_880000 := k9_ HO_880000 hb; replace HO_900000 := k9_ HO_900000 hb; replace BK859 := b5_ BK859 hb; replace BK869 := b5_ BK869 hb; replace BK873 := b5_ BK873 hb; replace BK879 := b5_ BK879 hb; replace BK899 := b5_ BK899 hb; replace HB := b4_ HB hb; (try clear hb)))
    go_ret
    exact ⟨by rfl, by exact HB.out⟩
def wF29.Pure : Prop := ∀ (l0_0 : List S71) (a1 : ByteArray), l0_0.length ≤ 9223372036854775807 → (∀ x ∈ l0_0, x.f0.size ≤ 9223372036854775807) → a1.size ≤ 140737488351232 → ∃ k, wF29.f k l0_0 a1 = some true
theorem wF29.walk (P : wF29.Pure) (w : World) (A0 : Option Addr) (c0 : Nat) (l0_0 : List S71) (hr0 : Kd.C k71 w A0 l0_0.length l0_0) (hc0 : l0_0.length ≤ c0) (hs0 : ∀ x ∈ l0_0, x.f0.size ≤ 9223372036854775807) (a1 : ByteArray) (w1 : a1.size ≤ 140737488351232) :
  Calls Tryz.prog 7 #[.agg #[.slice A0 l0_0.length c0], .string a1] w fun e w' => e = .returned (.bool true) ∧ Below w.heap.size w w' := by
 obtain ⟨k, h⟩ := P l0_0 a1 hr0.2.1 hs0 w1
 refine (wF29.calls k _ _ l0_0 a1 true w hr0 hc0 h).mono ?_
 rintro e w' ⟨rfl, hd⟩
 exact ⟨rfl, hd⟩
end Go.Proofs.YtfhffcefpnkllaaGreatDoor.P
namespace Go.Proofs.YtfhffcefpnkllaaGreatDoor.M
open Go.Lib
theorem keeps_iff (d : Array Txt) (j : Nat) : keeps d j = true ↔ (j = 0 ∨ d[j]! ≠ d[j - 1]!) := by simp [keeps]
theorem mem_compact (zs : List Txt) (y : Txt) : y ∈ compact zs ↔ y ∈ zs := by
 unfold compact compactUpTo
 simp only [List.mem_map, List.mem_filter, List.mem_range]
 constructor
 ·
  rintro ⟨j, ⟨hj, _⟩, rfl⟩
  rw [getElem!_pos zs.toArray j (by simpa using hj)]
  simp
 intro hy
 have hex : ∃ n, ∃ h : n < zs.length, zs[n] = y := by
  obtain ⟨n, h, e⟩ := List.mem_iff_getElem.1 hy
  exact ⟨n, h, e⟩
 have key : ∀ n, (∃ h : n < zs.length, zs[n] = y) → ∃ m, m < zs.length ∧ keeps zs.toArray m = true ∧ zs.toArray[m]! = y := by
  intro n
  induction n with
  | zero => rintro ⟨h, e⟩; exact ⟨0, h, (keeps_iff _ _).2 (.inl rfl), by rw [getElem!_pos zs.toArray 0 (by simpa using h)]; simpa using e⟩
  | succ n ih =>
   rintro ⟨h, e⟩
   have e1 : zs.toArray[n + 1]! = y := by rw [getElem!_pos zs.toArray (n + 1) (by simpa using h)]; simpa using e
   by_cases hk : keeps zs.toArray (n + 1) = true
   ·
    exact ⟨n + 1, h, hk, e1⟩
   have : zs.toArray[n + 1]! = zs.toArray[n]! := by
    by_cases h9 : zs.toArray[n + 1]! = zs.toArray[n]!
    ·
     exact h9
    exact absurd ((keeps_iff _ _).2 (.inr h9)) hk
   refine ih ⟨by omega, ?_⟩
   have h2 : zs.toArray[n]! = zs[n] := by rw [getElem!_pos zs.toArray n (by simp; omega)]; simp
   rw [← h2, ← this, e1]
 obtain ⟨n, h⟩ := hex
 obtain ⟨m, h1, h2, h3⟩ := key n h
 exact ⟨m, ⟨h1, h2⟩, h3⟩
theorem pair_get {zs : List Txt} (h : zs.Pairwise (fun a b => decide (a ≤ b) = true)) {i j : Nat} (hij : i < j) (hj : j < zs.length) : zs.toArray[i]! ≤ zs.toArray[j]! := by
 have := List.pairwise_iff_getElem.1 h i j (by omega) hj hij
 rw [getElem!_pos zs.toArray i (by simp; omega), getElem!_pos zs.toArray j (by simpa using hj)]
 simpa using this
theorem asc_compact {zs : List Txt} (h : zs.Pairwise (fun a b => decide (a ≤ b) = true)) : Asc (compact zs) := by
 unfold Asc compact compactUpTo
 rw [List.pairwise_map]
 have h1 : ((List.range zs.length).filter (keeps zs.toArray)).Pairwise (· < ·) := List.Pairwise.filter _ List.pairwise_lt_range
 refine List.Pairwise.imp_of_mem ?_ h1
 intro a b ha hb hab
 rw [List.mem_filter, List.mem_range] at ha hb
 have hk := (keeps_iff _ _).1 hb.2
 have hne : zs.toArray[b]! ≠ zs.toArray[b - 1]! := by
  rcases hk with h0 | h0
  ·
   omega
  exact h0
 have h2 : zs.toArray[b - 1]! ≤ zs.toArray[b]! := pair_get h (by omega) hb.1
 have h3 : zs.toArray[a]! ≤ zs.toArray[b - 1]! := by
  by_cases e : a = b - 1
  ·
   subst e; exact List.le_refl _
  exact pair_get h (by omega) (by omega)
 have h4 : zs.toArray[b - 1]! < zs.toArray[b]! := by
  by_cases hlt : zs.toArray[b - 1]! < zs.toArray[b]!
  ·
   exact hlt
  exact absurd (List.le_antisymm (List.not_lt.1 hlt) h2) hne
 exact List.lt_of_le_of_lt h3 h4
theorem sorted_compact (l : List Txt) : compact (l.mergeSort fun x y => decide (x ≤ y)) = setL l := by
 have hp : (l.mergeSort fun x y => decide (x ≤ y)).Pairwise (fun a b => decide (a ≤ b) = true) := by
  refine List.pairwise_mergeSort ?_ ?_ l
  ·
   intro a b c h1 h2
   simp only [decide_eq_true_eq] at h1 h2 ⊢
   exact List.le_trans h1 h2
  intro a b
  simp only [Bool.or_eq_true, decide_eq_true_eq]
  exact List.le_total a b
 refine asc_ext _ _ (asc_compact hp) (asc_setL l) fun y => ?_
 rw [mem_compact, List.mem_mergeSort, mem_setL]
end Go.Proofs.YtfhffcefpnkllaaGreatDoor.M
namespace Go.Proofs.YtfhffcefpnkllaaGreatDoor.M
open Go.RowKit Go.Proofs.YtfhffcefpnkllaaGreatDoorW.PrintWords
theorem rdB (l : List Txt) (n : Nat) (h : n < l.length) : rdOf ByteArray.empty (l.map B) (n : Int) = B (l.getD n []) := by
 simp [rdOf, List.getD_eq_getElem?_getD, h]
end Go.Proofs.YtfhffcefpnkllaaGreatDoor.M
namespace Go.Proofs.YtfhffcefpnkllaaGreatDoor.L
open Go.RowKit Go.Proofs.YtfhffcefpnkllaaGreatDoor.P Go.Proofs.YtfhffcefpnkllaaGreatDoor.M Go.Proofs.YtfhffcefpnkllaaGreatDoorW.PrintWords Go.Proofs.YtfhffcefpnkllaaGreatDoorW.PrintLast Go.Proofs.YtfhffcefpnkllaaGreatDoorW.PrintMore
theorem map_data (l : List Txt) : (l.map B).map (fun x => x.data.toList) = l := by
 rw [List.map_map]
 exact (List.map_congr_left (fun x _ => data_B x)).trans (List.map_id _)
theorem l2Put_eq (l : List Txt) (w : Txt) (h : l.length ≤ 4294967296) (h2 : ∀ x ∈ l, x.length ≤ 4611686018427387900) : sF59.f (l.map B) (B w) = some ((putL l w).map B) := by
 have hall : ((l.map B).all fun x => decide (x.size ≤ 4611686018427387900)) = true := List.all_eq_true.2 fun x hx => by
  obtain ⟨y, hy, rfl⟩ := List.mem_map.1 hx
  simpa using h2 y hy
 unfold sF59.f
 rw [map_data, data_B, if_pos ⟨by simpa using h, hall⟩]
theorem set_eq (l : List Txt) (h : l.length ≤ 4294967296) : iF27.f (l.map B) = some ((setL l).map B) := by
 unfold iF27.f
 rw [if_pos (by simpa using h), map_data, sorted_compact]
 rfl
end Go.Proofs.YtfhffcefpnkllaaGreatDoor.L
namespace Go.Proofs.YtfhffcefpnkllaaGreatDoor.M
theorem txt_lt_snoc : ∀ (p : Txt) (x : UInt8), p < p ++ [x]
 | [], x => List.nil_lt_cons x []
 | a :: p, x => List.cons_lt_cons_iff.2 (.inr ⟨rfl, txt_lt_snoc p x⟩)
theorem dropLast_getD (p : Txt) (h : p ≠ []) : p.dropLast ++ [p.getD (p.length - 1) 0] = p := by
 have h0 := List.length_pos_iff.2 h
 have h1 : p.length - 1 < p.length := by omega
 rw [List.dropLast_eq_take, getD_lt 0 h1, ← List.take_succ_eq_append_getElem h1, List.take_of_length_le (by omega)]
theorem txt_dropLast_lt (p : Txt) (h : p ≠ []) : p.dropLast < p := by
 have := txt_lt_snoc p.dropLast (p.getD (p.length - 1) 0)
 rwa [dropLast_getD p h] at this
def Clo (P : List Txt) : Prop := [] ∈ P ∧ ∀ p ∈ P, p ≠ [] → p.dropLast ∈ P
def begs (w : Txt) : List Txt := (List.range w.length).map fun n => w.take (n + 1)
def preL (ws : List Txt) : List Txt := setL ([] :: ws.flatMap begs)
theorem mem_begs {w p : Txt} : p ∈ begs w ↔ p ≠ [] ∧ p <+: w := by
 constructor
 ·
  intro h
  obtain ⟨n, hn, rfl⟩ := List.mem_map.1 h
  rw [List.mem_range] at hn
  exact ⟨fun e => by have := congrArg List.length e; rw [List.length_take, List.length_nil] at this; omega, List.take_prefix _ _⟩
 rintro ⟨h1, h2⟩
 have h3 := h2.length_le
 have h4 := List.length_pos_iff.2 h1
 refine List.mem_map.2 ⟨p.length - 1, List.mem_range.2 (by omega), ?_⟩
 rw [show p.length - 1 + 1 = p.length from by omega]
 exact (List.prefix_iff_eq_take.1 h2).symm
theorem mem_preL {ws : List Txt} {p : Txt} : p ∈ preL ws ↔ p = [] ∨ ∃ w ∈ ws, p ≠ [] ∧ p <+: w := by
 unfold preL
 rw [mem_setL, List.mem_cons, List.mem_flatMap]
 simp only [mem_begs]
theorem clo_preL (ws : List Txt) : Clo (preL ws) := by
 refine ⟨mem_preL.2 (.inl rfl), fun p hp hne => ?_⟩
 rcases mem_preL.1 hp with rfl | ⟨w, hw, _, h⟩
 ·
  exact absurd rfl hne
 by_cases h0 : p.dropLast = []
 ·
  rw [h0]; exact mem_preL.2 (.inl rfl)
 exact mem_preL.2 (.inr ⟨w, hw, h0, (List.dropLast_prefix p).trans h⟩)
theorem asc_preL (ws : List Txt) : Asc (preL ws) := asc_setL _
theorem self_preL {ws : List Txt} {w : Txt} (h : w ∈ ws) : w ∈ preL ws := by
 by_cases h0 : w = []
 ·
  rw [h0]; exact mem_preL.2 (.inl rfl)
 exact mem_preL.2 (.inr ⟨w, h, h0, List.prefix_refl _⟩)
theorem preL_congr {ws vs : List Txt} (h : ∀ w, w ∈ ws ↔ w ∈ vs) : preL ws = preL vs :=
 asc_ext _ _ (asc_preL _) (asc_preL _) fun y => by rw [mem_preL, mem_preL]; simp only [h]
theorem foldl_putL_len : ∀ (l acc : List Txt), (l.foldl putL acc).length ≤ acc.length + l.length
 | [], _ => Nat.le_refl _
 | x :: l, acc => by
  have h1 := foldl_putL_len l (putL acc x)
  have h2 := putL_length_le acc x
  rw [List.foldl_cons, List.length_cons]; omega
theorem setL_length_le (l : List Txt) : (setL l).length ≤ l.length := by have := foldl_putL_len l []; simpa [setL] using this
theorem begs_length (w : Txt) : (begs w).length = w.length := by simp [begs]
theorem flatMap_begs_length : ∀ (ws : List Txt), (∀ w ∈ ws, w.length ≤ 12) → (ws.flatMap begs).length ≤ 12 * ws.length
 | [], _ => by simp
 | w :: ws, h => by
  have h1 := flatMap_begs_length ws fun x hx => h x (List.mem_cons_of_mem _ hx)
  have h2 := h w (by simp)
  rw [List.flatMap_cons, List.length_append, begs_length, List.length_cons]; omega
theorem preL_length {ws : List Txt} (h : ∀ w ∈ ws, w.length ≤ 12) : (preL ws).length ≤ 12 * ws.length + 1 := by
 have h1 := flatMap_begs_length ws h
 have h2 := setL_length_le ([] :: ws.flatMap begs)
 unfold preL
 rw [List.length_cons] at h2
 omega
def placeL : List Txt → Txt → Nat
 | [], _ => 0
 | x :: r, p => if x = p then 0 else placeL r p + 1
theorem placeL_mem : ∀ {P : List Txt} {p : Txt}, p ∈ P → placeL P p < P.length ∧ P.getD (placeL P p) [] = p
 | [], _, h => by simp at h
 | x :: r, p, h => by
  by_cases h0 : x = p
  ·
   simp [placeL, h0]
  have h1 : p ∈ r := by
   rcases List.mem_cons.1 h with e | e
   ·
    exact absurd e.symm h0
   exact e
  obtain ⟨h2, h3⟩ := placeL_mem h1
  simp only [placeL, if_neg h0, List.length_cons]
  exact ⟨by omega, by simpa using h3⟩
theorem getD_mem {P : List Txt} {i : Nat} (h : i < P.length) : P.getD i [] ∈ P := by rw [getD_lt [] h]; exact List.getElem_mem h
theorem asc_get {P : List Txt} (hA : Asc P) {i j : Nat} (hj : j < P.length) (hij : i < j) : P.getD i [] < P.getD j [] := by
 have := List.pairwise_iff_getElem.1 hA i j (by omega) hj hij
 rwa [getD_lt [] hj, getD_lt [] (show i < P.length by omega)]
theorem asc_get_lt {P : List Txt} (hA : Asc P) {i j : Nat} (hi : i < P.length) (hj : j < P.length) (h : P.getD i [] < P.getD j []) : i < j := by
 rcases Nat.lt_trichotomy i j with h1 | h1 | h1
 ·
  exact h1
 ·
  subst h1; exact absurd h (txt_irrefl _)
 exact absurd (asc_get hA hi h1) (txt_asymm h)
theorem asc_inj {P : List Txt} (hA : Asc P) {i j : Nat} (hi : i < P.length) (hj : j < P.length) (h : P.getD i [] = P.getD j []) : i = j := by
 rcases Nat.lt_trichotomy i j with h1 | h1 | h1
 ·
  exact absurd (h ▸ asc_get hA hj h1) (txt_irrefl _)
 ·
  exact h1
 exact absurd (h ▸ asc_get hA hi h1) (txt_irrefl _)
theorem placeL_get {P : List Txt} (hA : Asc P) {i : Nat} (hi : i < P.length) : placeL P (P.getD i []) = i := by
 obtain ⟨h1, h2⟩ := placeL_mem (getD_mem hi)
 exact asc_inj hA h1 hi h2
theorem clo_zero {P : List Txt} (hA : Asc P) (hC : Clo P) : 0 < P.length ∧ P.getD 0 [] = [] := by
 obtain ⟨h1, h2⟩ := placeL_mem hC.1
 refine ⟨by omega, ?_⟩
 rcases Nat.eq_zero_or_pos (placeL P []) with h0 | h0
 ·
  rwa [h0] at h2
 have := asc_get hA h1 h0
 rw [h2] at this
 exact absurd this (List.not_lt_nil _)
theorem clo_pos {P : List Txt} (hA : Asc P) (hC : Clo P) {i : Nat} (hi : i < P.length) (h0 : 0 < i) : P.getD i [] ≠ [] := fun e => by
 obtain ⟨h1, h2⟩ := clo_zero hA hC
 have := asc_inj hA hi h1 (e.trans h2.symm)
 omega
theorem clo_parent {P : List Txt} (hA : Asc P) (hC : Clo P) {i : Nat} (hi : i < P.length) (h0 : 0 < i) :
  placeL P (P.getD i []).dropLast < i ∧ P.getD (placeL P (P.getD i []).dropLast) [] = (P.getD i []).dropLast := by
 have hne := clo_pos hA hC hi h0
 obtain ⟨h1, h2⟩ := placeL_mem (hC.2 _ (getD_mem hi) hne)
 exact ⟨asc_get_lt hA h1 hi (by rw [h2]; exact txt_dropLast_lt _ hne), h2⟩
def ltrOf (p : Txt) : Int := (((p.getD (p.length - 1) 0).toNat : Int) - 97) % 256
def ndL (P ws : List Txt) (p : Txt) : Int × Int × Bool := (if p = [] then -1 else ltrOf p, if p = [] then -1 else (placeL P p.dropLast : Int), decide (p ∈ ws))
def nodesL (P ws : List Txt) : List (Int × Int × Bool) := P.map (ndL P ws)
def wordL (w : Txt) : Bool := w.all letterB && decide (w.length ≤ 12)
structure OkW (ws : List Txt) : Prop where
 asc : Asc ws
 len : ws.length ≤ 40
 word : ∀ w ∈ ws, wordL w = true
theorem wordL_iff {w : Txt} : wordL w = true ↔ (∀ c ∈ w, letterB c = true) ∧ w.length ≤ 12 := by
 unfold wordL
 rw [Bool.and_eq_true, List.all_eq_true, decide_eq_true_eq]
theorem OkW.le {ws : List Txt} (h : OkW ws) : ∀ w ∈ ws, w.length ≤ 12 := fun w hw => (wordL_iff.1 (h.word w hw)).2
theorem OkW.pre {ws : List Txt} (h : OkW ws) : (preL ws).length ≤ 481 := by
 have h1 := preL_length h.le
 have h2 := h.len
 omega
theorem wordL_pre {p w : Txt} (h : p <+: w) (hw : wordL w = true) : wordL p = true := by
 obtain ⟨h1, h2⟩ := wordL_iff.1 hw
 exact wordL_iff.2 ⟨fun c hc => h1 c (h.subset hc), Nat.le_trans h.length_le h2⟩
theorem preL_word {ws : List Txt} (h : ∀ w ∈ ws, wordL w = true) {p : Txt} (hp : p ∈ preL ws) : wordL p = true := by
 rcases mem_preL.1 hp with rfl | ⟨w, hw, _, h1⟩
 ·
  rfl
 exact wordL_pre h1 (h w hw)
theorem letter_bd {c : UInt8} (h : letterB c = true) : 97 ≤ c.toNat ∧ c.toNat ≤ 122 := by simpa [letterB] using h
theorem getLast_mem {p : Txt} (h : p ≠ []) : p.getD (p.length - 1) 0 ∈ p := by
 have := List.length_pos_iff.2 h
 rw [getD_lt 0 (show p.length - 1 < p.length by omega)]
 exact List.getElem_mem _
theorem ltrOf_bd {p : Txt} (hw : wordL p = true) (h : p ≠ []) : ltrOf p = ((p.getD (p.length - 1) 0).toNat : Int) - 97 ∧ 0 ≤ ltrOf p ∧ ltrOf p ≤ 25 := by
 have h1 := letter_bd ((wordL_iff.1 hw).1 _ (getLast_mem h))
 unfold ltrOf
 omega
theorem filter_preL {ws : List Txt} (h : Asc ws) : (preL ws).filter (fun p => decide (p ∈ ws)) = ws := by
 refine asc_ext _ _ ((asc_preL ws).filter _) h fun y => ?_
 rw [List.mem_filter, decide_eq_true_eq]
 exact ⟨fun h => h.2, fun h => ⟨self_preL h, h⟩⟩
def kidsL (P : List Txt) (p : Txt) : List Txt := P.filter fun q => decide (q ≠ [] ∧ q.dropLast = p)
def stayL (P ws : List Txt) (p : Txt) : Bool := decide (p = []) || decide (p ∈ ws) || decide ((kidsL P p).length ≠ 1)
def stayQ (P ws : List Txt) : List Txt := P.filter (stayL P ws)
def upF (P ws : List Txt) : Nat → Txt → Txt
 | 0, _ => []
 | n + 1, p => if stayL P ws p.dropLast = true then p.dropLast else upF P ws n p.dropLast
def upL (P ws : List Txt) (p : Txt) : Txt := upF P ws p.length p
theorem stay_nil (P ws : List Txt) : stayL P ws [] = true := by unfold stayL; simp
theorem upF_spec {P : List Txt} (ws : List Txt) (hC : Clo P) : ∀ (n : Nat) (p : Txt), p.length = n → p ∈ P → p ≠ [] → upF P ws n p <+: p ∧ (upF P ws n p).length < p.length ∧ upF P ws n p ∈ P ∧ stayL P ws (upF P ws n p) = true
 | 0, p, h, _, hne => absurd (List.eq_nil_of_length_eq_zero h) hne
 | n + 1, p, h, hp, hne => by
  have hd := hC.2 p hp hne
  have hl : p.dropLast.length = n := by rw [List.length_dropLast]; omega
  rw [upF]
  by_cases hs : stayL P ws p.dropLast = true
  ·
   rw [if_pos hs]
   exact ⟨List.dropLast_prefix p, by omega, hd, hs⟩
  rw [if_neg hs]
  have hne2 : p.dropLast ≠ [] := fun e => hs (by rw [e]; exact stay_nil P ws)
  obtain ⟨h1, h2, h3, h4⟩ := upF_spec ws hC n p.dropLast hl hd hne2
  exact ⟨h1.trans (List.dropLast_prefix p), by omega, h3, h4⟩
theorem upL_spec {P : List Txt} (ws : List Txt) (hC : Clo P) {p : Txt} (hp : p ∈ P) (hne : p ≠ []) : upL P ws p <+: p ∧ (upL P ws p).length < p.length ∧ upL P ws p ∈ P ∧ stayL P ws (upL P ws p) = true := upF_spec ws hC _ p rfl hp hne
theorem prefix_lt {p q : Txt} (h : p <+: q) (hl : p.length < q.length) : p < q := by
 obtain ⟨r, rfl⟩ := h
 cases r with
 | nil => rw [List.append_nil] at hl; omega
 | cons x r =>
  induction p with
  | nil => exact List.nil_lt_cons x r
  | cons a p ih => exact List.cons_lt_cons_iff.2 (.inr ⟨rfl, ih (by simp)⟩)
theorem asc_stayQ {P : List Txt} (ws : List Txt) (hA : Asc P) : Asc (stayQ P ws) := hA.filter _
theorem mem_stayQ {P ws : List Txt} {p : Txt} : p ∈ stayQ P ws ↔ p ∈ P ∧ stayL P ws p = true := List.mem_filter
theorem nil_stayQ {P : List Txt} (ws : List Txt) (hC : Clo P) : [] ∈ stayQ P ws := mem_stayQ.2 ⟨hC.1, stay_nil P ws⟩
theorem up_stayQ {P : List Txt} (ws : List Txt) (hC : Clo P) {p : Txt} (hp : p ∈ stayQ P ws) (hne : p ≠ []) : upL P ws p ∈ stayQ P ws := by
 obtain ⟨_, _, h3, h4⟩ := upL_spec ws hC (mem_stayQ.1 hp).1 hne
 exact mem_stayQ.2 ⟨h3, h4⟩
theorem stayQ_zero {P : List Txt} (ws : List Txt) (hA : Asc P) (hC : Clo P) : 0 < (stayQ P ws).length ∧ (stayQ P ws).getD 0 [] = [] := by
 obtain ⟨h1, h2⟩ := placeL_mem (nil_stayQ ws hC)
 refine ⟨by omega, ?_⟩
 rcases Nat.eq_zero_or_pos (placeL (stayQ P ws) []) with h0 | h0
 ·
  rwa [h0] at h2
 have := asc_get (asc_stayQ ws hA) h1 h0
 rw [h2] at this
 exact absurd this (List.not_lt_nil _)
theorem stayQ_pos {P : List Txt} (ws : List Txt) (hA : Asc P) (hC : Clo P) {i : Nat} (hi : i < (stayQ P ws).length) (h0 : 0 < i) : (stayQ P ws).getD i [] ≠ [] := fun e => by
 obtain ⟨h1, h2⟩ := stayQ_zero ws hA hC
 have := asc_inj (asc_stayQ ws hA) hi h1 (e.trans h2.symm)
 omega
theorem stayQ_parent {P : List Txt} (ws : List Txt) (hA : Asc P) (hC : Clo P) {i : Nat} (hi : i < (stayQ P ws).length) (h0 : 0 < i) :
  placeL (stayQ P ws) (upL P ws ((stayQ P ws).getD i [])) < i ∧ (stayQ P ws).getD (placeL (stayQ P ws) (upL P ws ((stayQ P ws).getD i []))) [] = upL P ws ((stayQ P ws).getD i []) := by
 have hne := stayQ_pos ws hA hC hi h0
 have hm := getD_mem hi
 obtain ⟨h1, h2⟩ := placeL_mem (up_stayQ ws hC hm hne)
 obtain ⟨u1, u2, _, _⟩ := upL_spec ws hC (mem_stayQ.1 hm).1 hne
 exact ⟨asc_get_lt (asc_stayQ ws hA) h1 hi (by rw [h2]; exact prefix_lt u1 u2), h2⟩
def brL (P ws : List Txt) (p : Txt) : Txt × Int × Bool := (if p = [] then [] else p.drop (upL P ws p).length, if p = [] then -1 else (placeL (stayQ P ws) (upL P ws p) : Int), decide (p ∈ ws))
def brsL (P ws : List Txt) : List (Txt × Int × Bool) := (stayQ P ws).map (brL P ws)
theorem up_append {P : List Txt} (ws : List Txt) (hC : Clo P) {p : Txt} (hp : p ∈ P) (hne : p ≠ []) : upL P ws p ++ p.drop (upL P ws p).length = p := by
 obtain ⟨⟨r, hr⟩, _⟩ := upL_spec ws hC hp hne
 have : p.drop (upL P ws p).length = r := by
  have := congrArg (List.drop (upL P ws p).length) hr
  rw [List.drop_left] at this
  exact this.symm
 rw [this, hr]
theorem drop_ne {P : List Txt} (ws : List Txt) (hC : Clo P) {p : Txt} (hp : p ∈ P) (hne : p ≠ []) : p.drop (upL P ws p).length ≠ [] := fun e => by
 obtain ⟨_, h2, _⟩ := upL_spec ws hC hp hne
 have := congrArg List.length e
 rw [List.length_drop, List.length_nil] at this
 omega
theorem filter_stayQ {ws : List Txt} (h : Asc ws) : (stayQ (preL ws) ws).filter (fun p => decide (p ∈ ws)) = ws := by
 refine asc_ext _ _ ((asc_stayQ ws (asc_preL ws)).filter _) h fun y => ?_
 rw [List.mem_filter, decide_eq_true_eq]
 refine ⟨fun h => h.2, fun h => ⟨mem_stayQ.2 ⟨self_preL h, ?_⟩, h⟩⟩
 unfold stayL
 rw [decide_eq_true h, Bool.or_true, Bool.true_or]
theorem placeL_filter {P : List Txt} (hA : Asc P) (f : Txt → Bool) {i : Nat} (hi : i < P.length) (hf : f (P.getD i []) = true) : placeL (P.filter f) (P.getD i []) = ((P.take i).filter f).length := by
 have h1 : P = P.take i ++ P.getD i [] :: P.drop (i + 1) := by rw [← drop_cons_getD [] hi, List.take_append_drop]
 have h2 : P.filter f = (P.take i).filter f ++ P.getD i [] :: (P.drop (i + 1)).filter f := by
  conv => lhs; rw [h1]
  rw [List.filter_append, List.filter_cons, if_pos hf]
 have hA2 := hA.filter f
 have hl : ((P.take i).filter f).length < (P.filter f).length := by rw [h2]; simp
 have hg : (P.filter f).getD ((P.take i).filter f).length [] = P.getD i [] := by
  rw [h2, List.getD_eq_getElem?_getD, List.getElem?_append_right (Nat.le_refl _), Nat.sub_self]
  rfl
 have := placeL_get hA2 hl
 rwa [hg] at this
theorem filter_take_succ {P : List Txt} (f : Txt → Bool) {i : Nat} (hi : i < P.length) : (P.take (i + 1)).filter f = (P.take i).filter f ++ (if f (P.getD i []) = true then [P.getD i []] else []) := by
 rw [take_succ_getD [] hi, List.filter_append, List.filter_cons, List.filter_nil]
theorem upL_step {P : List Txt} (ws : List Txt) {q : Txt} (h : q ≠ []) : upL P ws q = if stayL P ws q.dropLast = true then q.dropLast else upL P ws q.dropLast := by
 unfold upL
 obtain ⟨n, hn⟩ : ∃ n, q.length = n + 1 := ⟨q.length - 1, by have := List.length_pos_iff.2 h; omega⟩
 rw [hn, upF, show q.dropLast.length = n from by rw [List.length_dropLast]; omega]
end Go.Proofs.YtfhffcefpnkllaaGreatDoor.M
namespace Go.Proofs.YtfhffcefpnkllaaGreatDoor.L
open Go.RowKit Go.Proofs.YtfhffcefpnkllaaGreatDoor.P Go.Proofs.YtfhffcefpnkllaaGreatDoor.M Go.Proofs.YtfhffcefpnkllaaGreatDoorW.PrintWords Go.Proofs.YtfhffcefpnkllaaGreatDoorW.PrintLast Go.Proofs.YtfhffcefpnkllaaGreatDoorW.PrintMore
theorem l1In_eq (a b c : Int) : sF51.f a b c = some (decide (b ≤ a ∧ a ≤ c)) := by
 unfold sF51.f
 by_cases h : b ≤ a
 ·
  rw [if_pos (by omega)]; simp [h]
 rw [if_neg (by omega)]; simp [h]
instance : DecidableEq S76 := fun a b => if h : a.f0 = b.f0 ∧ a.f1 = b.f1 ∧ a.f2 = b.f2 then isTrue (by obtain ⟨a0, a1, a2⟩ := a; obtain ⟨b0, b1, b2⟩ := b; obtain ⟨h1, h2, h3⟩ := h; simp only at h1 h2 h3; subst h1 h2 h3; rfl) else isFalse (fun e => h (by rw [e]; exact ⟨rfl, rfl, rfl⟩))
def mkN (x : Int × Int × Bool) : S76 := ⟨x.1, x.2.1, x.2.2⟩
def trN (P ws : List Txt) : List S76 := (nodesL P ws).map mkN
theorem trN_length (P ws : List Txt) : (trN P ws).length = P.length := by simp [trN, nodesL]
theorem rdN (P ws : List Txt) (i : Nat) (h : i < P.length) : rd_T76 (trN P ws) (i : Int) = mkN (ndL P ws (P.getD i [])) := by
 unfold rd_T76 trN nodesL
 rw [Int.toNat_natCast, getD_lt _ (by simpa using h), getD_lt _ h]
 simp
theorem strOfNums_B (n : Int) : strOfNums [n] = B [UInt8.ofNat n.toNat] := rfl
theorem letter_back {p : Txt} (hw : wordL p = true) (h : p ≠ []) : strOfNums [(wrap64 (97 + ltrOf p)) % 256] = B [p.getD (p.length - 1) 0] := by
 obtain ⟨h1, h2, h3⟩ := ltrOf_bd hw h
 have h4 := letter_bd ((wordL_iff.1 hw).1 _ (getLast_mem h))
 rw [strOfNums_B]
 congr 2
 have e : (wrap64 (97 + ltrOf p) % 256).toNat = (p.getD (p.length - 1) 0).toNat := by rw [wrap64_id (by omega) (by omega)]; omega
 rw [e]
 simp
theorem l2Word_loop (l : Txt) (hl : l.length ≤ 4611686018427387903) : ∀ (d n : Nat), n + d = l.length → Ev (fun k => sF65.l0 k (B l) (n : Int)) ((l.drop n).all letterB && decide (l.length ≤ 12)) := by
 have last : ∀ n : Nat, Ev (fun k => sF65.j1 k (B l) (n : Int) false) (decide (l.length ≤ 12)) := by
  intro n
  refine Ev.step (fun k => sF65.j1.eq_2 ..) (Ev.ifF (by simp) ?_)
  have : decide (((B l).size : Int) ≤ 12) = decide (l.length ≤ 12) := by simp; omega
  rw [this]; exact Ev.now _
 intro d
 induction d with
 | zero =>
  intro n hn
  refine Ev.step (fun k => sF65.l0.eq_2 ..) (Ev.ifF (by simp; omega) ?_)
  rw [List.drop_of_length_le (by omega)]; simpa using last n
 | succ d ih =>
  intro n hn
  have h1 : n < l.length := by omega
  refine Ev.step (fun k => sF65.l0.eq_2 ..) (Ev.ifT (by simp; omega) ?_)
  rw [drop_cons_getD 0 h1]
  by_cases h16 : n ≤ 12
  ·
   rw [show decide ((n : Int) ≤ 12) = true from by simp; omega]
   refine Ev.step (fun k => sF65.j1.eq_2 ..) (Ev.ifT rfl (Ev.ifT (by omega) (Ev.ifT (by simp; omega) ?_)))
   simp only [bt_B l n h1]
   by_cases ha : ((l.getD n 0).toNat : Int) < 97
   ·
    refine Ev.ifT ha ?_
    have : letterB (l.getD n 0) = false := by simp only [letterB, decide_eq_false_iff_not]; omega
    simpa only [List.all_cons, this, Bool.false_and] using Ev.now false
   refine Ev.ifF ha ?_
   by_cases hz : ((l.getD n 0).toNat : Int) > 122
   ·
    refine Ev.ifT hz ?_
    have : letterB (l.getD n 0) = false := by simp only [letterB, decide_eq_false_iff_not]; omega
    simpa only [List.all_cons, this, Bool.false_and] using Ev.now false
   refine Ev.ifF hz ?_
   have : letterB (l.getD n 0) = true := by simp only [letterB, decide_eq_true_eq]; omega
   simpa only [wrap64_succ n (by omega), List.all_cons, this, Bool.true_and] using ih (n + 1) (by omega)
  rw [show decide ((n : Int) ≤ 12) = false from by simp; omega]
  have : ((l.getD n 0 :: l.drop (n + 1)).all letterB && decide (l.length ≤ 12)) = decide (l.length ≤ 12) := by
   have : decide (l.length ≤ 12) = false := by simp; omega
   rw [this]; simp
  rw [this]; exact last n
theorem l2Word_ev (l : Txt) (hl : l.length ≤ 4611686018427387903) : Ev (fun k => sF65.f k (B l)) (wordL l) := by
 simpa [sF65.f, wordL] using l2Word_loop l hl l.length 0 (by omega)
theorem l2Prefix_last (x1 : Int) (s : Txt) (N : List S76) : Ev (fun k => sF58.j1 k x1 (B s) false N) (if x1 = 0 then B s else B [63]) := by
 refine Ev.step (fun k => sF58.j1.eq_2 ..) (Ev.ifF (by simp) ?_)
 by_cases h : x1 = 0
 ·
  have e : (if x1 = 0 then B s else B [63]) = B s := if_pos h
  rw [e]; exact Ev.ifT h (Ev.now _)
 have e : (if x1 = 0 then B s else B [63]) = B [63] := if_neg h
 rw [e]; exact Ev.ifF h (Ev.now _)
theorem l2Prefix_ex (N : List S76) : ∀ (d : Nat) (x1 : Int) (s : Txt), x1.toNat ≤ d → x1 < N.length → s.length ≤ 13 → ∃ r : Txt, r.length ≤ 13 ∧ Ev (fun k => sF58.l0 k x1 (B s) N) (B r) := by
 have low : ∀ (x1 : Int) (s : Txt), x1 ≤ 0 → s.length ≤ 13 → ∃ r : Txt, r.length ≤ 13 ∧ Ev (fun k => sF58.l0 k x1 (B s) N) (B r) := by
  intro x1 s h1 h2
  have hl := l2Prefix_last x1 s N
  by_cases h : x1 = 0
  ·
   rw [if_pos h] at hl; exact ⟨s, h2, Ev.step (fun k => sF58.l0.eq_2 ..) (Ev.ifF (by omega) hl)⟩
  rw [if_neg h] at hl; exact ⟨[63], by simp, Ev.step (fun k => sF58.l0.eq_2 ..) (Ev.ifF (by omega) hl)⟩
 intro d
 induction d with
 | zero => intro x1 s h1 h2 h3; exact low x1 s (by omega) h3
 | succ d ih =>
  intro x1 s h1 h2 h3
  by_cases hp : x1 ≤ 0
  ·
   exact low x1 s hp h3
  by_cases h12 : s.length ≤ 12
  rotate_left
  ·
   have hd : decide (((B s).size : Int) ≤ 12) = false := by simp; omega
   refine ⟨[63], by simp, Ev.step (fun k => sF58.l0.eq_2 ..) (Ev.ifT (by omega) ?_)⟩
   rw [hd]
   have hl := l2Prefix_last x1 s N
   rwa [if_neg (by omega)] at hl
  have hd : decide (((B s).size : Int) ≤ 12) = true := by simp; omega
  by_cases hin : (0 : Int) ≤ (rd_T76 N x1).f0 ∧ (rd_T76 N x1).f0 ≤ 25
  ·
   by_cases hpar : (rd_T76 N x1).f1 ≥ x1
   ·
    refine ⟨[63], by simp, Ev.step (fun k => sF58.l0.eq_2 ..) (Ev.ifT (by omega) ?_)⟩
    rw [hd]
    refine Ev.step (fun k => sF58.j1.eq_2 ..) (Ev.ifT rfl (Ev.ifT (by omega) (Ev.ifT h2 ?_)))
    rw [l1In_eq, decide_eq_true hin]
    exact Ev.some_bind (Ev.ifT rfl (Ev.ifT hpar (Ev.now _)))
   obtain ⟨r, hr, he⟩ := ih (rd_T76 N x1).f1 (UInt8.ofNat ((wrap64 (97 + (rd_T76 N x1).f0)) % 256).toNat :: s) (by omega) (by omega) (by simp; omega)
   refine ⟨r, hr, Ev.step (fun k => sF58.l0.eq_2 ..) (Ev.ifT (by omega) ?_)⟩
   rw [hd]
   refine Ev.step (fun k => sF58.j1.eq_2 ..) (Ev.ifT rfl (Ev.ifT (by omega) (Ev.ifT h2 ?_)))
   rw [l1In_eq, decide_eq_true hin]
   refine Ev.some_bind (Ev.ifT rfl (Ev.ifF hpar (Ev.some_bind ?_)))
   rw [strOfNums_B, append_B]
   exact Ev.ifT (by simp; omega) he
  refine ⟨[63], by simp, Ev.step (fun k => sF58.l0.eq_2 ..) (Ev.ifT (by omega) ?_)⟩
  rw [hd]
  refine Ev.step (fun k => sF58.j1.eq_2 ..) (Ev.ifT rfl (Ev.ifT (by omega) (Ev.ifT h2 ?_)))
  rw [l1In_eq, decide_eq_false hin]
  exact Ev.some_bind (Ev.ifF (by simp) (Ev.now _))
theorem l2Prefix_up {P : List Txt} (ws : List Txt) (hA : Asc P) (hC : Clo P) (hW : ∀ p ∈ P, wordL p = true) : ∀ (n : Nat) (p s : Txt), p.length = n → p ∈ P → (p ++ s).length ≤ 12 → Ev (fun k => sF58.l0 k (placeL P p : Int) (B s) (trN P ws)) (B (p ++ s)) := by
 intro n
 induction n with
 | zero =>
  intro p s h1 h2 h3
  have hp : p = [] := List.eq_nil_of_length_eq_zero h1
  subst hp
  obtain ⟨z1, z2⟩ := clo_zero hA hC
  have hz : placeL P [] = 0 := by have := placeL_get hA z1; rwa [z2] at this
  rw [hz]
  have hl := l2Prefix_last ((0 : Nat) : Int) s (trN P ws)
  exact Ev.step (fun k => sF58.l0.eq_2 ..) (Ev.ifF (by simp) (by simpa using hl))
 | succ n ih =>
  intro p s h1 h2 h3
  have hne : p ≠ [] := fun e => by rw [e] at h1; simp at h1
  obtain ⟨i1, i2⟩ := placeL_mem h2
  have i3 : 0 < placeL P p := by
   rcases Nat.eq_zero_or_pos (placeL P p) with h0 | h0
   ·
    rw [h0, (clo_zero hA hC).2] at i2; exact absurd i2.symm hne
   exact h0
  obtain ⟨j1, j2⟩ := clo_parent hA hC i1 i3
  rw [i2] at j1 j2
  have hsl : s.length ≤ 12 := by rw [List.length_append] at h3; omega
  have hd : decide (((B s).size : Int) ≤ 12) = true := by simp; omega
  have hf : rd_T76 (trN P ws) (placeL P p : Int) = ⟨ltrOf p, (placeL P p.dropLast : Int), decide (p ∈ ws)⟩ := by
   rw [rdN P ws _ i1, i2]; unfold mkN ndL; rw [if_neg hne, if_neg hne]
  obtain ⟨_, b1, b2⟩ := ltrOf_bd (hW p h2) hne
  refine Ev.step (fun k => sF58.l0.eq_2 ..) (Ev.ifT (by omega) ?_)
  rw [hd]
  refine Ev.step (fun k => sF58.j1.eq_2 ..) (Ev.ifT rfl (Ev.ifT (by omega) (Ev.ifT (by rw [trN_length]; omega) ?_)))
  rw [hf, l1In_eq, decide_eq_true ⟨b1, b2⟩]
  refine Ev.some_bind (Ev.ifT rfl (Ev.ifF (by show ¬ ((placeL P p.dropLast : Nat) : Int) ≥ ((placeL P p : Nat) : Int); omega) (Ev.some_bind ?_)))
  rw [letter_back (hW p h2) hne, append_B]
  have hpd : p.dropLast.length = n := by rw [List.length_dropLast]; omega
  have e1 : p.dropLast ++ ([p.getD (p.length - 1) 0] ++ s) = p ++ s := by rw [← List.append_assoc, dropLast_getD p hne]
  refine Ev.ifT (by simp; omega) ?_
  have := ih p.dropLast ([p.getD (p.length - 1) 0] ++ s) hpd (hC.2 p h2 hne) (by rw [e1]; exact h3)
  rwa [e1] at this
theorem l2Prefix_ev {P : List Txt} (ws : List Txt) (hA : Asc P) (hC : Clo P) (hW : ∀ p ∈ P, wordL p = true) (i : Nat) (hi : i < P.length) : Ev (fun k => sF58.f k (trN P ws) (i : Int)) (B (P.getD i [])) := by
 have hm := getD_mem hi
 have := l2Prefix_up ws hA hC hW _ (P.getD i []) [] rfl hm (by rw [List.append_nil]; exact (wordL_iff.1 (hW _ hm)).2)
 rw [placeL_get hA hi, List.append_nil] at this
 exact this
def setR : List Txt → List Txt → List ByteArray × Bool
 | [], acc => (acc.map B, decide (acc.length ≤ 40))
 | w :: r, acc => if wordL w = true then setR r (putL acc w) else ([], false)
theorem setR_eq : ∀ (l acc : List Txt), setR l acc = if l.all wordL = true then ((l.foldl putL acc).map B, decide ((l.foldl putL acc).length ≤ 40)) else ([], false)
 | [], acc => rfl
 | w :: r, acc => by
  unfold setR
  rw [setR_eq r (putL acc w), List.all_cons, List.foldl_cons]
  cases h : wordL w with
  | false => rw [if_neg Bool.false_ne_true, if_neg (by rw [Bool.false_and]; exact Bool.false_ne_true)]
  | true => rw [if_pos rfl, Bool.true_and]
theorem l2Set_loop {b : Nat} (hb : b ≤ 1000000) (ws : List Txt) (hl : ws.length ≤ 2147483648) (hw : ∀ w ∈ ws, w.length ≤ b) : ∀ (d i : Nat) (acc : List Txt), i + d = ws.length → acc.length ≤ i → (∀ w ∈ acc, w.length ≤ b) →
  Ev (fun k => sF63.l0 k (ws.map B) (acc.map B) (i : Int)) (setR (ws.drop i) acc) := by
 intro d
 induction d with
 | zero =>
  intro i acc h1 h2 h3
  rw [List.drop_of_length_le (by omega)]
  refine Ev.step (fun k => sF63.l0.eq_2 ..) (Ev.ifF (by simp; omega) ?_)
  have : decide (((acc.map B).length : Int) ≤ 40) = decide (acc.length ≤ 40) := by
   rw [List.length_map]; exact decide_eq_decide.2 (by omega)
  rw [this]
  exact Ev.now _
 | succ d ih =>
  intro i acc h1 h2 h3
  have hi : i < ws.length := by omega
  have hm := getD_mem hi
  rw [drop_cons_getD [] hi]
  refine Ev.step (fun k => sF63.l0.eq_2 ..) (Ev.ifT (by simp; omega) (Ev.ifT (by omega) ?_))
  rw [rdB ws i hi]
  refine Ev.bind (f := fun k t => if t = true then (sF59.f (acc.map B) (B (ws.getD i []))).bind fun t165 => sF63.l0 k (ws.map B) t165 (wrap64 ((i : Int) + 1)) else some ([], false)) (l2Word_ev _ (by have := hw _ hm; omega)) ?_
  unfold setR
  cases hq : wordL (ws.getD i []) with
  | false =>
   rw [if_neg Bool.false_ne_true]
   exact Ev.ifF Bool.false_ne_true (Ev.now _)
  | true =>
   rw [if_pos (show true = true from rfl)]
   refine Ev.ifT rfl ?_
   rw [l2Put_eq acc _ (by omega) (fun x hx => by have := h3 x hx; omega)]
   refine Ev.some_bind ?_
   have h6 := putL_length_le acc (ws.getD i [])
   have := ih (i + 1) (putL acc (ws.getD i [])) (by omega) (by omega) (fun x hx => by
    rcases (mem_putL _ _ _).1 hx with rfl | hx
    ·
     exact hw _ hm
    exact h3 x hx)
   rw [wrap64_succ i (by omega)]
   exact this
theorem l2Set_ev {b : Nat} (ws : List Txt) (hl : ws.length ≤ 2147483648) (hw : ∀ w ∈ ws, w.length ≤ b) (hb : b ≤ 1000000 := by omega) : Ev (fun k => sF63.f k (ws.map B)) (if ws.all wordL = true then ((setL ws).map B, decide ((setL ws).length ≤ 40)) else ([], false)) := by
 have := l2Set_loop hb ws hl hw ws.length 0 [] (by omega) (by simp) (by simp)
 rw [List.drop_zero, setR_eq] at this
 exact this
theorem l2Has_loop (l : List Txt) (p : Txt) (hl : l.length ≤ 4611686018427387903) : ∀ (d i : Nat), i + d = l.length → Ev (fun k => sF53.l0 k (l.map B) (B p) (i : Int)) (decide (p ∈ l.drop i)) := by
 intro d
 induction d with
 | zero =>
  intro i h
  rw [List.drop_of_length_le (by omega)]
  exact Ev.step (fun k => sF53.l0.eq_2 ..) (Ev.ifF (by simp; omega) (by simpa using Ev.now false))
 | succ d ih =>
  intro i h
  have hi : i < l.length := by omega
  refine Ev.step (fun k => sF53.l0.eq_2 ..) (Ev.ifT (by simp; omega) (Ev.ifT (by omega) ?_))
  rw [rdB l i hi, drop_cons_getD [] hi, toList_B, toList_B]
  by_cases e : l.getD i [] = p
  ·
   rw [show decide (p ∈ l.getD i [] :: l.drop (i + 1)) = true from decide_eq_true (by rw [e]; exact List.mem_cons_self)]
   exact Ev.ifT e (Ev.now _)
  rw [show decide (p ∈ l.getD i [] :: l.drop (i + 1)) = decide (p ∈ l.drop (i + 1)) from decide_eq_decide.2 ⟨fun h => (List.mem_cons.1 h).resolve_left (fun q => e q.symm), fun h => List.mem_cons_of_mem _ h⟩]
  refine Ev.ifF e ?_
  rw [wrap64_succ i (by omega)]
  exact ih (i + 1) (by omega)
theorem l2Has_ev (l : List Txt) (p : Txt) (hl : l.length ≤ 4611686018427387903) : Ev (fun k => sF53.f k (l.map B) (B p)) (decide (p ∈ l)) := by
 have := l2Has_loop l p hl l.length 0 (by omega)
 rw [List.drop_zero] at this
 exact this
theorem l2Place_loop (l : List Txt) (p : Txt) (hl : l.length ≤ 4611686018427387903) : ∀ (d i : Nat), i + d = l.length → Ev (fun k => sF57.l0 k (l.map B) (B p) (i : Int)) (if p ∈ l.drop i then ((i + placeL (l.drop i) p : Nat) : Int) else -1) := by
 intro d
 induction d with
 | zero =>
  intro i h
  rw [List.drop_of_length_le (by omega)]
  exact Ev.step (fun k => sF57.l0.eq_2 ..) (Ev.ifF (by simp; omega) (by simpa using Ev.now (-1 : Int)))
 | succ d ih =>
  intro i h
  have hi : i < l.length := by omega
  refine Ev.step (fun k => sF57.l0.eq_2 ..) (Ev.ifT (by simp; omega) (Ev.ifT (by omega) ?_))
  rw [rdB l i hi, drop_cons_getD [] hi, toList_B, toList_B]
  by_cases e : l.getD i [] = p
  ·
   rw [if_pos (show p ∈ l.getD i [] :: l.drop (i + 1) from by rw [e]; exact List.mem_cons_self), placeL, if_pos e]
   exact Ev.ifT e (Ev.now _)
  refine Ev.ifF e ?_
  rw [wrap64_succ i (by omega)]
  have h1 := ih (i + 1) (by omega)
  by_cases hm : p ∈ l.drop (i + 1)
  ·
   rw [if_pos hm] at h1
   rw [if_pos (List.mem_cons_of_mem _ hm), placeL, if_neg e]
   rwa [show i + (placeL (l.drop (i + 1)) p + 1) = i + 1 + placeL (l.drop (i + 1)) p from by omega]
  rw [if_neg hm] at h1
  rw [if_neg (fun h => hm ((List.mem_cons.1 h).resolve_left (fun q => e q.symm)))]
  exact h1
theorem l2Place_ev (l : List Txt) (p : Txt) (hl : l.length ≤ 4611686018427387903) (h : p ∈ l) : Ev (fun k => sF57.f k (l.map B) (B p)) (placeL l p : Int) := by
 have := l2Place_loop l p hl l.length 0 (by omega)
 rw [List.drop_zero, if_pos h, Nat.zero_add] at this
 exact this
def begF (w : Txt) : Nat → Nat → List Txt
 | _, 0 => []
 | n, d + 1 => w.take n :: begF w (n + 1) d
theorem begF_eq (w : Txt) : ∀ d n, begF w n d = (List.range d).map fun j => w.take (n + j)
 | 0, _ => rfl
 | d + 1, n => by
  rw [begF, begF_eq w d (n + 1), List.range_succ_eq_map, List.map_cons, List.map_map]
  congr 1
  exact List.map_congr_left fun j _ => by show w.take (n + 1 + j) = w.take (n + (j + 1)); congr 1; omega
theorem begs_begF (w : Txt) : begs w = begF w 1 w.length := by
 rw [begF_eq]
 exact List.map_congr_left fun j _ => by congr 1; omega
theorem l2Of_in (ws : List Txt) (hl : ws.length ≤ 40) (hw : ∀ w ∈ ws, w.length ≤ 12) (i : Nat) (hi : i < ws.length) (r : List S76) (acc2 : List Txt) (hr : Ev (fun k => sF55.l0 k (ws.map B) (acc2.map B) ((i + 1 : Nat) : Int)) r) :
  ∀ (d n : Nat) (acc : List Txt), 0 < n → n + d = (ws.getD i []).length + 1 → (begF (ws.getD i []) n d).foldl putL acc = acc2 → acc.length + d ≤ 1000 → (∀ x ∈ acc, x.length ≤ 12) → Ev (fun k => sF55.l1 k (ws.map B) (acc.map B) (i : Int) (n : Int)) r := by
 have hwi := hw _ (getD_mem hi)
 intro d
 induction d with
 | zero =>
  intro n acc h0 h1 h2 h3 h4
  rw [begF, List.foldl_nil] at h2
  subst h2
  refine Ev.step (fun k => sF55.l1.eq_2 ..) (Ev.ifT (by omega) (Ev.ifT (by simp; omega) (Ev.ifF (by rw [rdB ws i hi, size_B]; omega) ?_)))
  rw [wrap64_succ i (by omega)]
  exact hr
 | succ d ih =>
  intro n acc h0 h1 h2 h3 h4
  refine Ev.step (fun k => sF55.l1.eq_2 ..) (Ev.ifT (by omega) (Ev.ifT (by simp; omega) (Ev.ifT (by rw [rdB ws i hi, size_B]; omega) (Ev.ifT (by omega) ?_))))
  rw [rdB ws i hi, extract_B, List.drop_zero, Int.toNat_natCast, Nat.sub_zero, l2Put_eq acc _ (by omega) (fun x hx => by have := h4 x hx; omega)]
  refine Ev.some_bind ?_
  rw [wrap64_succ n (by omega)]
  have h6 := putL_length_le acc ((ws.getD i []).take n)
  exact ih (n + 1) (putL acc ((ws.getD i []).take n)) (by omega) (by omega) (by rw [← h2]; rfl) (by omega) (fun x hx => by
   rcases (mem_putL _ _ _).1 hx with rfl | hx
   ·
    rw [List.length_take]; omega
   exact h4 x hx)
theorem l2Of_out (ws : List Txt) (hl : ws.length ≤ 40) (hw : ∀ w ∈ ws, w.length ≤ 12) (r : List S76) (all : List Txt) (hr : Ev (fun k => sF55.l2 k (ws.map B) (all.map B) 0 []) r) :
  ∀ (d i : Nat) (acc : List Txt), i + d = ws.length → ((ws.drop i).flatMap begs).foldl putL acc = all → acc.length + 12 * d ≤ 600 → (∀ x ∈ acc, x.length ≤ 12) → Ev (fun k => sF55.l0 k (ws.map B) (acc.map B) (i : Int)) r := by
 intro d
 induction d with
 | zero =>
  intro i acc h1 h2 h3 h4
  rw [List.drop_of_length_le (by omega), List.flatMap_nil, List.foldl_nil] at h2
  subst h2
  exact Ev.step (fun k => sF55.l0.eq_2 ..) (Ev.ifF (by simp; omega) hr)
 | succ d ih =>
  intro i acc h1 h2 h3 h4
  have hi : i < ws.length := by omega
  have hwi := hw _ (getD_mem hi)
  rw [drop_cons_getD [] hi, List.flatMap_cons, List.foldl_append] at h2
  have h5 := foldl_putL_len (begs (ws.getD i [])) acc
  rw [begs_length] at h5
  have hn := ih (i + 1) _ (by omega) h2 (by omega) (fun x hx => by
   rcases (foldl_putL_mem _ _ _).1 hx with hx | hx
   ·
    exact Nat.le_trans (mem_begs.1 hx).2.length_le hwi
   exact h4 x hx)
  refine Ev.step (fun k => sF55.l0.eq_2 ..) (Ev.ifT (by simp; omega) ?_)
  exact l2Of_in ws hl hw i hi r _ hn (ws.getD i []).length 1 acc (by omega) (by omega) (by rw [← begs_begF]) (by omega) h4
theorem l2Of_nodes {ws P : List Txt} (hA : Asc P) (hC : Clo P) (hW : ∀ p ∈ P, wordL p = true) (hP : P.length ≤ 1000) (hl : ws.length ≤ 1000) : ∀ (d i : Nat) (acc : List S76), i + d = P.length → acc.length ≤ i →
  Ev (fun k => sF55.l2 k (ws.map B) (P.map B) (i : Int) acc) (acc ++ ((P.drop i).map fun p => mkN (ndL P ws p))) := by
 intro d
 induction d with
 | zero =>
  intro i acc h1 h2
  rw [List.drop_of_length_le (by omega), List.map_nil, List.append_nil]
  exact Ev.step (fun k => sF55.l2.eq_2 ..) (Ev.ifF (by simp; omega) (Ev.now _))
 | succ d ih =>
  intro i acc h1 h2
  have hi : i < P.length := by omega
  have hm := getD_mem hi
  rw [drop_cons_getD [] hi, List.map_cons]
  refine Ev.step (fun k => sF55.l2.eq_2 ..) (Ev.ifT (by simp; omega) (Ev.ifT (by omega) ?_))
  rw [rdB P i hi]
  refine Ev.bind (l2Has_ev ws (P.getD i []) (by omega)) ?_
  have hcons : ∀ x : S76, acc ++ (x :: (P.drop (i + 1)).map fun p => mkN (ndL P ws p)) = (acc ++ [x]) ++ (P.drop (i + 1)).map fun p => mkN (ndL P ws p) := fun x => by simp
  rw [hcons]
  by_cases h0 : i = 0
  ·
   have hp : P.getD i [] = [] := by rw [h0]; exact (clo_zero hA hC).2
   refine Ev.ifF (by omega) (Ev.ifT (by omega) ?_)
   have hx : mkN (ndL P ws (P.getD i [])) = ⟨-1, -1, decide (P.getD i [] ∈ ws)⟩ := by unfold mkN ndL; rw [if_pos hp, if_pos hp]
   rw [hx, wrap64_succ i (by omega)]
   exact ih (i + 1) _ (by omega) (by simp; omega)
  have hne := clo_pos hA hC hi (by omega)
  have hlen := List.length_pos_iff.2 hne
  have h12 := (wordL_iff.1 (hW _ hm)).2
  have hw1 : wrap64 (((B (P.getD i [])).size : Int) - 1) = ((P.getD i []).length - 1 : Nat) := by rw [size_B, wrap64_id (by omega) (by omega)]; omega
  rw [hw1]
  refine Ev.ifT (by omega) (Ev.ifT (by omega) (Ev.ifT (by rw [size_B]; omega) (Ev.ifT (by rw [size_B]; omega) ?_)))
  rw [extract_B, List.drop_zero, Int.toNat_natCast, Nat.sub_zero, ← List.dropLast_eq_take]
  refine Ev.bind (l2Place_ev P _ (by omega) (hC.2 _ hm hne)) (Ev.ifT (by omega) ?_)
  have hx : mkN (ndL P ws (P.getD i [])) = ⟨((bt (B (P.getD i [])) (((P.getD i []).length - 1 : Nat) : Int)) - 97) % 256, (placeL P (P.getD i []).dropLast : Int), decide (P.getD i [] ∈ ws)⟩ := by
   unfold mkN ndL
   rw [if_neg hne, if_neg hne, bt_B _ _ (by omega)]
   rfl
  rw [hx, wrap64_succ i (by omega)]
  exact ih (i + 1) _ (by omega) (by simp; omega)
theorem l2Of_ev {ws : List Txt} (h : OkW ws) : Ev (fun k => sF55.f k (ws.map B)) (trN (preL ws) ws) := by
 have h1 := h.pre
 have h2 := h.len
 have hn := l2Of_nodes (ws := ws) (asc_preL ws) (clo_preL ws) (fun p hp => preL_word h.word hp) (by omega) (by omega) (preL ws).length 0 [] (by omega) (by simp)
 rw [List.drop_zero, List.nil_append] at hn
 have e : (preL ws).map (fun p => mkN (ndL (preL ws) ws p)) = trN (preL ws) ws := by unfold trN nodesL; rw [List.map_map]; rfl
 rw [e] at hn
 exact l2Of_out ws h.len h.le _ (preL ws) hn ws.length 0 [[]] (by omega) rfl (by simp; omega) (by simp)
theorem rd_get (N : List S76) (i : Nat) (h : i < N.length) : rd_T76 N (i : Int) = N[i] := by
 unfold rd_T76
 rw [Int.toNat_natCast, getD_lt _ h]
theorem okW_setL {ws : List Txt} (h : ws.all wordL = true) (hl : (setL ws).length ≤ 40) : OkW (setL ws) := ⟨asc_setL ws, hl, fun w hw => List.all_eq_true.1 h w ((mem_setL ws w).1 hw)⟩
def IsTr (N : List S76) : Prop := ∃ ws, OkW ws ∧ N = trN (preL ws) ws
theorem IsTr.len {N : List S76} (h : IsTr N) : 1 ≤ N.length ∧ N.length ≤ 481 := by
 obtain ⟨ws, h, rfl⟩ := h
 rw [trN_length]
 exact ⟨(clo_zero (asc_preL ws) (clo_preL ws)).1, h.pre⟩
theorem in_eq (a b c : Int) : iF21.f a b c = some (decide (b ≤ a ∧ a ≤ c)) := by
 unfold iF21.f
 by_cases h : b ≤ a
 ·
  rw [if_pos (by omega)]; simp [h]
 rw [if_neg (by omega)]; simp [h]
abbrev Nd := S76
theorem bytesLess_eq : ∀ (x y : Txt), Op.bytesLess x y = decide (x < y)
 | [], [] => by rw [decide_eq_false (txt_irrefl [])]; rfl
 | _ :: _, [] => by rw [decide_eq_false (List.not_lt_nil _)]; rfl
 | [], b :: y => by rw [decide_eq_true (List.nil_lt_cons b y)]; rfl
 | a :: x, b :: y => by
  rw [Op.bytesLess, bytesLess_eq x y, Bool.eq_iff_iff, decide_eq_true_eq, List.cons_lt_cons_iff]
  simp
theorem less_eq (x y : Txt) : xF4.f (B x) (B y) = some (decide (x < y)) := by
 unfold xF4.f xF5.f
 rw [toList_B, toList_B, ← bytesLess_eq]
 simp
def Srt (ws : List Txt) : Prop := ∀ j, j + 1 < ws.length → ¬ ws.getD (j + 1) [] < ws.getD j []
theorem Srt.le {ws : List Txt} (h : Srt ws) (i : Nat) : ∀ d, i + d < ws.length → ¬ ws.getD (i + d) [] < ws.getD i []
 | 0, _ => txt_irrefl _
 | d + 1, hd => fun hlt => by
  have h1 := h.le i d (by omega)
  have h2 := h (i + d) (by omega)
  exact h1 (List.lt_of_le_of_lt (List.not_lt.1 h2) hlt)
theorem srt_asc {ws : List Txt} (h : Asc ws) : Srt ws := fun j hj => txt_asymm (asc_get h hj (Nat.lt_succ_self j))
theorem half_eq (i j : Nat) (h : i + j ≤ 4611686018427387903) : wrap64 ((IntKind.u64.wrap (wrap64 ((i : Int) + (j : Int)))) / 2) = (((i + j) / 2 : Nat) : Int) := by
 have e1 : wrap64 ((i : Int) + (j : Int)) = ((i + j : Nat) : Int) := by rw [wrap64_id (by omega) (by omega)]; omega
 have e2 : IntKind.u64.wrap (((i + j : Nat) : Int)) = ((i + j : Nat) : Int) := by
  simp [IntKind.wrap, IntKind.bits, IntKind.signed]; omega
 rw [e1, e2, wrap64_id (by omega) (by omega)]
 omega
theorem search_loop (ws : List Txt) (p : Txt) (hl : ws.length ≤ 1000000000) (hs : Srt ws) : ∀ (d i j : Nat), i + d = j → j ≤ ws.length → (∀ m, m < i → ws.getD m [] < p) → (∀ m, j ≤ m → m < ws.length → ¬ ws.getD m [] < p) →
  ∃ q : Nat, q ≤ ws.length ∧ (∀ m, m < q → ws.getD m [] < p) ∧ (∀ m, q ≤ m → m < ws.length → ¬ ws.getD m [] < p) ∧ Ev (fun k => xF44.l0 k (ws.map B) (B p) (ws.length : Int) (i : Int) (j : Int)) ((q : Int), decide (p ∈ ws)) := by
 intro d
 induction d using Nat.strongRecOn with
 | _ d ih =>
  intro i j h1 h2 h3 h4
  by_cases hij : i < j
  ·
   have hh : (i + j) / 2 < ws.length := by omega
   by_cases hlt : ws.getD ((i + j) / 2) [] < p
   ·
    obtain ⟨q, q1, q2, q3, q4⟩ := ih (j - ((i + j) / 2 + 1)) (by omega) ((i + j) / 2 + 1) j (by omega) h2 (fun m hm => by
     by_cases e : m = (i + j) / 2
     ·
      rw [e]; exact hlt
     by_cases hmi : m < i
     ·
      exact h3 m hmi
     have hle := hs.le m ((i + j) / 2 - m) (by omega)
     rw [show m + ((i + j) / 2 - m) = (i + j) / 2 from by omega] at hle
     exact List.lt_of_le_of_lt (List.not_lt.1 hle) hlt) h4
    refine ⟨q, q1, q2, q3, Ev.step (fun k => xF44.l0.eq_2 ..) (Ev.ifT (by omega) ?_)⟩
    rw [half_eq i j (by omega)]
    refine Ev.ifT (by omega) (Ev.ifT (by rw [List.length_map]; omega) ?_)
    rw [rdB ws _ hh, less_eq, decide_eq_true hlt]
    refine Ev.some_bind (Ev.ifT rfl ?_)
    rw [wrap64_succ _ (by omega)]
    exact q4
   obtain ⟨q, q1, q2, q3, q4⟩ := ih ((i + j) / 2 - i) (by omega) i ((i + j) / 2) (by omega) (by omega) h3 (fun m hm hml => by
    have hle := hs.le ((i + j) / 2) (m - (i + j) / 2) (by omega)
    rw [show (i + j) / 2 + (m - (i + j) / 2) = m from by omega] at hle
    exact fun hp => hlt (List.lt_of_le_of_lt (List.not_lt.1 hle) hp))
   refine ⟨q, q1, q2, q3, Ev.step (fun k => xF44.l0.eq_2 ..) (Ev.ifT (by omega) ?_)⟩
   rw [half_eq i j (by omega)]
   refine Ev.ifT (by omega) (Ev.ifT (by rw [List.length_map]; omega) ?_)
   rw [rdB ws _ hh, less_eq, decide_eq_false hlt]
   exact Ev.some_bind (Ev.ifF Bool.false_ne_true q4)
  obtain rfl : i = j := by omega
  refine ⟨i, h2, h3, h4, Ev.step (fun k => xF44.l0.eq_2 ..) (Ev.ifF (by omega) ?_)⟩
  by_cases hn : i < ws.length
  ·
   refine Ev.ifT (by omega) (Ev.ifT (by omega) (Ev.ifT (by rw [List.length_map]; omega) ?_))
   rw [rdB ws i hn, toList_B, toList_B]
   by_cases e : ws.getD i [] = p
   ·
    rw [decide_eq_true (show p ∈ ws from e ▸ getD_mem hn)]
    exact Ev.ifT e (Ev.now _)
   have hm : ¬ p ∈ ws := fun hp => by
    obtain ⟨z1, z2⟩ := placeL_mem hp
    have hz : i ≤ placeL ws p := by
     by_cases hzi : placeL ws p < i
     ·
      have := h3 _ hzi; rw [z2] at this; exact absurd this (txt_irrefl _)
     omega
    have hle := hs.le i (placeL ws p - i) (by omega)
    rw [show i + (placeL ws p - i) = placeL ws p from by omega, z2] at hle
    exact e (txt_tri (h4 i (Nat.le_refl _) hn) hle)
   rw [decide_eq_false hm]
   refine Ev.ifF e ?_
   unfold xF48.f
   exact Ev.some_bind (Ev.ifF (by simp) (Ev.now _))
  have hm : ¬ p ∈ ws := fun hp => by
   obtain ⟨z1, z2⟩ := placeL_mem hp
   have := h3 _ (show placeL ws p < i by omega)
   rw [z2] at this
   exact txt_irrefl _ this
  rw [decide_eq_false hm]
  exact Ev.ifF (by omega) (Ev.now _)
theorem search_ev (ws : List Txt) (p : Txt) (hl : ws.length ≤ 1000000000) (hs : Srt ws) : ∃ q : Nat, q ≤ ws.length ∧ (∀ m, m < q → ws.getD m [] < p) ∧ (∀ m, q ≤ m → m < ws.length → ¬ ws.getD m [] < p) ∧ Ev (fun k => xF44.f k (ws.map B) (B p)) ((q : Int), decide (p ∈ ws)) := by
 unfold xF44.f
 have := search_loop ws p hl hs ws.length 0 ws.length (by omega) (Nat.le_refl _) (fun m hm => absurd hm (Nat.not_lt_zero _)) (fun m h1 h2 => absurd h2 (by omega))
 rw [List.length_map]
 exact this
def prefGo : List Nd → List Txt → Option (List Txt)
 | [], acc => some acc
 | n :: r, acc => if 0 ≤ n.f1 ∧ n.f1 < (acc.length : Int) ∧ 0 ≤ n.f0 ∧ n.f0 ≤ 25 then prefGo r (acc ++ [acc.getD n.f1.toNat [] ++ [UInt8.ofNat (97 + n.f0.toNat)]]) else none
def prefR : Option (List Txt) → List ByteArray × Bool
 | some ps => (ps.map B, true)
 | none => ([], false)
theorem letter_eq (n : Int) (h0 : 0 ≤ n) (h1 : n ≤ 25) : iF25.f n = some (B [UInt8.ofNat (97 + n.toNat)]) := by
 unfold iF25.f
 rw [strOfNums_B]
 congr 3
 rw [wrap64_id (by omega) (by omega)]
 congr 1
 omega
theorem getD_le {acc : List Txt} {b : Nat} (h : ∀ p ∈ acc, p.length ≤ b) (n : Nat) : (acc.getD n []).length ≤ b := by
 by_cases hn : n < acc.length
 ·
  exact h _ (getD_mem hn)
 rw [List.getD_eq_getElem?_getD, List.getElem?_eq_none (by omega)]; simp
theorem pref_loop (N' : List Nd) (hN : N'.length ≤ 1000000) : ∀ (d i : Nat) (acc : List Txt), i + d = N'.length → acc.length = i + 1 → (∀ p ∈ acc, p.length ≤ i) →
  Ev (fun k => iF14.l0 k (acc.map B) N' (N'.length : Int) (i : Int)) (prefR (prefGo (N'.drop i) acc)) := by
 intro d
 induction d with
 | zero =>
  intro i acc h1 h2 h3
  rw [List.drop_of_length_le (by omega)]
  exact Ev.step (fun k => iF14.l0.eq_2 ..) (Ev.ifF (by omega) (Ev.now _))
 | succ d ih =>
  intro i acc h1 h2 h3
  have hi : i < N'.length := by omega
  rw [List.drop_eq_getElem_cons hi]
  refine Ev.step (fun k => iF14.l0.eq_2 ..) (Ev.ifT (by omega) (Ev.ifT (by omega) (Ev.ifT (by omega) ?_)))
  rw [rd_get N' i hi, in_eq]
  unfold prefGo
  by_cases ha : 0 ≤ N'[i].f1 ∧ N'[i].f1 ≤ (i : Int)
  rotate_left
  ·
   rw [decide_eq_false ha, if_neg (fun h => ha ⟨h.1, by omega⟩)]
   exact Ev.some_bind (Ev.ifF Bool.false_ne_true (Ev.now _))
  rw [decide_eq_true ha]
  refine Ev.some_bind (Ev.ifT rfl ?_)
  rw [in_eq]
  by_cases hb : 0 ≤ N'[i].f0 ∧ N'[i].f0 ≤ 25
  rotate_left
  ·
   rw [decide_eq_false hb, if_neg (fun h => hb h.2.2)]
   exact Ev.some_bind (Ev.ifF Bool.false_ne_true (Ev.now _))
  rw [decide_eq_true hb, if_pos ⟨ha.1, by omega, hb.1, hb.2⟩]
  refine Ev.some_bind (Ev.ifT rfl (Ev.ifT ha.1 (Ev.ifT (by rw [List.length_map]; omega) ?_)))
  rw [letter_eq _ hb.1 hb.2]
  refine Ev.some_bind ?_
  obtain ⟨m, hm⟩ : ∃ m : Nat, N'[i].f1 = (m : Int) := ⟨N'[i].f1.toNat, by omega⟩
  have hml : m < acc.length := by omega
  have hmb := getD_le h3 m
  rw [hm, rdB acc m hml, Int.toNat_natCast]
  refine Ev.ifT (by rw [size_B, size_B, List.length_singleton]; omega) (Ev.ifT (by rw [List.length_map]; omega) ?_)
  rw [append_B, wrap64_succ i (by omega)]
  have := ih (i + 1) (acc ++ [acc.getD m [] ++ [UInt8.ofNat (97 + N'[i].f0.toNat)]]) (by omega) (by simp; omega) (fun p hp => by
   rcases List.mem_append.1 hp with hp | hp
   ·
    have := h3 p hp; omega
   rw [List.mem_singleton.1 hp]; simp; simpa using hmb)
  rw [List.map_append, List.map_singleton] at this
  exact this
def prefN (N : List Nd) : Option (List Txt) := if 1 ≤ N.length ∧ N.length ≤ 481 then prefGo (N.drop 1) [[]] else none
theorem prefixes_ev (N : List Nd) : Ev (fun k => iF14.f k N) (prefR (prefN N)) := by
 unfold iF14.f prefN
 simp only [in_eq]
 by_cases h : 1 ≤ N.length ∧ N.length ≤ 481
 ·
  rw [if_pos h, decide_eq_true (show (1 : Int) ≤ (N.length : Int) ∧ (N.length : Int) ≤ 481 by omega)]
  refine Ev.some_bind (Ev.ifT rfl (Ev.ifT (by omega) (Ev.some_bind ?_)))
  exact pref_loop (N.drop 1) (by rw [List.length_drop]; omega) (N.drop 1).length 0 [[]] (by omega) rfl (by simp)
 rw [if_neg h, decide_eq_false (show ¬ ((1 : Int) ≤ (N.length : Int) ∧ (N.length : Int) ≤ 481) by omega)]
 exact Ev.some_bind (Ev.ifF Bool.false_ne_true (Ev.now _))
theorem letterB_of (m : Nat) (h : m ≤ 25) : letterB (UInt8.ofNat (97 + m)) = true := by
 have : (UInt8.ofNat (97 + m)).toNat = 97 + m := by simp; omega
 simp only [letterB, this, decide_eq_true_eq]; omega
theorem prefGo_ok : ∀ (r : List Nd) (acc ps : List Txt), prefGo r acc = some ps → (∀ p ∈ acc, ∀ c ∈ p, letterB c = true) → (∀ p ∈ ps, ∀ c ∈ p, letterB c = true) ∧ ps.length = acc.length + r.length
 | [], acc, ps, h, ha => by
  obtain rfl := Option.some.inj h
  exact ⟨ha, rfl⟩
 | n :: r, acc, ps, h, ha => by
  unfold prefGo at h
  by_cases hc : 0 ≤ n.f1 ∧ n.f1 < (acc.length : Int) ∧ 0 ≤ n.f0 ∧ n.f0 ≤ 25
  ·
   rw [if_pos hc] at h
   obtain ⟨h1, h2⟩ := prefGo_ok r _ ps h (fun p hp c hcp => by
    rcases List.mem_append.1 hp with hp | hp
    ·
     exact ha p hp c hcp
    rw [List.mem_singleton.1 hp] at hcp
    rcases List.mem_append.1 hcp with hcp | hcp
    ·
     exact ha _ (getD_mem (by omega)) c hcp
    rw [List.mem_singleton.1 hcp]; exact letterB_of _ (by omega))
   exact ⟨h1, by rw [h2]; simp; omega⟩
  rw [if_neg hc] at h; cases h
theorem letter_last {p : Txt} (hw : wordL p = true) (h : p ≠ []) : UInt8.ofNat (97 + (ltrOf p).toNat) = p.getD (p.length - 1) 0 := by
 obtain ⟨h1, h2, h3⟩ := ltrOf_bd hw h
 have h4 := letter_bd ((wordL_iff.1 hw).1 _ (getLast_mem h))
 have e : 97 + (ltrOf p).toNat = (p.getD (p.length - 1) 0).toNat := by omega
 rw [e]; simp
theorem trN_get {P ws : List Txt} (i : Nat) (h : i < (trN P ws).length) : (trN P ws)[i] = mkN (ndL P ws (P.getD i [])) := by
 have h2 : i < P.length := by rwa [trN_length] at h
 rw [← rdN P ws i h2, rd_get _ i h]
theorem prefGo_tr {P : List Txt} (ws : List Txt) (hA : Asc P) (hC : Clo P) (hW : ∀ p ∈ P, wordL p = true) : ∀ (d i : Nat), i + d = P.length → 0 < i → prefGo ((trN P ws).drop i) (P.take i) = some P := by
 intro d
 induction d with
 | zero =>
  intro i h1 h2
  rw [List.drop_of_length_le (by rw [trN_length]; omega), List.take_of_length_le (by omega)]
  rfl
 | succ d ih =>
  intro i h1 h2
  have hi : i < P.length := by omega
  have hit : i < (trN P ws).length := by rw [trN_length]; exact hi
  have hne := clo_pos hA hC hi h2
  have hm := getD_mem hi
  obtain ⟨j1, j2⟩ := clo_parent hA hC hi h2
  obtain ⟨_, b1, b2⟩ := ltrOf_bd (hW _ hm) hne
  rw [List.drop_eq_getElem_cons hit, trN_get i hit]
  have hx : mkN (ndL P ws (P.getD i [])) = ⟨ltrOf (P.getD i []), (placeL P (P.getD i []).dropLast : Int), decide (P.getD i [] ∈ ws)⟩ := by unfold mkN ndL; rw [if_neg hne, if_neg hne]
  rw [hx]
  unfold prefGo
  have hl : (P.take i).length = i := by rw [List.length_take]; omega
  rw [if_pos ⟨Int.natCast_nonneg _, by show ((placeL P (P.getD i []).dropLast : Nat) : Int) < ((P.take i).length : Int); rw [hl]; exact Int.ofNat_lt.2 j1, b1, b2⟩]
  simp only [Int.toNat_natCast]
  have hg : (P.take i).getD (placeL P (P.getD i []).dropLast) [] = (P.getD i []).dropLast := by
   rw [getD_lt [] (by rw [hl]; exact j1), List.getElem_take, ← getD_lt [] (by omega), j2]
  rw [hg, letter_last (hW _ hm) hne, dropLast_getD _ hne, ← take_succ_getD [] hi]
  exact ih (i + 1) (by omega) (by omega)
theorem prefN_tr {ws : List Txt} (h : OkW ws) : prefN (trN (preL ws) ws) = some (preL ws) := by
 obtain ⟨z1, z2⟩ := clo_zero (asc_preL ws) (clo_preL ws)
 unfold prefN
 rw [trN_length, if_pos ⟨z1, h.pre⟩]
 have := prefGo_tr ws (asc_preL ws) (clo_preL ws) (fun p hp => preL_word h.word hp) ((preL ws).length - 1) 1 (by omega) (by omega)
 rw [show (preL ws).take 1 = [[]] from by rw [take_succ_getD [] z1, z2]; rfl] at this
 exact this
theorem prefixes_tr {ws : List Txt} (h : OkW ws) : Ev (fun k => iF14.f k (trN (preL ws) ws)) ((preL ws).map B, true) := by
 have := prefixes_ev (trN (preL ws) ws)
 rw [prefN_tr h] at this
 exact this
theorem trieOf_in (ws0 xs : List Txt) (w : Txt) (hw : w.length ≤ 12) (i : Nat) (hi : i ≤ 100000) (r : List Nd) (acc2 : List Txt) (hr : Ev (fun k => iF28.l0 k (ws0.map B) (acc2.map B) (xs.map B) (xs.length : Int) ((i + 1 : Nat) : Int)) r) :
  ∀ (d n : Nat) (acc : List Txt), n + d = w.length → acc ++ begF w (n + 1) d = acc2 → acc2.length ≤ 1000000 → Ev (fun k => iF28.l1 k (ws0.map B) (acc.map B) (B w) (xs.map B) (xs.length : Int) (i : Int) (w.length : Int) (n : Int)) r := by
 intro d
 induction d with
 | zero =>
  intro n acc h1 h2 h3
  rw [begF, List.append_nil] at h2
  subst h2
  refine Ev.step (fun k => iF28.l1.eq_2 ..) (Ev.ifF (by omega) ?_)
  rw [wrap64_succ i (by omega)]
  exact hr
 | succ d ih =>
  intro n acc h1 h2 h3
  have hl : acc.length ≤ 1000000 := by rw [← h2, List.length_append] at h3; omega
  refine Ev.step (fun k => iF28.l1.eq_2 ..) (Ev.ifT (by omega) ?_)
  rw [wrap64_succ n (by omega)]
  refine Ev.ifT (by omega) (Ev.ifT (by rw [size_B]; omega) (Ev.ifT (by rw [List.length_map]; omega) ?_))
  rw [extract_B, List.drop_zero, Int.toNat_natCast, Nat.sub_zero]
  have := ih (n + 1) (acc ++ [w.take (n + 1)]) (by omega) (by rw [← h2, begF]; simp) h3
  rw [List.map_append, List.map_singleton] at this
  exact this
theorem trieOf_out (ws0 xs : List Txt) (hl : xs.length ≤ 1000) (hw : ∀ w ∈ xs, w.length ≤ 12) (r : List Nd) (hr : Ev (fun k => iF28.l2 k (ws0.map B) ((preL xs).map B) ((preL xs).length : Int) 0 []) r) :
  ∀ (d i : Nat) (acc : List Txt), i + d = xs.length → acc ++ (xs.drop i).flatMap begs = [] :: xs.flatMap begs → Ev (fun k => iF28.l0 k (ws0.map B) (acc.map B) (xs.map B) (xs.length : Int) (i : Int)) r := by
 have hall := flatMap_begs_length xs hw
 have hpl := preL_length hw
 intro d
 induction d with
 | zero =>
  intro i acc h1 h2
  rw [List.drop_of_length_le (by omega), List.flatMap_nil, List.append_nil] at h2
  subst h2
  refine Ev.step (fun k => iF28.l0.eq_2 ..) (Ev.ifF (by omega) ?_)
  rw [set_eq _ (by rw [List.length_cons]; omega)]
  refine Ev.some_bind (Ev.ifT ?_ ?_)
  ·
   unfold SM.okL
   rw [Bool.and_eq_true, List.all_eq_true, decide_eq_true_eq]
   refine ⟨fun x hx => ?_, by rw [List.length_map]; show (preL xs).length ≤ _; omega⟩
   obtain ⟨y, hy, rfl⟩ := List.mem_map.1 hx
   have hy' : y ∈ preL xs := hy
   have : y.length ≤ 12 := by
    rcases mem_preL.1 hy' with rfl | ⟨w, hw', _, hp⟩
    ·
     simp
    exact Nat.le_trans hp.length_le (hw w hw')
   rw [decide_eq_true_eq, size_B]; omega
  rw [List.length_map]
  exact hr
 | succ d ih =>
  intro i acc h1 h2
  have hi : i < xs.length := by omega
  rw [drop_cons_getD [] hi, List.flatMap_cons, ← List.append_assoc] at h2
  refine Ev.step (fun k => iF28.l0.eq_2 ..) (Ev.ifT (by omega) (Ev.ifT (by omega) (Ev.ifT (by rw [List.length_map]; omega) ?_)))
  rw [rdB xs i hi, size_B]
  have hlen : (acc ++ begs (xs.getD i [])).length ≤ 1000000 := by
   have := congrArg List.length h2
   rw [List.length_append, List.length_cons] at this
   omega
  exact trieOf_in ws0 xs _ (hw _ (getD_mem hi)) i (by omega) r _ (ih (i + 1) _ (by omega) h2) (xs.getD i []).length 0 acc (by omega) (by rw [begs_begF]) hlen
theorem at_take {P : List Txt} (hA : Asc P) (q : Txt) (j : Nat) (hj : j < P.length) (hq : P.getD j [] = q) : ∀ n, n ≤ P.length → j < n → SM.at_ (List.take n (P.map B)) (B q) = (j : Int) := by
 intro n
 induction n with
 | zero => intro _ h; omega
 | succ n ih =>
  intro h1 h2
  have hn : n < P.length := by omega
  rw [← List.map_take, take_succ_getD [] hn, List.map_append, List.map_singleton]
  unfold SM.at_
  rw [List.reverse_append, List.reverse_singleton, List.singleton_append, SM.atR, data_B, data_B]
  by_cases e : P.getD n [] = q
  ·
   have : n = j := asc_inj hA hn hj (e.trans hq.symm)
   rw [if_pos e, List.length_reverse, List.length_map, List.length_take]; omega
  have hjn : j < n := by
   rcases Nat.lt_or_ge j n with h | h
   ·
    exact h
   have : j = n := by omega
   subst this; exact absurd hq e
  rw [if_neg e, List.map_take]
  exact ih (by omega) hjn
theorem trieOf_nodes {ws P : List Txt} (hs : Srt ws) (hA : Asc P) (hC : Clo P) (hW : ∀ p ∈ P, wordL p = true) (hP : P.length ≤ 100000) (hl : ws.length ≤ 100000) : ∀ (d i : Nat) (acc : List Nd), i + d = P.length → acc.length ≤ i →
  Ev (fun k => iF28.l2 k (ws.map B) (P.map B) (P.length : Int) (i : Int) acc) (acc ++ ((P.drop i).map fun p => mkN (ndL P ws p))) := by
 intro d
 induction d with
 | zero =>
  intro i acc h1 h2
  rw [List.drop_of_length_le (by omega), List.map_nil, List.append_nil]
  exact Ev.step (fun k => iF28.l2.eq_2 ..) (Ev.ifF (by omega) (Ev.now _))
 | succ d ih =>
  intro i acc h1 h2
  have hi : i < P.length := by omega
  have hm := getD_mem hi
  rw [drop_cons_getD [] hi, List.map_cons]
  refine Ev.step (fun k => iF28.l2.eq_2 ..) (Ev.ifT (by omega) (Ev.ifT (by omega) (Ev.ifT (by rw [List.length_map]; omega) ?_)))
  rw [rdB P i hi]
  obtain ⟨q, _, _, _, hq⟩ := search_ev ws (P.getD i []) (by omega) hs
  refine Ev.bind hq ?_
  have hcons : ∀ x : Nd, acc ++ (x :: (P.drop (i + 1)).map fun p => mkN (ndL P ws p)) = (acc ++ [x]) ++ (P.drop (i + 1)).map fun p => mkN (ndL P ws p) := fun x => by simp
  rw [hcons, toList_B]
  by_cases hp : P.getD i [] = []
  ·
   refine Ev.ifT hp (Ev.ifT (by omega) ?_)
   have hx : mkN (ndL P ws (P.getD i [])) = ⟨-1, -1, decide (P.getD i [] ∈ ws)⟩ := by unfold mkN ndL; rw [if_pos hp, if_pos hp]
   rw [hx, wrap64_succ i (by omega)]
   exact ih (i + 1) _ (by omega) (by simp; omega)
  have h0 : 0 < i := by
   rcases Nat.eq_zero_or_pos i with e | e
   ·
    rw [e, (clo_zero hA hC).2] at hp; exact absurd rfl hp
   exact e
  have hlen := List.length_pos_iff.2 hp
  have h12 := (wordL_iff.1 (hW _ hm)).2
  obtain ⟨j1, j2⟩ := clo_parent hA hC hi h0
  have hw1 : wrap64 (((B (P.getD i [])).size : Int) - 1) = ((P.getD i []).length - 1 : Nat) := by rw [size_B, wrap64_id (by omega) (by omega)]; omega
  rw [hw1]
  refine Ev.ifF hp (Ev.ifT (by omega) (Ev.ifT (by rw [size_B]; omega) (Ev.ifT (by rw [size_B]; omega) (Ev.ifT (by omega) ?_))))
  rw [extract_B, List.drop_zero, Int.toNat_natCast, Int.toNat_natCast, Nat.sub_zero, ← List.dropLast_eq_take, at_take hA _ _ (by omega) j2 (i + 1) (by omega) (by omega)]
  have hx : mkN (ndL P ws (P.getD i [])) = ⟨((bt (B (P.getD i [])) (((P.getD i []).length - 1 : Nat) : Int)) - 97) % 256, (placeL P (P.getD i []).dropLast : Int), decide (P.getD i [] ∈ ws)⟩ := by
   unfold mkN ndL
   rw [if_neg hp, if_neg hp, bt_B _ _ (by omega)]
   rfl
  rw [hx, wrap64_succ i (by omega)]
  exact ih (i + 1) _ (by omega) (by simp; omega)
theorem trieOf_srt {ws : List Txt} (hs : Srt ws) (hw : ∀ w ∈ ws, wordL w = true) (hl : ws.length ≤ 1000) : Ev (fun k => iF28.f k (ws.map B)) (trN (preL ws) ws) := by
 have hle : ∀ w ∈ ws, w.length ≤ 12 := fun w h => (wordL_iff.1 (hw w h)).2
 have hpl := preL_length hle
 have hn := trieOf_nodes hs (asc_preL ws) (clo_preL ws) (fun p hp => preL_word hw hp) (by omega) (by omega) (preL ws).length 0 [] (by omega) (by simp)
 rw [List.drop_zero, List.nil_append] at hn
 have e : (preL ws).map (fun p => mkN (ndL (preL ws) ws p)) = trN (preL ws) ws := by unfold trN nodesL; rw [List.map_map]; rfl
 rw [e] at hn
 unfold iF28.f
 rw [List.length_map]
 exact trieOf_out ws ws hl hle _ hn ws.length 0 [[]] (by omega) rfl
theorem trieOf_ev {ws : List Txt} (h : OkW ws) : Ev (fun k => iF28.f k (ws.map B)) (trN (preL ws) ws) := trieOf_srt (srt_asc h.asc) h.word (by have := h.len; omega)
theorem trN_set {ws : List Txt} : trN (preL ws) ws = trN (preL (setL ws)) (setL ws) := by
 have e : preL (setL ws) = preL ws := preL_congr fun w => mem_setL ws w
 rw [e]
 unfold trN nodesL
 rw [List.map_map, List.map_map]
 refine List.map_congr_left fun p _ => ?_
 show mkN (ndL (preL ws) ws p) = mkN (ndL (preL ws) (setL ws) p)
 unfold ndL
 rw [show decide (p ∈ ws) = decide (p ∈ setL ws) from decide_eq_decide.2 (mem_setL ws p).symm]
theorem f1_iff {P : List Txt} (ws : List Txt) (hA : Asc P) (hC : Clo P) {i j : Nat} (hi : i < P.length) (hj : j < P.length) : (rd_T76 (trN P ws) (j : Int)).f1 = (i : Int) ↔ P.getD j [] ≠ [] ∧ (P.getD j []).dropLast = P.getD i [] := by
 rw [rdN P ws j hj]
 unfold mkN ndL
 by_cases h0 : P.getD j [] = []
 ·
  rw [if_pos h0, if_pos h0]
  exact ⟨fun e => by have : (-1 : Int) = (i : Int) := e; omega, fun h => absurd h0 h.1⟩
 rw [if_neg h0, if_neg h0]
 obtain ⟨_, h2⟩ := placeL_mem (hC.2 _ (getD_mem hj) h0)
 constructor
 ·
  intro e
  have e2 : placeL P (P.getD j []).dropLast = i := by have : ((placeL P (P.getD j []).dropLast : Nat) : Int) = (i : Int) := e; omega
  rw [e2] at h2
  exact ⟨h0, h2.symm⟩
 rintro ⟨_, e⟩
 show ((placeL P (P.getD j []).dropLast : Nat) : Int) = (i : Int)
 rw [e, placeL_get hA hi]
def kidF (P : List Txt) (p : Txt) : Nat → Nat → List Int
 | _, 0 => []
 | n, d + 1 => (if P.getD n [] ≠ [] ∧ (P.getD n []).dropLast = p then [(n : Int)] else []) ++ kidF P p (n + 1) d
def kidI (P : List Txt) (p : Txt) : List Int := kidF P p 0 P.length
theorem kidF_len (P : List Txt) (p : Txt) : ∀ d n, n + d = P.length → (kidF P p n d).length = ((P.drop n).filter fun q => decide (q ≠ [] ∧ q.dropLast = p)).length
 | 0, n, h => by rw [List.drop_of_length_le (by omega)]; rfl
 | d + 1, n, h => by
  rw [kidF, List.length_append, kidF_len P p d (n + 1) (by omega), drop_cons_getD [] (show n < P.length by omega), List.filter_cons]
  by_cases hc : P.getD n [] ≠ [] ∧ (P.getD n []).dropLast = p
  ·
   rw [if_pos hc, if_pos (decide_eq_true hc)]; simp only [List.length_cons, List.length_nil]; omega
  rw [if_neg hc, if_neg (by rw [decide_eq_false hc]; exact Bool.false_ne_true), List.length_nil]; omega
theorem kidI_len (P : List Txt) (p : Txt) : (kidI P p).length = (kidsL P p).length := by
 have := kidF_len P p P.length 0 (by omega)
 rw [List.drop_zero] at this
 exact this
theorem kidF_split (P : List Txt) (p : Txt) : ∀ a n d, kidF P p n (a + d) = kidF P p n a ++ kidF P p (n + a) d
 | 0, n, d => by rw [Nat.zero_add, Nat.add_zero]; rfl
 | a + 1, n, d => by
  rw [show a + 1 + d = (a + d) + 1 from by omega, kidF, kidF, kidF_split P p a (n + 1) d, List.append_assoc, show n + 1 + a = n + (a + 1) from by omega]
theorem kidF_none {P : List Txt} (hA : Asc P) {i : Nat} (hi : i < P.length) : ∀ d n, n + d ≤ i + 1 → kidF P (P.getD i []) n d = []
 | 0, _, _ => rfl
 | d + 1, n, h => by
  rw [kidF, kidF_none hA hi d (n + 1) (by omega), if_neg, List.append_nil]
  rintro ⟨h1, h2⟩
  have h3 := txt_dropLast_lt _ h1
  rw [h2] at h3
  have := asc_get_lt hA hi (show n < P.length by omega) h3
  omega
theorem kids_ev {P : List Txt} (ws : List Txt) (hA : Asc P) (hC : Clo P) (hP : P.length ≤ 1000000) {i : Nat} (hi : i < P.length) : Ev (fun k => iF13.f k (trN P ws) (i : Int)) (kidI P (P.getD i [])) := by
 have loop : ∀ d n (acc : List Int), n + d = P.length → acc.length ≤ n → Ev (fun k => iF13.l0 k (i : Int) acc (trN P ws) ((trN P ws).length : Int) (n : Int)) (acc ++ kidF P (P.getD i []) n d) := by
  intro d
  induction d with
  | zero =>
   intro n acc h1 h2
   rw [kidF, List.append_nil]
   exact Ev.step (fun k => iF13.l0.eq_2 ..) (Ev.ifF (by rw [trN_length]; omega) (Ev.now _))
  | succ d ih =>
   intro n acc h1 h2
   have hn : n < P.length := by omega
   refine Ev.step (fun k => iF13.l0.eq_2 ..) (Ev.ifT (by rw [trN_length]; omega) (Ev.ifT (by omega) (Ev.ifT (by rw [trN_length]; omega) ?_)))
   rw [kidF, wrap64_succ n (by omega)]
   by_cases hc : P.getD n [] ≠ [] ∧ (P.getD n []).dropLast = P.getD i []
   ·
    rw [if_pos hc, ← List.append_assoc]
    exact Ev.ifT ((f1_iff ws hA hC hi hn).2 hc) (Ev.ifT (by omega) (ih (n + 1) _ (by omega) (by simp; omega)))
   rw [if_neg hc, List.nil_append]
   exact Ev.ifF (fun h => hc ((f1_iff ws hA hC hi hn).1 h)) (ih (n + 1) acc (by omega) (by omega))
 exact loop P.length 0 [] (by omega) (by simp)
theorem l2Kids_ev {P : List Txt} (ws : List Txt) (hA : Asc P) (hC : Clo P) (hP : P.length ≤ 1000000) {i : Nat} (hi : i < P.length) : Ev (fun k => sF54.f k (trN P ws) (i : Int)) (kidI P (P.getD i [])) := by
 have loop : ∀ d n (acc : List Int), n + d = P.length → acc.length ≤ n → Ev (fun k => sF54.l0 k (i : Int) acc (n : Int) (trN P ws)) (acc ++ kidF P (P.getD i []) n d) := by
  intro d
  induction d with
  | zero =>
   intro n acc h1 h2
   rw [kidF, List.append_nil]
   exact Ev.step (fun k => sF54.l0.eq_2 ..) (Ev.ifF (by rw [trN_length]; omega) (Ev.now _))
  | succ d ih =>
   intro n acc h1 h2
   have hn : n < P.length := by omega
   refine Ev.step (fun k => sF54.l0.eq_2 ..) (Ev.ifT (by rw [trN_length]; omega) (Ev.ifT (by omega) ?_))
   rw [kidF, wrap64_succ n (by omega)]
   by_cases hc : P.getD n [] ≠ [] ∧ (P.getD n []).dropLast = P.getD i []
   ·
    rw [if_pos hc, ← List.append_assoc]
    exact Ev.ifT ((f1_iff ws hA hC hi hn).2 hc) (Ev.ifT (by omega) (ih (n + 1) _ (by omega) (by simp; omega)))
   rw [if_neg hc, List.nil_append]
   exact Ev.ifF (fun h => hc ((f1_iff ws hA hC hi hn).1 h)) (ih (n + 1) acc (by omega) (by omega))
 have h := loop (P.length - (i + 1)) (i + 1) [] (by omega) (by simp)
 have e : kidI P (P.getD i []) = kidF P (P.getD i []) (i + 1) (P.length - (i + 1)) := by
  unfold kidI
  have h1 := kidF_split P (P.getD i []) (i + 1) 0 (P.length - (i + 1))
  rw [show i + 1 + (P.length - (i + 1)) = P.length from by omega, kidF_none hA hi (i + 1) 0 (by omega), List.nil_append, Nat.zero_add] at h1
  exact h1
 rw [e]
 unfold sF54.f
 rw [wrap64_succ i (by omega)]
 exact h
theorem areLettersW_eq (l : List UInt8) (hl : l.length ≤ 9223372036854775807) : iF19.f (B l) = some (l.all letterB) := by
 unfold iF19.f
 rw [if_pos (by simpa using hl), data_B]
 rfl
theorem isWord_eq (l : List UInt8) : iF24.f (B l) = some (wordL l) := by
 unfold iF24.f wordL
 by_cases h : l.length ≤ 12
 ·
  rw [if_pos (by simp; omega), areLettersW_eq l (by omega)]; simp [h]
 rw [if_neg (by simp; omega)]; simp [h]
abbrev Bd := S60
def brN (x : Txt × Int × Bool) : Bd := ⟨B x.1, x.2.1, x.2.2⟩
def brs (P ws : List Txt) : List Bd := (brsL P ws).map brN
theorem brs_length (P ws : List Txt) : (brs P ws).length = (stayQ P ws).length := by simp [brs, brsL]
theorem rdBr (P ws : List Txt) (i : Nat) (h : i < (stayQ P ws).length) : rd_T60 (brs P ws) (i : Int) = brN (brL P ws ((stayQ P ws).getD i [])) := by
 unfold rd_T60 brs brsL
 rw [Int.toNat_natCast, getD_lt _ (by simpa using h), getD_lt _ h]
 simp
theorem node_f1 {P : List Txt} (ws : List Txt) {i : Nat} (hi : i < P.length) (hne : P.getD i [] ≠ []) : (rd_T76 (trN P ws) (i : Int)).f1 = ((placeL P (P.getD i []).dropLast : Nat) : Int) := by
 rw [rdN P ws i hi]
 unfold mkN ndL
 rw [if_neg hne, if_neg hne]
theorem node_f2 (P ws : List Txt) {i : Nat} (hi : i < P.length) : (rd_T76 (trN P ws) (i : Int)).f2 = decide (P.getD i [] ∈ ws) := by rw [rdN P ws i hi]; rfl
theorem stay_val {P ws : List Txt} {p : Txt} (h1 : p ≠ []) (h2 : p ∉ ws) : (((kidI P p).length : Int) != 1) = stayL P ws p := by
 unfold stayL
 rw [decide_eq_false h1, decide_eq_false h2, Bool.false_or, Bool.false_or, kidI_len]
 by_cases h : (kidsL P p).length = 1
 ·
  rw [h]; rfl
 rw [decide_eq_true h, bne_iff_ne]; omega
theorem stays_ev {P : List Txt} (ws : List Txt) (hA : Asc P) (hC : Clo P) (hP : P.length ≤ 1000000) {i : Nat} (hi : i < P.length) : Ev (fun k => iF16.f k (trN P ws) (i : Int)) (stayL P ws (P.getD i [])) := by
 unfold iF16.f
 by_cases h0 : i = 0
 ·
  subst h0
  rw [(clo_zero hA hC).2, stay_nil]
  exact Ev.ifT rfl (Ev.now _)
 have hne := clo_pos hA hC hi (by omega)
 refine Ev.ifF (by omega) (Ev.ifT (by omega) (Ev.ifT (by rw [trN_length]; omega) ?_))
 rw [node_f2 P ws hi]
 by_cases hm : P.getD i [] ∈ ws
 ·
  rw [show stayL P ws (P.getD i []) = true from by unfold stayL; rw [decide_eq_true hm, Bool.or_true, Bool.true_or]]
  exact Ev.ifT (decide_eq_true hm) (Ev.now _)
 refine Ev.ifF (by rw [decide_eq_false hm]; exact Bool.false_ne_true) (Ev.bind (kids_ev ws hA hC hP hi) ?_)
 rw [stay_val hne hm]
 exact Ev.now _
theorem l4Stays_ev {P : List Txt} (ws : List Txt) (hA : Asc P) (hC : Clo P) (hP : P.length ≤ 1000000) {i : Nat} (hi : i < P.length) : Ev (fun k => sF72.f k (trN P ws) (i : Int)) (stayL P ws (P.getD i [])) := by
 unfold sF72.f
 by_cases h0 : i = 0
 ·
  subst h0
  rw [(clo_zero hA hC).2, stay_nil]
  exact Ev.ifT rfl (Ev.now _)
 have hne := clo_pos hA hC hi (by omega)
 refine Ev.ifF (by omega) (Ev.ifT (by omega) (Ev.ifT (by rw [trN_length]; omega) ?_))
 rw [node_f2 P ws hi]
 by_cases hm : P.getD i [] ∈ ws
 ·
  rw [show stayL P ws (P.getD i []) = true from by unfold stayL; rw [decide_eq_true hm, Bool.or_true, Bool.true_or]]
  exact Ev.ifT (decide_eq_true hm) (Ev.now _)
 refine Ev.ifF (by rw [decide_eq_false hm]; exact Bool.false_ne_true) (Ev.bind (l2Kids_ev ws hA hC hP hi) ?_)
 rw [stay_val hne hm]
 exact Ev.now _
def plcF (P ws : List Txt) : List Int := P.map fun p => if stayL P ws p = true then ((placeL (stayQ P ws) p : Nat) : Int) else 0
def plc (P ws : List Txt) (i : Nat) : List Int := (plcF P ws).take i ++ List.replicate ((plcF P ws).length - i) 0
theorem plcF_len (P ws : List Txt) : (plcF P ws).length = P.length := by simp [plcF]
theorem plc_len (P ws : List Txt) {i : Nat} (h : i ≤ P.length) : (plc P ws i).length = P.length := by
 unfold plc
 rw [List.length_append, List.length_take, List.length_replicate, plcF_len]
 omega
theorem plcF_get (P ws : List Txt) {i : Nat} (h : i < P.length) : (plcF P ws).getD i 0 = if stayL P ws (P.getD i []) = true then ((placeL (stayQ P ws) (P.getD i []) : Nat) : Int) else 0 := by
 unfold plcF
 rw [getD_lt 0 (by rw [List.length_map]; exact h), List.getElem_map, ← getD_lt [] h]
theorem plc_skip (P ws : List Txt) {i : Nat} (h : i < P.length) (hs : ¬ stayL P ws (P.getD i []) = true) : plc P ws (i + 1) = plc P ws i := by
 unfold plc
 have hl := plcF_len P ws
 rw [take_succ_getD 0 (show i < (plcF P ws).length by omega), plcF_get P ws h, if_neg hs, List.append_assoc]
 congr 1
 rw [show (plcF P ws).length - i = (plcF P ws).length - (i + 1) + 1 from by omega, List.replicate_succ]
 rfl
theorem plc_set (P ws : List Txt) {i : Nat} (h : i < P.length) (hs : stayL P ws (P.getD i []) = true) : (plc P ws i).set i ((placeL (stayQ P ws) (P.getD i []) : Nat) : Int) = plc P ws (i + 1) := by
 have := fill_set 0 (plcF P ws) i (by rw [plcF_len]; exact h) 0
 rw [plcF_get P ws h, if_pos hs] at this
 exact this
theorem plc_get (P ws : List Txt) {i j : Nat} (hi : i ≤ P.length) (hj : j < i) (hs : stayL P ws (P.getD j []) = true) : rd (plc P ws i) (j : Int) = ((placeL (stayQ P ws) (P.getD j []) : Nat) : Int) := by
 have hl := plcF_len P ws
 have h1 := plcF_get P ws (show j < P.length by omega)
 rw [if_pos hs] at h1
 rw [rd_nat, ← h1]
 unfold plc
 rw [List.getD_eq_getElem?_getD, List.getD_eq_getElem?_getD, List.getElem?_append_left (by rw [List.length_take]; omega), List.getElem?_take_of_lt hj]
theorem press_up {P : List Txt} (ws : List Txt) (hA : Asc P) (hC : Clo P) (hP : P.length ≤ 100000) {i : Nat} (hi : i < P.length) (e : Bool) (acc : List Bd) (hacc : acc.length ≤ 100000) (u : Txt) (hu : u <+: P.getD i []) (hu2 : placeL P u < i) (r : List Bd)
  (hr : Ev (fun k => iF15.l0 k (P.map B) ((plc P ws i).set i (acc.length : Int)) (trN P ws) ((trN P ws).length : Int) ((i + 1 : Nat) : Int) (trN P ws) (acc ++ [brN ((P.getD i []).drop u.length, ((placeL (stayQ P ws) u : Nat) : Int), e)])) r) :
  ∀ (n : Nat) (q : Txt), q.length = n → q ∈ P → (if stayL P ws q = true then q else upL P ws q) = u →
  Ev (fun k => iF15.l1 k (P.map B) (plc P ws i) (i : Int) ((placeL P q : Nat) : Int) (trN P ws) ((trN P ws).length : Int) (i : Int) (trN P ws) acc ⟨#[]⟩ (-1) e) r := by
 intro n
 induction n with
 | zero =>
  intro q hn hq hqu
  have hq0 := List.eq_nil_of_length_eq_zero hn
  subst hq0
  rw [if_pos (stay_nil P ws)] at hqu
  subst hqu
  obtain ⟨z1, z2⟩ := placeL_mem hq
  have hs := stays_ev ws hA hC (by omega) z1
  rw [z2, stay_nil] at hs
  have hpl := plc_len P ws (Nat.le_of_lt hi)
  refine Ev.step (fun k => iF15.l1.eq_2 ..) (Ev.bind hs (Ev.ifT rfl (Ev.ifT (by omega) (Ev.ifT (by rw [List.length_map]; omega) (Ev.ifT (by omega) (Ev.ifT (by rw [List.length_map]; omega) ?_))))))
  rw [rdB P _ z1, rdB P i hi, z2, size_B, size_B, plc_get P ws (Nat.le_of_lt hi) hu2 (by rw [z2]; exact stay_nil P ws), z2, extract_B, Int.toNat_natCast, Int.toNat_natCast]
  refine Ev.ifT (by omega) (Ev.ifT (by have := hu.length_le; omega) (Ev.ifT (by omega) (Ev.ifT (by omega) (Ev.ifT (by omega) ?_))))
  rw [wrap64_succ i (by omega), List.take_of_length_le (by rw [List.length_drop]; omega)]
  exact hr
 | succ n ih =>
  intro q hn hq hqu
  obtain ⟨z1, z2⟩ := placeL_mem hq
  have hs := stays_ev ws hA hC (by omega) z1
  rw [z2] at hs
  have hpl := plc_len P ws (Nat.le_of_lt hi)
  have hne : q ≠ [] := fun e => by rw [e] at hn; simp at hn
  by_cases hst : stayL P ws q = true
  ·
   rw [if_pos hst] at hqu
   subst hqu
   rw [hst] at hs
   refine Ev.step (fun k => iF15.l1.eq_2 ..) (Ev.bind hs (Ev.ifT rfl (Ev.ifT (by omega) (Ev.ifT (by rw [List.length_map]; omega) (Ev.ifT (by omega) (Ev.ifT (by rw [List.length_map]; omega) ?_))))))
   rw [rdB P _ z1, rdB P i hi, z2, size_B, size_B, plc_get P ws (Nat.le_of_lt hi) hu2 (by rw [z2]; exact hst), z2, extract_B, Int.toNat_natCast, Int.toNat_natCast]
   refine Ev.ifT (by omega) (Ev.ifT (by have := hu.length_le; omega) (Ev.ifT (by omega) (Ev.ifT (by omega) (Ev.ifT (by omega) ?_))))
   rw [wrap64_succ i (by omega), List.take_of_length_le (by rw [List.length_drop]; omega)]
   exact hr
  rw [if_neg hst, upL_step ws hne] at hqu
  have hf : stayL P ws q = false := by simpa using hst
  rw [hf] at hs
  have hp := node_f1 ws z1 (by rw [z2]; exact hne)
  rw [z2] at hp
  refine Ev.step (fun k => iF15.l1.eq_2 ..) (Ev.bind hs (Ev.ifF Bool.false_ne_true (Ev.ifT (by omega) (Ev.ifT (by rw [trN_length]; omega) ?_))))
  rw [hp]
  exact ih q.dropLast (by rw [List.length_dropLast]; omega) (hC.2 q hq hne) hqu
def brA (P ws : List Txt) (i : Nat) : List Bd := ((P.take i).filter (stayL P ws)).map fun p => brN (brL P ws p)
theorem brA_len {P : List Txt} (ws : List Txt) (hA : Asc P) {i : Nat} (hi : i < P.length) (hs : stayL P ws (P.getD i []) = true) : (brA P ws i).length = placeL (stayQ P ws) (P.getD i []) := by
 unfold brA stayQ
 rw [List.length_map, placeL_filter hA (stayL P ws) hi hs]
theorem brA_all (P ws : List Txt) : brA P ws P.length = brs P ws := by
 unfold brA brs brsL stayQ
 rw [List.take_length, List.map_map]
 rfl
theorem brA_succ {P : List Txt} (ws : List Txt) {i : Nat} (hi : i < P.length) : brA P ws (i + 1) = brA P ws i ++ (if stayL P ws (P.getD i []) = true then [brN (brL P ws (P.getD i []))] else []) := by
 unfold brA
 rw [filter_take_succ (stayL P ws) hi, List.map_append]
 congr 1
 split <;> rfl
theorem brA_le (P ws : List Txt) (i : Nat) : (brA P ws i).length ≤ P.length := by
 unfold brA
 rw [List.length_map]
 exact Nat.le_trans (List.length_filter_le _ _) (List.length_take_le' _ _)
theorem up_facts {P : List Txt} (ws : List Txt) (hA : Asc P) (hC : Clo P) {i : Nat} (hi : i < P.length) (h0 : 0 < i) : P.getD i [] ≠ [] ∧ upL P ws (P.getD i []) <+: P.getD i [] ∧ placeL P (upL P ws (P.getD i [])) < i ∧ upL P ws (P.getD i []) ∈ P := by
 have hne := clo_pos hA hC hi h0
 obtain ⟨u1, u2, u3, u4⟩ := upL_spec ws hC (getD_mem hi) hne
 obtain ⟨z1, z2⟩ := placeL_mem u3
 exact ⟨hne, u1, asc_get_lt hA z1 hi (by rw [z2]; exact prefix_lt u1 u2), u3⟩
theorem press_loop {P : List Txt} (ws : List Txt) (hA : Asc P) (hC : Clo P) (hP : P.length ≤ 100000) : ∀ (d i : Nat), i + d = P.length →
  Ev (fun k => iF15.l0 k (P.map B) (plc P ws i) (trN P ws) ((trN P ws).length : Int) (i : Int) (trN P ws) (brA P ws i)) (brs P ws) := by
 intro d
 induction d with
 | zero =>
  intro i h
  obtain rfl : i = P.length := by omega
  rw [brA_all]
  exact Ev.step (fun k => iF15.l0.eq_2 ..) (Ev.ifF (by rw [trN_length]; omega) (Ev.now _))
 | succ d ih =>
  intro i h
  have hi : i < P.length := by omega
  have hs := stays_ev ws hA hC (by omega) hi
  have hnext := ih (i + 1) (by omega)
  have hle := brA_le P ws i
  have hpl := plc_len P ws (Nat.le_of_lt hi)
  rw [brA_succ ws hi] at hnext
  refine Ev.step (fun k => iF15.l0.eq_2 ..) (Ev.ifT (by rw [trN_length]; omega) (Ev.ifT (by omega) (Ev.ifT (by rw [trN_length]; omega) (Ev.bind hs ?_))))
  by_cases hst : stayL P ws (P.getD i []) = true
  ·
   rw [if_pos hst, ← plc_set P ws hi hst, ← brA_len ws hA hi hst] at hnext
   refine Ev.ifT hst ?_
   by_cases h0 : 0 < i
   ·
    obtain ⟨hne, u1, u2, u3⟩ := up_facts ws hA hC hi h0
    have hb : brL P ws (P.getD i []) = ((P.getD i []).drop (upL P ws (P.getD i [])).length, ((placeL (stayQ P ws) (upL P ws (P.getD i [])) : Nat) : Int), decide (P.getD i [] ∈ ws)) := by unfold brL; rw [if_neg hne, if_neg hne]
    rw [hb] at hnext
    rw [node_f1 ws hi hne, node_f2 P ws hi]
    refine Ev.ifT (by omega) ?_
    exact press_up ws hA hC hP hi _ _ (by omega) _ u1 u2 _ hnext _ _ rfl (hC.2 _ (getD_mem hi) hne) (upL_step ws hne).symm
   have hi0 : i = 0 := by omega
   have hp0 : P.getD i [] = [] := by rw [hi0]; exact (clo_zero hA hC).2
   have hb : brN (brL P ws (P.getD i [])) = (⟨⟨#[]⟩, -1, decide (P.getD i [] ∈ ws)⟩ : Bd) := by unfold brL; rw [if_pos hp0, if_pos hp0]; rfl
   rw [hb] at hnext
   rw [node_f2 P ws hi, Int.toNat_natCast, wrap64_succ i (by omega)]
   exact Ev.ifF (by omega) (Ev.ifT (by omega) (Ev.ifT (by omega) hnext))
  rw [if_neg hst, List.append_nil, plc_skip P ws hi hst] at hnext
  rw [wrap64_succ i (by omega)]
  exact Ev.ifF hst hnext
theorem press_ev {ws : List Txt} (h : OkW ws) : Ev (fun k => iF15.f k (trN (preL ws) ws)) (brs (preL ws) ws) := by
 have hp := h.pre
 unfold iF15.f
 refine Ev.bind (prefixes_tr h) (Ev.ifT (by omega) ?_)
 rw [Int.toNat_natCast]
 refine Ev.ifT (by rw [trN_length]; omega) ?_
 have := press_loop ws (asc_preL ws) (clo_preL ws) (by omega) (preL ws).length 0 (by omega)
 unfold plc brA at this
 rw [List.take_zero, List.take_zero, List.filter_nil, List.map_nil, List.nil_append, Nat.sub_zero, plcF_len] at this
 rw [trN_length] at this ⊢
 exact this
def stI (P ws : List Txt) : List Int := (stayQ P ws).map fun p => ((placeL P p : Nat) : Int)
theorem stI_len (P ws : List Txt) : (stI P ws).length = (stayQ P ws).length := by simp [stI]
theorem staying_loop {P : List Txt} (ws : List Txt) (hA : Asc P) (hC : Clo P) (hP : P.length ≤ 100000) : ∀ (d i : Nat), i + d = P.length →
  Ev (fun k => sF71.l0 k (((P.take i).filter (stayL P ws)).map fun p => ((placeL P p : Nat) : Int)) (i : Int) (trN P ws)) (stI P ws) := by
 intro d
 induction d with
 | zero =>
  intro i h
  rw [List.take_of_length_le (by omega)]
  exact Ev.step (fun k => sF71.l0.eq_2 ..) (Ev.ifF (by rw [trN_length]; omega) (Ev.now _))
 | succ d ih =>
  intro i h
  have hi : i < P.length := by omega
  have hs := l4Stays_ev ws hA hC (by omega) hi
  have hnext := ih (i + 1) (by omega)
  have hle : ((P.take i).filter (stayL P ws)).length ≤ P.length := Nat.le_trans (List.length_filter_le _ _) (List.length_take_le' _ _)
  rw [filter_take_succ (stayL P ws) hi, List.map_append] at hnext
  refine Ev.step (fun k => sF71.l0.eq_2 ..) (Ev.ifT (by rw [trN_length]; omega) (Ev.bind hs ?_))
  rw [wrap64_succ i (by omega)]
  by_cases hst : stayL P ws (P.getD i []) = true
  ·
   rw [if_pos hst, List.map_singleton, placeL_get hA hi] at hnext
   exact Ev.ifT hst (Ev.ifT (by rw [List.length_map]; omega) hnext)
  rw [if_neg hst, List.map_nil, List.append_nil] at hnext
  exact Ev.ifF hst hnext
theorem staying_ev {P : List Txt} (ws : List Txt) (hA : Asc P) (hC : Clo P) (hP : P.length ≤ 100000) : Ev (fun k => sF71.f k (trN P ws)) (stI P ws) := by
 have := staying_loop ws hA hC hP P.length 0 (by omega)
 rw [List.take_zero, List.filter_nil, List.map_nil] at this
 exact this
theorem stI_rd (P ws : List Txt) {j : Nat} (hj : j < (stayQ P ws).length) : rd (stI P ws) (j : Int) = ((placeL P ((stayQ P ws).getD j []) : Nat) : Int) := by
 unfold stI
 rw [rd_nat, getD_lt 0 (by rw [List.length_map]; exact hj), List.getElem_map, ← getD_lt [] hj]
theorem l4Press_par {P : List Txt} (ws : List Txt) (hA : Asc P) (hP : P.length ≤ 100000) {j : Nat} (hj : j < (stayQ P ws).length) (L : ByteArray) (e : Bool) (acc : List Bd) (hacc : acc.length ≤ 100000) (u : Txt) (hu : u ∈ stayQ P ws) (hu2 : placeL (stayQ P ws) u < j) (r : List Bd)
  (hr : Ev (fun k => sF69.l0 k (stI P ws) ((j + 1 : Nat) : Int) (trN P ws) (acc ++ [⟨L, ((placeL (stayQ P ws) u : Nat) : Int), e⟩])) r) : ∀ (d m : Nat), m + d = j →
  Ev (fun k => sF69.l2 k (stI P ws) (j : Int) ((placeL P u : Nat) : Int) (m : Int) (trN P ws) acc L (if placeL (stayQ P ws) u < m then ((placeL (stayQ P ws) u : Nat) : Int) else -1) e) r := by
 have hQl : (stayQ P ws).length ≤ P.length := List.length_filter_le _ _
 intro d
 induction d with
 | zero =>
  intro m h
  obtain rfl : m = j := by omega
  rw [if_pos hu2]
  refine Ev.step (fun k => sF69.l2.eq_2 ..) (Ev.ifF (by omega) (Ev.ifT (by omega) ?_))
  rw [wrap64_succ m (by omega)]
  exact hr
 | succ d ih =>
  intro m h
  have hm : m < (stayQ P ws).length := by omega
  have hnext := ih (m + 1) (by omega)
  refine Ev.step (fun k => sF69.l2.eq_2 ..) (Ev.ifT (by omega) (Ev.ifT (by omega) (Ev.ifT (by rw [stI_len]; omega) ?_)))
  rw [stI_rd P ws hm, wrap64_succ m (by omega)]
  have hmem := getD_mem hm
  obtain ⟨a1, a2⟩ := placeL_mem (mem_stayQ.1 hmem).1
  obtain ⟨b1, b2⟩ := placeL_mem (mem_stayQ.1 hu).1
  by_cases e1 : (stayQ P ws).getD m [] = u
  ·
   have hpm : placeL (stayQ P ws) u = m := by rw [← e1]; exact placeL_get (asc_stayQ ws hA) hm
   rw [if_pos (by omega), hpm] at hnext
   rw [e1]
   exact Ev.ifT rfl hnext
  have hne : ¬ ((placeL P ((stayQ P ws).getD m []) : Nat) : Int) = ((placeL P u : Nat) : Int) := fun e2 => e1 (by
   have e3 : placeL P ((stayQ P ws).getD m []) = placeL P u := by omega
   rw [e3] at a2
   exact a2.symm.trans b2)
  have hpm : placeL (stayQ P ws) u ≠ m := fun e2 => e1 (by rw [← e2]; exact (placeL_mem hu).2)
  refine Ev.ifF hne ?_
  by_cases hlt : placeL (stayQ P ws) u < m
  ·
   rw [if_pos hlt]; rwa [if_pos (by omega)] at hnext
  rw [if_neg hlt]; rwa [if_neg (by omega)] at hnext
theorem l4Press_up {P : List Txt} (ws : List Txt) (hA : Asc P) (hC : Clo P) (hW : ∀ p ∈ P, wordL p = true) (hP : P.length ≤ 100000) {j : Nat} (hj : j < (stayQ P ws).length) (e : Bool) (acc : List Bd) (hacc : acc.length ≤ 100000) (u : Txt) (hpre : u <+: (stayQ P ws).getD j []) (hu : u ∈ stayQ P ws) (hu2 : placeL (stayQ P ws) u < j) (r : List Bd)
  (hr : Ev (fun k => sF69.l0 k (stI P ws) ((j + 1 : Nat) : Int) (trN P ws) (acc ++ [brN (((stayQ P ws).getD j []).drop u.length, ((placeL (stayQ P ws) u : Nat) : Int), e)])) r) :
  ∀ (n : Nat) (q : Txt), q.length = n → q ∈ P → (if stayL P ws q = true then q else upL P ws q) = u →
  Ev (fun k => sF69.l1 k (stI P ws) (j : Int) ((placeL P q : Nat) : Int) (trN P ws) acc ⟨#[]⟩ (-1) e) r := by
 have fin : ∀ q, q ∈ P → stayL P ws q = true → q = u → Ev (fun k => sF69.l1 k (stI P ws) (j : Int) ((placeL P q : Nat) : Int) (trN P ws) acc ⟨#[]⟩ (-1) e) r := by
  intro q hq hst hqu
  subst hqu
  obtain ⟨z1, z2⟩ := placeL_mem hq
  have hs := l4Stays_ev ws hA hC (by omega) z1
  rw [z2, hst] at hs
  have hQm := (mem_stayQ.1 (getD_mem hj)).1
  obtain ⟨y1, y2⟩ := placeL_mem hQm
  have p1 := l2Prefix_ev ws hA hC hW _ y1
  have p2 := l2Prefix_ev ws hA hC hW _ z1
  rw [y2] at p1
  rw [z2] at p2
  refine Ev.step (fun k => sF69.l1.eq_2 ..) (Ev.bind hs (Ev.ifT rfl (Ev.ifT (by omega) (Ev.ifT (by rw [stI_len]; omega) ?_))))
  rw [stI_rd P ws hj]
  refine Ev.bind p1 (Ev.bind p2 ?_)
  rw [size_B, size_B, extract_B, Int.toNat_natCast, List.take_of_length_le (by rw [List.length_drop]; omega)]
  refine Ev.ifT (by omega) (Ev.ifT (by have := hpre.length_le; omega) ?_)
  have := l4Press_par ws hA hP hj (B (((stayQ P ws).getD j []).drop q.length)) e acc hacc q hu hu2 r hr j 0 (by omega)
  rw [if_neg (by omega)] at this
  exact this
 intro n
 induction n with
 | zero =>
  intro q hn hq hqu
  have hq0 := List.eq_nil_of_length_eq_zero hn
  subst hq0
  rw [if_pos (stay_nil P ws)] at hqu
  exact fin [] hq (stay_nil P ws) hqu
 | succ n ih =>
  intro q hn hq hqu
  by_cases hst : stayL P ws q = true
  ·
   rw [if_pos hst] at hqu
   exact fin q hq hst hqu
  obtain ⟨z1, z2⟩ := placeL_mem hq
  have hs := l4Stays_ev ws hA hC (by omega) z1
  have hne : q ≠ [] := fun e => by rw [e] at hn; simp at hn
  rw [if_neg hst, upL_step ws hne] at hqu
  have hf : stayL P ws q = false := by simpa using hst
  rw [z2, hf] at hs
  have hp := node_f1 ws z1 (by rw [z2]; exact hne)
  rw [z2] at hp
  refine Ev.step (fun k => sF69.l1.eq_2 ..) (Ev.bind hs (Ev.ifF Bool.false_ne_true (Ev.ifT (by omega) (Ev.ifT (by rw [trN_length]; omega) ?_))))
  rw [hp]
  exact ih q.dropLast (by rw [List.length_dropLast]; omega) (hC.2 q hq hne) hqu
theorem l4Press_loop {P : List Txt} (ws : List Txt) (hA : Asc P) (hC : Clo P) (hW : ∀ p ∈ P, wordL p = true) (hP : P.length ≤ 100000) : ∀ (d j : Nat), j + d = (stayQ P ws).length →
  Ev (fun k => sF69.l0 k (stI P ws) (j : Int) (trN P ws) ((brs P ws).take j)) (brs P ws) := by
 have hQl : (stayQ P ws).length ≤ P.length := List.length_filter_le _ _
 intro d
 induction d with
 | zero =>
  intro j h
  rw [List.take_of_length_le (by rw [brs_length]; omega)]
  exact Ev.step (fun k => sF69.l0.eq_2 ..) (Ev.ifF (by rw [stI_len]; omega) (Ev.now _))
 | succ d ih =>
  intro j h
  have hj : j < (stayQ P ws).length := by omega
  have hmem := getD_mem hj
  obtain ⟨z1, z2⟩ := placeL_mem (mem_stayQ.1 hmem).1
  have hnext := ih (j + 1) (by omega)
  have hbj : j < (brs P ws).length := by rw [brs_length]; exact hj
  have hx : (brs P ws)[j] = brN (brL P ws ((stayQ P ws).getD j [])) := by
   simp only [brs, brsL, List.getElem_map, getD_lt [] hj]
  rw [List.take_succ_eq_append_getElem hbj, hx] at hnext
  have hle : ((brs P ws).take j).length ≤ P.length := by rw [List.length_take, brs_length]; omega
  refine Ev.step (fun k => sF69.l0.eq_2 ..) (Ev.ifT (by rw [stI_len]; omega) (Ev.ifT (by omega) ?_))
  rw [stI_rd P ws hj]
  refine Ev.ifT (by omega) (Ev.ifT (by rw [trN_length]; omega) ?_)
  rw [node_f2 P ws z1, z2]
  by_cases h0 : 0 < j
  ·
   have hne := stayQ_pos ws hA hC hj h0
   obtain ⟨u1, u2⟩ := stayQ_parent ws hA hC hj h0
   obtain ⟨v1, v2, v3, v4⟩ := upL_spec ws hC (mem_stayQ.1 hmem).1 hne
   have hb : brL P ws ((stayQ P ws).getD j []) = (((stayQ P ws).getD j []).drop (upL P ws ((stayQ P ws).getD j [])).length, ((placeL (stayQ P ws) (upL P ws ((stayQ P ws).getD j [])) : Nat) : Int), decide ((stayQ P ws).getD j [] ∈ ws)) := by unfold brL; rw [if_neg hne, if_neg hne]
   rw [hb] at hnext
   have hp := node_f1 ws z1 (by rw [z2]; exact hne)
   rw [z2] at hp
   rw [hp]
   refine Ev.ifT (by omega) ?_
   exact l4Press_up ws hA hC hW hP hj _ _ (by omega) _ v1 (up_stayQ ws hC hmem hne) u1 _ hnext _ _ rfl (hC.2 _ (mem_stayQ.1 hmem).1 hne) (upL_step ws hne).symm
  have hj0 : j = 0 := by omega
  have hp0 : (stayQ P ws).getD j [] = [] := by rw [hj0]; exact (stayQ_zero ws hA hC).2
  have hb : brN (brL P ws ((stayQ P ws).getD j [])) = (⟨⟨#[]⟩, -1, decide ((stayQ P ws).getD j [] ∈ ws)⟩ : Bd) := by unfold brL; rw [if_pos hp0, if_pos hp0]; rfl
  rw [hb] at hnext
  rw [wrap64_succ j (by omega)]
  exact Ev.ifF (by omega) (Ev.ifT (by omega) hnext)
theorem l4Press_ev {ws : List Txt} (h : OkW ws) : Ev (fun k => sF69.f k (trN (preL ws) ws)) (brs (preL ws) ws) := by
 have hp := h.pre
 unfold sF69.f
 refine Ev.bind (staying_ev ws (asc_preL ws) (clo_preL ws) (by omega)) ?_
 have := l4Press_loop ws (asc_preL ws) (clo_preL ws) (fun p hp => preL_word h.word hp) (by omega) (stayQ (preL ws) ws).length 0 (by omega)
 rw [List.take_zero] at this
 exact this
instance : DecidableEq Bd := fun a b => if h : a.f0 = b.f0 ∧ a.f1 = b.f1 ∧ a.f2 = b.f2 then isTrue (by obtain ⟨a0, a1, a2⟩ := a; obtain ⟨b0, b1, b2⟩ := b; obtain ⟨h1, h2, h3⟩ := h; simp only at h1 h2 h3; subst h1 h2 h3; rfl) else isFalse (fun e => h (by rw [e]; exact ⟨rfl, rfl, rfl⟩))
theorem rd_getB (N : List Bd) (i : Nat) (h : i < N.length) : rd_T60 N (i : Int) = N[i] := by
 unfold rd_T60
 rw [Int.toNat_natCast, getD_lt _ h]
theorem bytes_eq (a b : ByteArray) : a.toList = b.toList ↔ a = b := by
 obtain ⟨l, rfl⟩ := exB a
 obtain ⟨m, rfl⟩ := exB b
 rw [toList_B, toList_B, B_eq]
theorem branch_ne (a b : Bd) : (!(a.f0.toList == b.f0.toList) || (!(a.f1 == b.f1) || (!(a.f2 == b.f2)))) = decide (a ≠ b) := by
 obtain ⟨a0, a1, a2⟩ := a
 obtain ⟨b0, b1, b2⟩ := b
 by_cases h0 : a0 = b0
 ·
  by_cases h1 : a1 = b1
  ·
   by_cases h2 : a2 = b2
   ·
    subst h0 h1 h2; simp
   have : (a2 == b2) = false := beq_eq_false_iff_ne.2 h2
   simp [this, h2]
  have : (a1 == b1) = false := beq_eq_false_iff_ne.2 h1
  simp [this, h1]
 have : (a0.toList == b0.toList) = false := beq_eq_false_iff_ne.2 fun e => h0 ((bytes_eq _ _).1 e)
 simp [this, h0]
theorem equalB_loop (M N : List Bd) (hM : M.length ≤ 4611686018427387903) (he : M.length = N.length) : ∀ (d i : Nat), i + d = M.length → Ev (fun k => iF6.l0 k M N (M.length : Int) (i : Int)) (decide (M.drop i = N.drop i)) := by
 intro d
 induction d with
 | zero =>
  intro i h
  rw [List.drop_of_length_le (by omega), List.drop_of_length_le (by omega)]
  exact Ev.step (fun k => iF6.l0.eq_2 ..) (Ev.ifF (by omega) (by simpa using Ev.now true))
 | succ d ih =>
  intro i h
  have h1 : i < M.length := by omega
  have h2 : i < N.length := by omega
  refine Ev.step (fun k => iF6.l0.eq_2 ..) (Ev.ifT (by omega) (Ev.ifT (by omega) (Ev.ifT (by omega) (Ev.ifT (by omega) ?_))))
  rw [rd_getB M i h1, rd_getB N i h2, branch_ne, List.drop_eq_getElem_cons h1, List.drop_eq_getElem_cons h2]
  by_cases e : M[i] = N[i]
  ·
   rw [decide_eq_false (show ¬ M[i] ≠ N[i] from fun q => q e)]
   refine Ev.ifF Bool.false_ne_true ?_
   rw [wrap64_succ i (by omega)]
   simpa only [e, List.cons.injEq, true_and] using ih (i + 1) (by omega)
  rw [decide_eq_true e]
  refine Ev.ifT rfl ?_
  simpa only [e, List.cons.injEq, false_and, decide_false] using Ev.now false
theorem equalB_ev (M N : List Bd) (hM : M.length ≤ 4611686018427387903) : Ev (fun k => iF6.f k M N) (decide (M = N)) := by
 unfold iF6.f
 by_cases h : M.length = N.length
 ·
  refine Ev.ifT (by omega) ?_
  have := equalB_loop M N hM h M.length 0 (by omega)
  rwa [List.drop_zero, List.drop_zero] at this
 refine Ev.ifF (by omega) ?_
 rw [decide_eq_false fun e => h (by rw [e])]
 exact Ev.now _
theorem l4Same_loop (M N : List Bd) (hM : M.length ≤ 4611686018427387903) : ∀ (d i : Nat), i + d = M.length → i ≤ N.length → Ev (fun k => sF70.l0 k (i : Int) M N) (decide (M.drop i = N.drop i)) := by
 intro d
 induction d with
 | zero =>
  intro i h hN
  refine Ev.step (fun k => sF70.l0.eq_2 ..) (Ev.ifF (by omega) (Ev.step (fun k => sF70.j1.eq_2 ..) (Ev.ifF Bool.false_ne_true ?_)))
  rw [List.drop_of_length_le (show M.length ≤ i by omega)]
  have : ((M.length : Int) == (N.length : Int)) = decide ([] = N.drop i) := by
   by_cases e : M.length = N.length
   ·
    rw [List.drop_of_length_le (by omega), e]; simp
   have h1 : ((M.length : Int) == (N.length : Int)) = false := beq_eq_false_iff_ne.2 (by omega)
   rw [h1, decide_eq_false]
   intro q
   have := congrArg List.length q
   rw [List.length_drop, List.length_nil] at this
   omega
  rw [this]
  exact Ev.now _
 | succ d ih =>
  intro i h hN
  have h1 : i < M.length := by omega
  by_cases h2 : i < N.length
  ·
   refine Ev.step (fun k => sF70.l0.eq_2 ..) (Ev.ifT (by omega) ?_)
   rw [decide_eq_true (show (i : Int) < (N.length : Int) by omega)]
   refine Ev.step (fun k => sF70.j1.eq_2 ..) (Ev.ifT rfl (Ev.ifT (by omega) (Ev.ifT (by omega) (Ev.ifT (by omega) ?_))))
   rw [rd_getB M i h1, rd_getB N i h2, branch_ne, List.drop_eq_getElem_cons h1, List.drop_eq_getElem_cons h2]
   by_cases e : M[i] = N[i]
   ·
    rw [decide_eq_false (show ¬ M[i] ≠ N[i] from fun q => q e)]
    refine Ev.ifF Bool.false_ne_true ?_
    rw [wrap64_succ i (by omega)]
    simpa only [e, List.cons.injEq, true_and] using ih (i + 1) (by omega) (by omega)
   rw [decide_eq_true e]
   refine Ev.ifT rfl ?_
   simpa only [e, List.cons.injEq, false_and, decide_false] using Ev.now false
  refine Ev.step (fun k => sF70.l0.eq_2 ..) (Ev.ifT (by omega) ?_)
  rw [decide_eq_false (show ¬ (i : Int) < (N.length : Int) by omega)]
  refine Ev.step (fun k => sF70.j1.eq_2 ..) (Ev.ifF Bool.false_ne_true ?_)
  have h3 : ((M.length : Int) == (N.length : Int)) = false := beq_eq_false_iff_ne.2 (by omega)
  rw [h3, decide_eq_false]
  ·
   exact Ev.now _
  intro q
  have := congrArg List.length q
  rw [List.length_drop, List.length_drop] at this
  omega
theorem l4Same_ev (M N : List Bd) (hM : M.length ≤ 4611686018427387903) : Ev (fun k => sF70.f k M N) (decide (M = N)) := by
 have := l4Same_loop M N hM M.length 0 (by omega) (by omega)
 rw [List.drop_zero, List.drop_zero] at this
 exact this
def bpGo : List Bd → List Txt → Option (List Txt)
 | [], acc => some acc
 | b :: r, acc => if 0 ≤ b.f1 ∧ b.f1 < (acc.length : Int) ∧ b.f0.data.toList.length ≤ 12 ∧ wordL (acc.getD b.f1.toNat [] ++ b.f0.data.toList) = true then bpGo r (acc ++ [acc.getD b.f1.toNat [] ++ b.f0.data.toList]) else none
theorem bpref_loop (N' : List Bd) (hN : N'.length ≤ 1000000) : ∀ (d i : Nat) (acc : List Txt), i + d = N'.length → acc.length = i + 1 → (∀ p ∈ acc, wordL p = true) →
  Ev (fun k => iF11.l0 k (acc.map B) N' (N'.length : Int) (i : Int)) (prefR (bpGo (N'.drop i) acc)) := by
 intro d
 induction d with
 | zero =>
  intro i acc h1 h2 h3
  rw [List.drop_of_length_le (by omega)]
  exact Ev.step (fun k => iF11.l0.eq_2 ..) (Ev.ifF (by omega) (Ev.now _))
 | succ d ih =>
  intro i acc h1 h2 h3
  have hi : i < N'.length := by omega
  rw [List.drop_eq_getElem_cons hi]
  refine Ev.step (fun k => iF11.l0.eq_2 ..) (Ev.ifT (by omega) (Ev.ifT (by omega) (Ev.ifT (by omega) ?_)))
  rw [rd_getB N' i hi, in_eq]
  obtain ⟨s, hs⟩ := exB N'[i].f0
  unfold bpGo
  rw [hs, data_B, size_B]
  by_cases ha : 0 ≤ N'[i].f1 ∧ N'[i].f1 ≤ (i : Int)
  rotate_left
  ·
   rw [decide_eq_false ha, if_neg (fun h => ha ⟨h.1, by omega⟩)]
   exact Ev.some_bind (Ev.ifF Bool.false_ne_true (Ev.now _))
  rw [decide_eq_true ha]
  refine Ev.some_bind (Ev.ifT rfl ?_)
  by_cases hl : s.length ≤ 12
  rotate_left
  ·
   rw [if_neg fun h => hl h.2.2.1]
   exact Ev.ifT (by omega) (Ev.now _)
  obtain ⟨m, hm⟩ : ∃ m : Nat, N'[i].f1 = (m : Int) := ⟨N'[i].f1.toNat, by omega⟩
  have hml : m < acc.length := by omega
  have hmw := h3 _ (getD_mem hml)
  have hm12 := (wordL_iff.1 hmw).2
  rw [hm, rdB acc m hml, Int.toNat_natCast]
  refine Ev.ifF (by omega) (Ev.ifT (by omega) (Ev.ifT (by rw [List.length_map]; omega) (Ev.ifT (by rw [size_B]; omega) ?_)))
  rw [append_B, isWord_eq]
  by_cases hw : wordL (acc.getD m [] ++ s) = true
  ·
   rw [hw, if_pos ⟨by omega, by omega, hl, rfl⟩]
   refine Ev.some_bind (Ev.ifT rfl (Ev.ifT (by rw [List.length_map]; omega) ?_))
   rw [wrap64_succ i (by omega)]
   have := ih (i + 1) (acc ++ [acc.getD m [] ++ s]) (by omega) (by simp; omega) (fun p hp => by
    rcases List.mem_append.1 hp with hp | hp
    ·
     exact h3 p hp
    rw [List.mem_singleton.1 hp]; exact hw)
   rw [List.map_append, List.map_singleton] at this
   exact this
  rw [if_neg fun h => hw h.2.2.2, show wordL (acc.getD m [] ++ s) = false from by simpa using hw]
  exact Ev.some_bind (Ev.ifF Bool.false_ne_true (Ev.now _))
def bpN (N : List Bd) : Option (List Txt) := if 1 ≤ N.length ∧ N.length ≤ 81 then bpGo (N.drop 1) [[]] else none
theorem bprefixes_ev (N : List Bd) : Ev (fun k => iF11.f k N) (prefR (bpN N)) := by
 unfold iF11.f bpN
 simp only [in_eq]
 by_cases h : 1 ≤ N.length ∧ N.length ≤ 81
 ·
  rw [if_pos h, decide_eq_true (show (1 : Int) ≤ (N.length : Int) ∧ (N.length : Int) ≤ 81 by omega)]
  refine Ev.some_bind (Ev.ifT rfl (Ev.ifT (by omega) (Ev.some_bind ?_)))
  exact bpref_loop (N.drop 1) (by rw [List.length_drop]; omega) (N.drop 1).length 0 [[]] (by omega) rfl (by simp; rfl)
 rw [if_neg h, decide_eq_false (show ¬ ((1 : Int) ≤ (N.length : Int) ∧ (N.length : Int) ≤ 81) by omega)]
 exact Ev.some_bind (Ev.ifF Bool.false_ne_true (Ev.now _))
theorem bpGo_ok : ∀ (r : List Bd) (acc ps : List Txt), bpGo r acc = some ps → (∀ p ∈ acc, wordL p = true) → (∀ p ∈ ps, wordL p = true) ∧ ps.length = acc.length + r.length
 | [], acc, ps, h, ha => by
  obtain rfl := Option.some.inj h
  exact ⟨ha, rfl⟩
 | n :: r, acc, ps, h, ha => by
  unfold bpGo at h
  by_cases hc : 0 ≤ n.f1 ∧ n.f1 < (acc.length : Int) ∧ n.f0.data.toList.length ≤ 12 ∧ wordL (acc.getD n.f1.toNat [] ++ n.f0.data.toList) = true
  ·
   rw [if_pos hc] at h
   obtain ⟨h1, h2⟩ := bpGo_ok r _ ps h (fun p hp => by
    rcases List.mem_append.1 hp with hp | hp
    ·
     exact ha p hp
    rw [List.mem_singleton.1 hp]; exact hc.2.2.2)
   exact ⟨h1, by rw [h2]; simp; omega⟩
  rw [if_neg hc] at h; cases h
theorem brs_get (P ws : List Txt) (i : Nat) (h : i < (brs P ws).length) : (brs P ws)[i] = brN (brL P ws ((stayQ P ws).getD i [])) := by
 have h2 : i < (stayQ P ws).length := by rwa [brs_length] at h
 simp only [brs, brsL, List.getElem_map, getD_lt [] h2]
theorem bpGo_tr {P : List Txt} (ws : List Txt) (hA : Asc P) (hC : Clo P) (hW : ∀ p ∈ P, wordL p = true) : ∀ (d i : Nat), i + d = (stayQ P ws).length → 0 < i → bpGo ((brs P ws).drop i) ((stayQ P ws).take i) = some (stayQ P ws) := by
 intro d
 induction d with
 | zero =>
  intro i h h0
  rw [List.drop_of_length_le (by rw [brs_length]; omega), List.take_of_length_le (by omega)]
  rfl
 | succ d ih =>
  intro i h h0
  have hi : i < (stayQ P ws).length := by omega
  have hb : i < (brs P ws).length := by rw [brs_length]; exact hi
  have hm := getD_mem hi
  have hne := stayQ_pos ws hA hC hi h0
  obtain ⟨u1, u2⟩ := stayQ_parent ws hA hC hi h0
  have hup := up_append ws hC (mem_stayQ.1 hm).1 hne
  have hw := hW _ (mem_stayQ.1 hm).1
  rw [List.drop_eq_getElem_cons hb, brs_get P ws i hb]
  unfold brL brN
  rw [if_neg hne, if_neg hne, bpGo]
  simp only [data_B, Int.toNat_natCast]
  have hg : ((stayQ P ws).take i).getD (placeL (stayQ P ws) (upL P ws ((stayQ P ws).getD i []))) [] = upL P ws ((stayQ P ws).getD i []) := by
   rw [List.getD_eq_getElem?_getD, List.getElem?_take_of_lt u1, ← List.getD_eq_getElem?_getD, u2]
  rw [hg, hup, if_pos ⟨by omega, by rw [List.length_take]; omega, by rw [List.length_drop]; have := (wordL_iff.1 hw).2; omega, hw⟩]
  have := ih (i + 1) (by omega) (by omega)
  rwa [take_succ_getD [] hi] at this
theorem bpN_tr {ws : List Txt} (h : OkW ws) (hl : (stayQ (preL ws) ws).length ≤ 81) : bpN (brs (preL ws) ws) = some (stayQ (preL ws) ws) := by
 obtain ⟨z1, z2⟩ := stayQ_zero ws (asc_preL ws) (clo_preL ws)
 have := bpGo_tr ws (asc_preL ws) (clo_preL ws) (fun p hp => preL_word h.word hp) ((stayQ (preL ws) ws).length - 1) 1 (by omega) (by omega)
 unfold bpN
 rw [if_pos (by rw [brs_length]; omega)]
 have e : (stayQ (preL ws) ws).take 1 = [[]] := by rw [take_succ_getD [] z1, z2]; rfl
 rwa [e] at this
def bwGo : List Bd → List Txt → List Txt
 | b :: r, t :: ps => if b.f2 = true then t :: bwGo r ps else bwGo r ps
 | _, _ => []
theorem bwGo_mem : ∀ (N : List Bd) (ps : List Txt) (w : Txt), w ∈ bwGo N ps → w ∈ ps
 | [], _, _, h => by simp [bwGo] at h
 | b :: r, [], _, h => by simp [bwGo] at h
 | b :: r, t :: ps, w, h => by
  rw [bwGo] at h
  split at h
  ·
   rcases List.mem_cons.1 h with rfl | h
   ·
    exact List.mem_cons_self
   exact List.mem_cons_of_mem _ (bwGo_mem r ps w h)
  exact List.mem_cons_of_mem _ (bwGo_mem r ps w h)
theorem bwGo_len : ∀ (N : List Bd) (ps : List Txt), (bwGo N ps).length ≤ N.length
 | [], _ => by simp [bwGo]
 | b :: r, [] => by simp [bwGo]
 | b :: r, t :: ps => by
  have := bwGo_len r ps
  rw [bwGo]
  split <;> simp <;> omega
theorem bwGo_tr (P ws : List Txt) : ∀ Q : List Txt, bwGo (Q.map fun p => brN (brL P ws p)) Q = Q.filter fun p => decide (p ∈ ws)
 | [] => rfl
 | p :: Q => by
  rw [List.map_cons, bwGo, bwGo_tr P ws Q, List.filter_cons]
  rfl
theorem brs_map (P ws : List Txt) : brs P ws = (stayQ P ws).map fun p => brN (brL P ws p) := by
 unfold brs brsL
 rw [List.map_map]
 rfl
theorem ofWords_ev (W : List Txt) (hW : W.all wordL = true) (hl : W.length ≤ 1000000) : Ev (fun k => iF26.f k (W.map B)) (if (setL W).length ≤ 40 then (trN (preL (setL W)) (setL W), true) else ([], false)) := by
 unfold iF26.f
 rw [set_eq W (by omega)]
 refine Ev.some_bind ?_
 rw [List.length_map]
 by_cases h : (setL W).length ≤ 40
 ·
  rw [if_pos h]
  exact Ev.ifF (by omega) (Ev.bind (trieOf_ev (okW_setL hW h)) (Ev.now _))
 rw [if_neg h]
 exact Ev.ifT (by omega) (Ev.now _)
def IsPr (N : List Bd) : Prop := ∃ ws, OkW ws ∧ N = brs (preL ws) ws ∧ N.length ≤ 81
theorem IsPr.pos {N : List Bd} (h : IsPr N) : 1 ≤ N.length ∧ N.length ≤ 81 := by
 obtain ⟨ws, h, rfl, h2⟩ := h
 refine ⟨?_, h2⟩
 rw [brs_length]
 exact (stayQ_zero ws (asc_preL ws) (clo_preL ws)).1
theorem open_loop (N : List Bd) (ps : List Txt) (hN : N.length ≤ 1000000) (hp : ps.length = N.length) (r : List S76 × Bool)
  (hr : Ev (fun k => iF10.l0 k (ps.map B) ((bwGo N ps).map B) N (N.length : Int) (N.length : Int) N) r) : ∀ (d i : Nat) (acc : List Txt), i + d = N.length → acc.length ≤ i → acc ++ bwGo (N.drop i) (ps.drop i) = bwGo N ps →
  Ev (fun k => iF10.l0 k (ps.map B) (acc.map B) N (N.length : Int) (i : Int) N) r := by
 intro d
 induction d with
 | zero =>
  intro i acc h1 h2 h3
  obtain rfl : i = N.length := by omega
  rw [List.drop_of_length_le (Nat.le_refl _)] at h3
  rw [show acc = bwGo N ps from by rw [← h3]; simp [bwGo]]
  exact hr
 | succ d ih =>
  intro i acc h1 h2 h3
  have hi : i < N.length := by omega
  have hpi : i < ps.length := by omega
  refine Ev.step (fun k => iF10.l0.eq_2 ..) (Ev.ifT (by omega) (Ev.ifT (by omega) (Ev.ifT (by omega) ?_)))
  rw [List.drop_eq_getElem_cons hi, drop_cons_getD [] hpi, bwGo] at h3
  rw [rd_getB N i hi, wrap64_succ i (by omega)]
  by_cases hf : N[i].f2 = true
  ·
   rw [if_pos hf] at h3
   refine Ev.ifT hf (Ev.ifT (by rw [List.length_map]; omega) (Ev.ifT (by rw [List.length_map]; omega) ?_))
   rw [rdB ps i hpi]
   have := ih (i + 1) (acc ++ [ps.getD i []]) (by omega) (by simp; omega) (by rw [List.append_assoc]; exact h3)
   rw [List.map_append, List.map_singleton] at this
   exact this
  rw [if_neg hf] at h3
  exact Ev.ifF hf (ih (i + 1) acc (by omega) (by omega) h3)
theorem open_ev (N : List Bd) : (∀ ws, OkW ws → N = brs (preL ws) ws → N.length ≤ 81 → Ev (fun k => iF10.f k N) (trN (preL ws) ws, true)) ∧ (¬ IsPr N → Ev (fun k => iF10.f k N) ([], false)) := by
 have fin : ∀ ps W : List Txt, W.all wordL = true → W.length ≤ 1000000 → N.length ≤ 81 → Ev (fun k => iF10.l0 k (ps.map B) (W.map B) N (N.length : Int) (N.length : Int) N) (if (setL W).length ≤ 40 ∧ brs (preL (setL W)) (setL W) = N then (trN (preL (setL W)) (setL W), true) else ([], false)) := by
  intro ps W hW hl hN
  have h1 := ofWords_ev W hW hl
  refine Ev.step (fun k => iF10.l0.eq_2 ..) (Ev.ifF (by omega) (Ev.bind h1 ?_))
  by_cases h40 : (setL W).length ≤ 40
  ·
   rw [if_pos h40]
   have hok := okW_setL hW h40
   have hlen : (brs (preL (setL W)) (setL W)).length ≤ 4611686018427387903 := by
    rw [brs_length]
    have h2 : (stayQ (preL (setL W)) (setL W)).length ≤ (preL (setL W)).length := List.length_filter_le _ _
    have := hok.pre
    omega
   refine Ev.ifT rfl (Ev.bind (press_ev hok) (Ev.bind (equalB_ev _ _ hlen) ?_))
   by_cases he : brs (preL (setL W)) (setL W) = N
   ·
    rw [if_pos (show (setL W).length ≤ 40 ∧ brs (preL (setL W)) (setL W) = N from ⟨h40, he⟩)]
    exact Ev.ifT (decide_eq_true he) (Ev.now _)
   rw [if_neg (show ¬ ((setL W).length ≤ 40 ∧ brs (preL (setL W)) (setL W) = N) from fun h => he h.2)]
   exact Ev.ifF (by rw [decide_eq_false he]; exact Bool.false_ne_true) (Ev.now _)
  rw [if_neg h40, if_neg (show ¬ ((setL W).length ≤ 40 ∧ brs (preL (setL W)) (setL W) = N) from fun h => h40 h.1)]
  exact Ev.ifF Bool.false_ne_true (Ev.now _)
 have hpre := bprefixes_ev N
 constructor
 ·
  intro ws h he hl
  have hl2 : (stayQ (preL ws) ws).length ≤ 81 := by rw [← brs_length, ← he]; exact hl
  unfold iF10.f
  rw [he] at hpre
  rw [bpN_tr h hl2] at hpre
  rw [he]
  refine Ev.bind hpre (Ev.ifT rfl ?_)
  have hb : bwGo (brs (preL ws) ws) (stayQ (preL ws) ws) = ws := by rw [brs_map, bwGo_tr, filter_stayQ h.asc]
  have h1 := fin (stayQ (preL ws) ws) ws (List.all_eq_true.2 h.word) (by have := h.len; omega) hl
  rw [setL_of_asc h.asc, if_pos ⟨h.len, he.symm⟩, he] at h1
  refine open_loop (brs (preL ws) ws) (stayQ (preL ws) ws) (by rw [brs_length]; omega) (by rw [brs_length]) _ (by rw [hb]; exact h1) (brs (preL ws) ws).length 0 [] (by omega) (by simp) (by simp)
 intro hn
 unfold iF10.f
 refine Ev.bind hpre ?_
 cases hc : bpN N with
 | none => exact Ev.ifF Bool.false_ne_true (Ev.now _)
 | some ps =>
  refine Ev.ifT rfl ?_
  unfold bpN at hc
  by_cases hl : 1 ≤ N.length ∧ N.length ≤ 81
  ·
   rw [if_pos hl] at hc
   obtain ⟨h1, h2⟩ := bpGo_ok _ _ _ hc (by simp; rfl)
   have h3 : ps.length = N.length := by rw [h2, List.length_drop, List.length_singleton]; omega
   have hW : (bwGo N ps).all wordL = true := List.all_eq_true.2 fun w hw => h1 w (bwGo_mem _ _ _ hw)
   have hWl := bwGo_len N ps
   have h4 := fin ps (bwGo N ps) hW (by omega) hl.2
   rw [if_neg] at h4
   ·
    exact open_loop N ps (by omega) h3 _ h4 N.length 0 [] (by omega) (by simp) (by simp)
   rintro ⟨a1, a2⟩
   exact hn ⟨_, okW_setL hW a1, a2.symm, hl.2⟩
  rw [if_neg hl] at hc; cases hc
theorem wordL_suf {p s : Txt} (h : wordL (p ++ s) = true) : wordL s = true := by
 obtain ⟨h1, h2⟩ := wordL_iff.1 h
 rw [List.length_append] at h2
 exact wordL_iff.2 ⟨fun c hc => h1 c (List.mem_append.2 (.inr hc)), by omega⟩
theorem l4Prefix_ex (N : List Bd) (hN : ∀ b ∈ N, b.f0.size ≤ 1000000000) : ∀ (d : Nat) (x1 : Int) (s : Txt), x1.toNat ≤ d → x1 < N.length → s.length ≤ 24 → ∃ r : Txt, r.length ≤ 24 ∧ Ev (fun k => sF68.l0 k x1 (B s) N) (B r) := by
 have last : ∀ (x1 : Int) (s : Txt), s.length ≤ 24 → ∃ r : Txt, r.length ≤ 24 ∧ Ev (fun k => sF68.j1 k x1 (B s) false N) (B r) := by
  intro x1 s hs
  by_cases h : x1 = 0
  ·
   exact ⟨s, hs, Ev.step (fun k => sF68.j1.eq_2 ..) (Ev.ifF Bool.false_ne_true (Ev.ifT h (Ev.now _)))⟩
  exact ⟨[63], by simp, Ev.step (fun k => sF68.j1.eq_2 ..) (Ev.ifF Bool.false_ne_true (Ev.ifF h (Ev.now _)))⟩
 intro d
 induction d with
 | zero =>
  intro x1 s h1 h2 h3
  obtain ⟨r, hr, he⟩ := last x1 s h3
  exact ⟨r, hr, Ev.step (fun k => sF68.l0.eq_2 ..) (Ev.ifF (by omega) he)⟩
 | succ d ih =>
  intro x1 s h1 h2 h3
  by_cases h0 : x1 > 0
  rotate_left
  ·
   obtain ⟨r, hr, he⟩ := last x1 s h3
   exact ⟨r, hr, Ev.step (fun k => sF68.l0.eq_2 ..) (Ev.ifF h0 he)⟩
  by_cases hs : s.length ≤ 12
  rotate_left
  ·
   obtain ⟨r, hr, he⟩ := last x1 s h3
   refine ⟨r, hr, Ev.step (fun k => sF68.l0.eq_2 ..) (Ev.ifT h0 ?_)⟩
   rw [size_B, decide_eq_false (show ¬ (s.length : Int) ≤ 12 by omega)]
   exact he
  obtain ⟨m, hm⟩ : ∃ m : Nat, x1 = (m : Int) := ⟨x1.toNat, by omega⟩
  subst hm
  have hml : m < N.length := by omega
  have hsz := hN _ (List.getElem_mem hml)
  obtain ⟨t, ht⟩ := exB N[m].f0
  rw [ht, size_B] at hsz
  have go : ∀ r : ByteArray, Ev (fun k => if (N[m].f1) ≥ (m : Int) then (some (⟨#[63]⟩ : ByteArray)) else (if (N[m].f0).toList = ([] : List UInt8) then (some (⟨#[63]⟩ : ByteArray)) else ((sF65.f k (N[m].f0)).bind fun t109 => (if t109 = true then (if (N[m].f0).size + (B s).size ≤ 9223372036854775807 then (sF68.l0 k (N[m].f1) ((N[m].f0) ++ B s) N) else (none)) else (some (⟨#[63]⟩ : ByteArray)))))) r → Ev (fun k => sF68.l0 k (m : Int) (B s) N) r := by
   intro r hr
   refine Ev.step (fun k => sF68.l0.eq_2 ..) (Ev.ifT h0 ?_)
   rw [size_B, decide_eq_true (show (s.length : Int) ≤ 12 by omega)]
   refine Ev.step (fun k => sF68.j1.eq_2 ..) (Ev.ifT rfl (Ev.ifT (by omega) (Ev.ifT (by omega) ?_)))
   rw [rd_getB N m hml]
   exact hr
  by_cases hp : N[m].f1 ≥ (m : Int)
  ·
   exact ⟨[63], by simp, go _ (Ev.ifT hp (Ev.now _))⟩
  by_cases he : t = []
  ·
   refine ⟨[63], by simp, go _ (Ev.ifF hp (Ev.ifT ?_ (Ev.now _)))⟩
   rw [ht, toList_B]; exact he
  have hwd := l2Word_ev t (by omega)
  by_cases hw : wordL t = true
  ·
   rw [hw] at hwd
   have h12 := (wordL_iff.1 hw).2
   obtain ⟨r, hr, hev⟩ := ih N[m].f1 (t ++ s) (by omega) (by omega) (by rw [List.length_append]; omega)
   refine ⟨r, hr, go _ (Ev.ifF hp (Ev.ifF ?_ ?_))⟩
   ·
    rw [ht, toList_B]; exact he
   rw [ht, append_B, size_B, size_B]
   exact Ev.bind hwd (Ev.ifT rfl (Ev.ifT (by omega) hev))
  have hwf : wordL t = false := by simpa using hw
  rw [hwf] at hwd
  refine ⟨[63], by simp, go _ (Ev.ifF hp (Ev.ifF ?_ ?_))⟩
  ·
   rw [ht, toList_B]; exact he
  rw [ht]
  exact Ev.bind hwd (Ev.ifF Bool.false_ne_true (Ev.now _))
theorem l4Prefix_up {P : List Txt} (ws : List Txt) (hA : Asc P) (hC : Clo P) (hW : ∀ p ∈ P, wordL p = true) : ∀ (n : Nat) (t s : Txt), t.length ≤ n → t ∈ stayQ P ws → (t ++ s).length ≤ 12 →
  Ev (fun k => sF68.l0 k ((placeL (stayQ P ws) t : Nat) : Int) (B s) (brs P ws)) (B (t ++ s)) := by
 have hQA := asc_stayQ ws hA
 obtain ⟨q1, q2⟩ := stayQ_zero ws hA hC
 have hnil : ∀ s : Txt, Ev (fun k => sF68.l0 k ((placeL (stayQ P ws) [] : Nat) : Int) (B s) (brs P ws)) (B ([] ++ s)) := by
  intro s
  have h0 : placeL (stayQ P ws) [] = 0 := by have := placeL_get hQA q1; rwa [q2] at this
  rw [h0, List.nil_append]
  exact Ev.step (fun k => sF68.l0.eq_2 ..) (Ev.ifF (by omega) (Ev.step (fun k => sF68.j1.eq_2 ..) (Ev.ifF Bool.false_ne_true (Ev.ifT rfl (Ev.now _)))))
 intro n
 induction n with
 | zero =>
  intro t s h1 h2 h3
  have := List.eq_nil_of_length_eq_zero (Nat.le_zero.1 h1)
  subst this
  exact hnil s
 | succ n ih =>
  intro t s h1 h2 h3
  by_cases hne : t = []
  ·
   subst hne; exact hnil s
  obtain ⟨z1, z2⟩ := placeL_mem h2
  have h0 : 0 < placeL (stayQ P ws) t := by
   rcases Nat.eq_zero_or_pos (placeL (stayQ P ws) t) with e | e
   ·
    rw [e, q2] at z2; exact absurd z2.symm hne
   exact e
  have hP := (mem_stayQ.1 h2).1
  obtain ⟨u1, u2, u3, u4⟩ := upL_spec ws hC hP hne
  have hpar := stayQ_parent ws hA hC z1 h0
  rw [z2] at hpar
  have hup := up_append ws hC hP hne
  have hdn := drop_ne ws hC hP hne
  rw [List.length_append] at h3
  have hwd : wordL (t.drop (upL P ws t).length) = true := by
   have := hW t hP
   rw [← hup] at this
   exact wordL_suf this
  have hl := l2Word_ev (t.drop (upL P ws t).length) (by rw [List.length_drop]; omega)
  rw [hwd] at hl
  refine Ev.step (fun k => sF68.l0.eq_2 ..) (Ev.ifT (by omega) ?_)
  rw [size_B, decide_eq_true (show (s.length : Int) ≤ 12 by omega)]
  refine Ev.step (fun k => sF68.j1.eq_2 ..) (Ev.ifT rfl (Ev.ifT (by omega) (Ev.ifT (by rw [brs_length]; omega) ?_)))
  rw [rdBr P ws _ z1, z2]
  unfold brN brL
  rw [if_neg hne, if_neg hne]
  refine Ev.ifF (by show ¬ ((placeL (stayQ P ws) (upL P ws t) : Nat) : Int) ≥ ((placeL (stayQ P ws) t : Nat) : Int); omega) (Ev.ifF (by rw [toList_B]; exact hdn) (Ev.bind hl (Ev.ifT rfl (Ev.ifT (by rw [size_B, size_B, List.length_drop]; omega) ?_))))
  rw [append_B]
  have := ih (upL P ws t) (t.drop (upL P ws t).length ++ s) (by omega) (up_stayQ ws hC h2 hne) (by rw [← List.append_assoc, hup, List.length_append]; omega)
  rw [← List.append_assoc, hup] at this
  exact this
theorem l4Prefix_ev {ws : List Txt} (h : OkW ws) {i : Nat} (hi : i < (stayQ (preL ws) ws).length) : Ev (fun k => sF68.f k (brs (preL ws) ws) (i : Int)) (B ((stayQ (preL ws) ws).getD i [])) := by
 have hm := getD_mem hi
 have hW := preL_word h.word (mem_stayQ.1 hm).1
 have := l4Prefix_up ws (asc_preL ws) (clo_preL ws) (fun p hp => preL_word h.word hp) _ ((stayQ (preL ws) ws).getD i []) [] (Nat.le_refl _) hm (by rw [List.append_nil]; exact (wordL_iff.1 hW).2)
 rw [placeL_get (asc_stayQ ws (asc_preL ws)) hi, List.append_nil] at this
 exact this
theorem l4Open_fin (N : List Bd) (hN : N.length ≤ 81) (W : List Txt) (hl : W.length ≤ 81) (hw : ∀ w ∈ W, w.length ≤ 24) :
  Ev (fun k => sF67.l0 k (W.map B) (N.length : Int) N) (if W.all wordL = true ∧ (setL W).length ≤ 40 ∧ brs (preL (setL W)) (setL W) = N then (trN (preL (setL W)) (setL W), true) else ([], false)) := by
 refine Ev.step (fun k => sF67.l0.eq_2 ..) (Ev.ifF (by omega) (Ev.bind (l2Set_ev (b := 24) W (by omega) hw) ?_))
 by_cases ha : W.all wordL = true
 rotate_left
 ·
  rw [if_neg ha, if_neg (show ¬ (W.all wordL = true ∧ (setL W).length ≤ 40 ∧ brs (preL (setL W)) (setL W) = N) from fun h => ha h.1)]
  exact Ev.ifF Bool.false_ne_true (Ev.now _)
 rw [if_pos ha]
 by_cases h40 : (setL W).length ≤ 40
 ·
  have hok := okW_setL ha h40
  have hlen : (brs (preL (setL W)) (setL W)).length ≤ 4611686018427387903 := by
   rw [brs_length]
   have h2 : (stayQ (preL (setL W)) (setL W)).length ≤ (preL (setL W)).length := List.length_filter_le _ _
   have := hok.pre
   omega
  refine Ev.ifT (by simpa using h40) (Ev.bind (l2Of_ev hok) (Ev.bind (l4Press_ev hok) (Ev.bind (l4Same_ev _ _ hlen) ?_)))
  by_cases he : brs (preL (setL W)) (setL W) = N
  ·
   rw [if_pos (show W.all wordL = true ∧ (setL W).length ≤ 40 ∧ brs (preL (setL W)) (setL W) = N from ⟨ha, h40, he⟩)]
   exact Ev.ifT (decide_eq_true he) (Ev.now _)
  rw [if_neg (show ¬ (W.all wordL = true ∧ (setL W).length ≤ 40 ∧ brs (preL (setL W)) (setL W) = N) from fun h => he h.2.2)]
  exact Ev.ifF (by rw [decide_eq_false he]; exact Bool.false_ne_true) (Ev.now _)
 rw [if_neg (show ¬ (W.all wordL = true ∧ (setL W).length ≤ 40 ∧ brs (preL (setL W)) (setL W) = N) from fun h => h40 h.2.1)]
 exact Ev.ifF (by simpa using h40) (Ev.now _)
theorem l4Open_ex (N : List Bd) (hN : N.length ≤ 81) (hb : ∀ b ∈ N, b.f0.size ≤ 1000000000) (hn : ¬ IsPr N) : ∀ (d i : Nat) (acc : List Txt), i + d = N.length → acc.length ≤ i → (∀ w ∈ acc, w.length ≤ 24) →
  Ev (fun k => sF67.l0 k (acc.map B) (i : Int) N) ([], false) := by
 intro d
 induction d with
 | zero =>
  intro i acc h1 h2 h3
  obtain rfl : i = N.length := by omega
  have := l4Open_fin N hN acc (by omega) h3
  rw [if_neg] at this
  ·
   exact this
  rintro ⟨a1, a2, a3⟩
  exact hn ⟨_, okW_setL a1 a2, a3.symm, hN⟩
 | succ d ih =>
  intro i acc h1 h2 h3
  have hi : i < N.length := by omega
  refine Ev.step (fun k => sF67.l0.eq_2 ..) (Ev.ifT (by omega) (Ev.ifT (by omega) ?_))
  rw [wrap64_succ i (by omega)]
  by_cases hf : (rd_T60 N (i : Int)).f2 = true
  ·
   obtain ⟨r, hr, he⟩ := l4Prefix_ex N hb i (i : Int) [] (by omega) (by omega) (by simp)
   have := ih (i + 1) (acc ++ [r]) (by omega) (by simp; omega) (fun w hw => by
    rcases List.mem_append.1 hw with hw | hw
    ·
     exact h3 w hw
    rw [List.mem_singleton.1 hw]; exact hr)
   rw [List.map_append, List.map_singleton] at this
   exact Ev.ifT hf (Ev.bind he (Ev.ifT (by rw [List.length_map]; omega) this))
  exact Ev.ifF hf (ih (i + 1) acc (by omega) (by omega) h3)
theorem l4Open_tr {ws : List Txt} (h : OkW ws) (hl : (stayQ (preL ws) ws).length ≤ 81) : ∀ (d i : Nat) (acc : List Txt), i + d = (stayQ (preL ws) ws).length → acc.length ≤ i → acc ++ ((stayQ (preL ws) ws).drop i).filter (fun p => decide (p ∈ ws)) = ws →
  Ev (fun k => sF67.l0 k (acc.map B) (i : Int) (brs (preL ws) ws)) (trN (preL ws) ws, true) := by
 have h40 := h.len
 intro d
 induction d with
 | zero =>
  intro i acc h1 h2 h3
  rw [List.drop_of_length_le (by omega), List.filter_nil, List.append_nil] at h3
  subst h3
  have := l4Open_fin (brs (preL acc) acc) (by rw [brs_length]; exact hl) acc (by omega) (fun w hw => by have := h.le w hw; omega)
  rw [setL_of_asc h.asc, if_pos ⟨List.all_eq_true.2 h.word, h.len, rfl⟩, brs_length] at this
  rw [show i = (stayQ (preL acc) acc).length from by omega]
  exact this
 | succ d ih =>
  intro i acc h1 h2 h3
  have hi : i < (stayQ (preL ws) ws).length := by omega
  rw [drop_cons_getD [] hi, List.filter_cons] at h3
  refine Ev.step (fun k => sF67.l0.eq_2 ..) (Ev.ifT (by rw [brs_length]; omega) (Ev.ifT (by omega) ?_))
  rw [wrap64_succ i (by omega), rdBr _ ws i hi]
  by_cases hm : (stayQ (preL ws) ws).getD i [] ∈ ws
  ·
   rw [if_pos (decide_eq_true hm)] at h3
   have := ih (i + 1) (acc ++ [(stayQ (preL ws) ws).getD i []]) (by omega) (by simp; omega) (by rw [List.append_assoc]; exact h3)
   rw [List.map_append, List.map_singleton] at this
   exact Ev.ifT (decide_eq_true hm) (Ev.bind (l4Prefix_ev h hi) (Ev.ifT (by rw [List.length_map]; omega) this))
  rw [if_neg (by rw [decide_eq_false hm]; exact Bool.false_ne_true)] at h3
  exact Ev.ifF (by show ¬ decide _ = true; rw [decide_eq_false hm]; exact Bool.false_ne_true) (ih (i + 1) acc (by omega) (by omega) h3)
theorem open_both (N : List Bd) (hb : ∀ b ∈ N, b.f0.size ≤ 1000000000) :
  (∃ ws, OkW ws ∧ N = brs (preL ws) ws ∧ (stayQ (preL ws) ws).length ≤ 81 ∧ Ev (fun k => sF67.f k N) (trN (preL ws) ws, true) ∧ Ev (fun k => iF10.f k N) (trN (preL ws) ws, true)) ∨
  (Ev (fun k => sF67.f k N) ([], false) ∧ Ev (fun k => iF10.f k N) ([], false)) := by
 obtain ⟨o1, o2⟩ := open_ev N
 by_cases hn : IsPr N
 ·
  have hpos := hn.pos
  obtain ⟨ws, h, he, hl⟩ := hn
  have hl2 : (stayQ (preL ws) ws).length ≤ 81 := by rw [← brs_length, ← he]; exact hl
  refine .inl ⟨ws, h, he, hl2, ?_, o1 ws h he hl⟩
  unfold sF67.f
  simp only [l1In_eq]
  rw [decide_eq_true (show (1 : Int) ≤ (N.length : Int) ∧ (N.length : Int) ≤ 81 by omega), he]
  exact Ev.some_bind (Ev.ifT rfl (l4Open_tr h hl2 (stayQ (preL ws) ws).length 0 [] (by omega) (by simp) (by rw [List.drop_zero, List.nil_append]; exact filter_stayQ h.asc)))
 refine .inr ⟨?_, o2 hn⟩
 unfold sF67.f
 simp only [l1In_eq]
 by_cases hl : (1 : Int) ≤ (N.length : Int) ∧ (N.length : Int) ≤ 81
 ·
  rw [decide_eq_true hl]
  exact Ev.some_bind (Ev.ifT rfl (l4Open_ex N (by omega) hb hn N.length 0 [] (by omega) (by simp) (by simp)))
 rw [decide_eq_false hl]
 exact Ev.some_bind (Ev.ifF Bool.false_ne_true (Ev.now _))
def toB (l : List S71) : List Bd := l.map fun x => ⟨x.f0, x.f1, x.f2⟩
theorem toB_length (l : List S71) : (toB l).length = l.length := by simp [toB]
theorem rd_getL (N : List S71) (i : Nat) (h : i < N.length) : rd_T71 N (i : Int) = N[i] := by
 unfold rd_T71
 rw [Int.toNat_natCast, getD_lt _ h]
theorem szP_loop (l : List S71) (hl : l.length ≤ 1048576) (hs : ∀ x ∈ l, x.f0.size ≤ 9223372036854775807) : ∀ (d i : Nat) (v : Int), i + d = l.length → 0 ≤ v → v ≤ 1048576 → ∃ r : Int, Ev (fun k => wF39.l0 k l v (i : Int)) r ∧ r ≤ 1048576 ∧ (0 ≤ r → ∀ x ∈ l.drop i, x.f0.size ≤ 1048576) := by
 intro d
 induction d with
 | zero =>
  intro i v h h0 h1
  rw [List.drop_of_length_le (by omega)]
  exact ⟨v, Ev.step (fun k => wF39.l0.eq_2 ..) (Ev.ifF (by omega) (Ev.now _)), h1, fun _ x hx => by simp at hx⟩
 | succ d ih =>
  intro i v h h0 h1
  have hi : i < l.length := by omega
  have hx := hs _ (List.getElem_mem hi)
  rw [List.drop_eq_getElem_cons hi]
  have go : ∀ r : Int, Ev (fun k => (wF38.f (l[i].f0) (l[i].f1) (l[i].f2) v).bind fun t103 => (if t103 < 0 then (some (-1)) else (wF39.l0 k l t103 (wrap64 ((i : Int) + 1))))) r → Ev (fun k => wF39.l0 k l v (i : Int)) r := by
   intro r hr
   refine Ev.step (fun k => wF39.l0.eq_2 ..) (Ev.ifT (by omega) (Ev.ifT (by omega) ?_))
   rw [rd_getL l i hi]
   exact hr
  have hw : wrap64 (v - (l[i].f0.size : Int)) = v - (l[i].f0.size : Int) := wrap64_id (by omega) (by omega)
  by_cases hn : v - (l[i].f0.size : Int) < 0
  ·
   refine ⟨-1, go _ ?_, by omega, fun h => by omega⟩
   unfold wF38.f
   rw [hw, if_pos hn]
   exact Ev.some_bind (Ev.ifT (by omega) (Ev.now _))
  obtain ⟨r, r1, r2, r3⟩ := ih (i + 1) (v - (l[i].f0.size : Int)) (by omega) (by omega) (by omega)
  refine ⟨r, go _ ?_, r2, fun h x hx => ?_⟩
  ·
   unfold wF38.f
   rw [hw, if_neg hn]
   refine Ev.some_bind (Ev.ifF (by omega) ?_)
   rw [wrap64_succ i (by omega)]
   exact r1
  rcases List.mem_cons.1 hx with rfl | hx
  ·
   omega
  exact r3 h x hx
theorem szP_ev (l : List S71) (hl : l.length ≤ 9223372036854775807) (hs : ∀ x ∈ l, x.f0.size ≤ 9223372036854775807) : ∃ r : Int, Ev (fun k => wF40.f k l 1048576) r ∧ (0 ≤ r → l.length ≤ 1048576 ∧ ∀ x ∈ l, x.f0.size ≤ 1048576) := by
 have fin : ∀ r : Int, Ev (fun k => wF39.f k l 1048576) r → Ev (fun k => wF40.f k l 1048576) (if r < 0 then -1 else r) := by
  intro r hr
  unfold wF40.f
  refine Ev.bind hr ?_
  by_cases h : r < 0
  ·
   have e : (if r < 0 then (-1 : Int) else r) = -1 := if_pos h
   rw [e]; exact Ev.ifT h (Ev.now _)
  have e : (if r < 0 then (-1 : Int) else r) = r := if_neg h
  rw [e]; exact Ev.ifF h (Ev.now _)
 have hw : wrap64 (1048576 - (l.length : Int)) = 1048576 - (l.length : Int) := wrap64_id (by omega) (by omega)
 by_cases h : l.length ≤ 1048576
 ·
  obtain ⟨r, r1, r2, r3⟩ := szP_loop l h hs l.length 0 (1048576 - (l.length : Int)) (by omega) (by omega) (by omega)
  refine ⟨_, fin r ?_, fun h0 => ⟨h, ?_⟩⟩
  ·
   unfold wF39.f
   rw [hw]
   exact Ev.ifF (by omega) r1
  rw [List.drop_zero] at r3
  refine r3 ?_
  by_cases hr : r < 0
  ·
   rw [if_pos hr] at h0; omega
  omega
 refine ⟨_, fin (-1) ?_, fun h0 => ?_⟩
 ·
  unfold wF39.f
  rw [hw]
  exact Ev.ifT (by omega) (Ev.now _)
 rw [if_pos (by omega)] at h0; omega
theorem toBranchS_loop (l : List S71) (hl : l.length ≤ 1048576) : ∀ (d i : Nat), i + d = l.length → Ev (fun k => wF42.l0 k l ((toB l).take i ++ List.replicate ((toB l).length - i) z60) (i : Int)) (toB l) := by
 intro d
 induction d with
 | zero =>
  intro i h
  rw [List.take_of_length_le (by rw [toB_length]; omega), show (toB l).length - i = 0 from by rw [toB_length]; omega, List.replicate_zero, List.append_nil]
  exact Ev.step (fun k => wF42.l0.eq_2 ..) (Ev.ifF (by omega) (Ev.now _))
 | succ d ih =>
  intro i h
  have hi : i < l.length := by omega
  have hi2 : i < (toB l).length := by rw [toB_length]; exact hi
  have hlen : ((toB l).take i ++ List.replicate ((toB l).length - i) z60).length = l.length := by
   rw [List.length_append, List.length_take, List.length_replicate, toB_length]; omega
  refine Ev.step (fun k => wF42.l0.eq_2 ..) (Ev.ifT (by omega) (Ev.ifT (by omega) ?_))
  unfold wF41.f
  refine Ev.some_bind (Ev.ifT (by rw [hlen]; omega) ?_)
  have hx : (⟨(rd_T71 l (i : Int)).f0, (rd_T71 l (i : Int)).f1, (rd_T71 l (i : Int)).f2⟩ : Bd) = (toB l).getD i z60 := by
   rw [rd_getL l i hi, getD_lt _ hi2]
   simp only [toB, List.getElem_map]
  rw [hx, Int.toNat_natCast, fill_set _ _ _ hi2, wrap64_succ i (by omega)]
  exact ih (i + 1) (by omega)
theorem toPressed_ev (l : List S71) (hl : l.length ≤ 1048576) : Ev (fun k => wF43.f k l) (toB l) := by
 unfold wF43.f wF42.f
 refine Ev.bind (f := fun k t => some t) (Ev.ifT (by omega) (Ev.ifT (by omega) ?_)) (Ev.now _)
 have := toBranchS_loop l hl l.length 0 (by omega)
 rw [List.take_zero, List.nil_append, toB_length, Nat.sub_zero] at this
 exact this
theorem eqBranch_self (a : ByteArray) (b : Int) (c : Bool) : wF30.f a b c a b c = some true := by
 unfold wF30.f
 rw [if_pos rfl, if_pos rfl, if_neg (by simp)]
theorem eqBranchS_loop (N : List Bd) (hN : N.length ≤ 4611686018427387903) : ∀ (d i : Nat), i + d = N.length → Ev (fun k => wF31.l0 k N N (i : Int)) true := by
 intro d
 induction d with
 | zero => intro i h; exact Ev.step (fun k => wF31.l0.eq_2 ..) (Ev.ifF (by omega) (Ev.now _))
 | succ d ih =>
  intro i h
  refine Ev.step (fun k => wF31.l0.eq_2 ..) (Ev.ifT (by omega) (Ev.ifT (by omega) (Ev.ifT (by omega) ?_)))
  rw [eqBranch_self]
  refine Ev.some_bind (Ev.ifT rfl ?_)
  rw [wrap64_succ i (by omega)]
  exact ih (i + 1) (by omega)
theorem eqPressed_ev (N : List Bd) (hN : N.length ≤ 4611686018427387903) : Ev (fun k => wF32.f k N N) true := by
 unfold wF32.f wF31.f
 exact Ev.bind (f := fun k t => if t = true then some true else some false) (Ev.ifT rfl (eqBranchS_loop N hN N.length 0 (by omega))) (Ev.ifT rfl (Ev.now _))
theorem toB_small {l : List S71} (h : ∀ x ∈ l, x.f0.size ≤ 1048576) : ∀ b ∈ toB l, b.f0.size ≤ 1000000000 := by
 intro b hb
 obtain ⟨x, hx, rfl⟩ := List.mem_map.1 hb
 have := h x hx
 show x.f0.size ≤ 1000000000
 omega
theorem l2Words_loop_ex (N : List S76) (hN : N.length ≤ 4294967296) : ∀ (d i : Nat) (acc : List Txt), i + d = N.length → acc.length ≤ i → (∀ w ∈ acc, w.length ≤ 13) →
  ∃ ws : List Txt, ws.length ≤ N.length ∧ (∀ w ∈ ws, w.length ≤ 13) ∧ Ev (fun k => sF66.l0 k (acc.map B) (i : Int) N) (ws.map B) := by
 intro d
 induction d with
 | zero => intro i acc h1 h2 h3; exact ⟨acc, by omega, h3, Ev.step (fun k => sF66.l0.eq_2 ..) (Ev.ifF (by omega) (Ev.now _))⟩
 | succ d ih =>
  intro i acc h1 h2 h3
  by_cases hf : (rd_T76 N (i : Int)).f2 = true
  ·
   obtain ⟨r, hr, he⟩ := l2Prefix_ex N i (i : Int) [] (by omega) (by omega) (by simp)
   obtain ⟨ws, w1, w2, w3⟩ := ih (i + 1) (acc ++ [r]) (by omega) (by simp; omega) (fun w hw => by
    rcases List.mem_append.1 hw with hw | hw
    ·
     exact h3 w hw
    rw [List.mem_singleton.1 hw]; exact hr)
   refine ⟨ws, w1, w2, Ev.step (fun k => sF66.l0.eq_2 ..) (Ev.ifT (by omega) (Ev.ifT (by omega) (Ev.ifT hf (Ev.bind (f := fun k t => if (acc.map B).length < 8796093022208 then sF66.l0 k (acc.map B ++ [t]) (wrap64 ((i : Int) + 1)) N else none) he (Ev.ifT (by simp; omega) ?_)))))⟩
   simpa only [wrap64_succ i (by omega), List.map_append, List.map_cons, List.map_nil] using w3
  obtain ⟨ws, w1, w2, w3⟩ := ih (i + 1) acc (by omega) (by omega) h3
  refine ⟨ws, w1, w2, Ev.step (fun k => sF66.l0.eq_2 ..) (Ev.ifT (by omega) (Ev.ifT (by omega) (Ev.ifF hf ?_)))⟩
  simpa only [wrap64_succ i (by omega)] using w3
theorem l2Words_ex (N : List S76) (hN : N.length ≤ 4294967296) : ∃ ws : List Txt, ws.length ≤ N.length ∧ (∀ w ∈ ws, w.length ≤ 13) ∧ Ev (fun k => sF66.f k N) (ws.map B) :=
 l2Words_loop_ex N hN N.length 0 [] (by omega) (by simp) (by simp)
theorem l2Words_loop {P : List Txt} (ws : List Txt) (hA : Asc P) (hC : Clo P) (hW : ∀ p ∈ P, wordL p = true) (hP : P.length ≤ 4294967296) : ∀ (d i : Nat) (acc : List Txt), i + d = P.length → acc.length ≤ i →
  Ev (fun k => sF66.l0 k (acc.map B) (i : Int) (trN P ws)) ((acc ++ (P.drop i).filter (fun p => decide (p ∈ ws))).map B) := by
 intro d
 induction d with
 | zero =>
  intro i acc h1 h2
  rw [List.drop_of_length_le (by omega)]
  exact Ev.step (fun k => sF66.l0.eq_2 ..) (Ev.ifF (by rw [trN_length]; omega) (by simpa using Ev.now _))
 | succ d ih =>
  intro i acc h1 h2
  have hi : i < P.length := by omega
  have hf : (rd_T76 (trN P ws) (i : Int)).f2 = decide (P.getD i [] ∈ ws) := by rw [rdN P ws i hi]; rfl
  rw [drop_cons_getD [] hi, List.filter_cons]
  by_cases hm : P.getD i [] ∈ ws
  ·
   rw [decide_eq_true hm] at hf
   rw [decide_eq_true hm, if_pos rfl]
   refine Ev.step (fun k => sF66.l0.eq_2 ..) (Ev.ifT (by rw [trN_length]; omega) (Ev.ifT (by omega) (Ev.ifT hf (Ev.bind (f := fun k t => if (acc.map B).length < 8796093022208 then sF66.l0 k (acc.map B ++ [t]) (wrap64 ((i : Int) + 1)) (trN P ws) else none) (l2Prefix_ev ws hA hC hW i hi) (Ev.ifT (by simp; omega) ?_)))))
   have := ih (i + 1) (acc ++ [P.getD i []]) (by omega) (by simp; omega)
   simpa only [wrap64_succ i (by omega), List.map_append, List.map_cons, List.map_nil, List.append_assoc, List.singleton_append] using this
  rw [decide_eq_false hm] at hf
  rw [decide_eq_false hm, if_neg Bool.false_ne_true]
  refine Ev.step (fun k => sF66.l0.eq_2 ..) (Ev.ifT (by rw [trN_length]; omega) (Ev.ifT (by omega) (Ev.ifF (by rw [hf]; exact Bool.false_ne_true) ?_)))
  simpa only [wrap64_succ i (by omega)] using ih (i + 1) acc (by omega) (by omega)
theorem l2Words_ev {ws : List Txt} (h : OkW ws) : Ev (fun k => sF66.f k (trN (preL ws) ws)) (ws.map B) := by
 have := l2Words_loop ws (asc_preL ws) (clo_preL ws) (fun p hp => preL_word h.word hp) (by have := h.pre; omega) (preL ws).length 0 [] (by omega) (by simp)
 rw [List.drop_zero, List.nil_append, filter_preL h.asc] at this
 exact this
theorem node_ne (a b : S76) : (!(a.f0 == b.f0) || (!(a.f1 == b.f1) || (!(a.f2 == b.f2)))) = decide (a ≠ b) := by
 obtain ⟨a0, a1, a2⟩ := a
 obtain ⟨b0, b1, b2⟩ := b
 rw [Bool.eq_iff_iff]
 simp only [Bool.or_eq_true, Bool.not_eq_true', beq_eq_false_iff_ne, decide_eq_true_eq, ne_eq, S76.mk.injEq]
 constructor
 ·
  rintro (h | h | h) ⟨e1, e2, e3⟩
  ·
   exact h e1
  ·
   exact h e2
  exact h e3
 intro h
 by_cases e1 : a0 = b0
 ·
  by_cases e2 : a1 = b1
  ·
   exact .inr (.inr fun e3 => h ⟨e1, e2, e3⟩)
  exact .inr (.inl e2)
 exact .inl e1
theorem l2Same_loop (M N : List S76) (hM : M.length ≤ 4611686018427387903) : ∀ (d i : Nat), i + d = M.length → i ≤ N.length → Ev (fun k => sF62.l0 k (i : Int) M N) (decide (M.drop i = N.drop i)) := by
 have fin : ∀ i : Nat, (i = M.length ∨ i = N.length) → i ≤ M.length → i ≤ N.length → Ev (fun k => sF62.j1 k (i : Int) false M N) (decide (M.drop i = N.drop i)) := by
  intro i h1 h2 h3
  refine Ev.step (fun k => sF62.j1.eq_2 ..) (Ev.ifF (by simp) ?_)
  have : ((M.length : Int) == (N.length : Int)) = decide (M.drop i = N.drop i) := by
   rw [Bool.eq_iff_iff, beq_iff_eq, decide_eq_true_eq]
   constructor
   ·
    intro e
    rw [List.drop_of_length_le (by omega), List.drop_of_length_le (by omega)]
   intro e
   have := congrArg List.length e
   rw [List.length_drop, List.length_drop] at this
   omega
  rw [this]
  exact Ev.now _
 intro d
 induction d with
 | zero =>
  intro i h1 h2
  exact Ev.step (fun k => sF62.l0.eq_2 ..) (Ev.ifF (by omega) (fin i (by omega) (by omega) h2))
 | succ d ih =>
  intro i h1 h2
  refine Ev.step (fun k => sF62.l0.eq_2 ..) (Ev.ifT (by omega) ?_)
  by_cases hi : i < N.length
  ·
   rw [decide_eq_true (show (i : Int) < (N.length : Int) by omega)]
   refine Ev.step (fun k => sF62.j1.eq_2 ..) (Ev.ifT rfl (Ev.ifT (by omega) (Ev.ifT (by omega) (Ev.ifT (by omega) ?_))))
   rw [node_ne, rd_get M i (by omega), rd_get N i hi, List.drop_eq_getElem_cons (show i < M.length by omega), List.drop_eq_getElem_cons hi]
   by_cases e : M[i] = N[i]
   ·
    refine Ev.ifF (by simp [e]) ?_
    rw [wrap64_succ i (by omega), show decide (M[i] :: M.drop (i + 1) = N[i] :: N.drop (i + 1)) = decide (M.drop (i + 1) = N.drop (i + 1)) from decide_eq_decide.2 ⟨fun h => (List.cons.inj h).2, fun h => by rw [e, h]⟩]
    exact ih (i + 1) (by omega) (by omega)
   refine Ev.ifT (by simp [e]) ?_
   rw [show decide (M[i] :: M.drop (i + 1) = N[i] :: N.drop (i + 1)) = false from decide_eq_false fun h => e (List.cons.inj h).1]
   exact Ev.now _
  rw [decide_eq_false (show ¬ (i : Int) < (N.length : Int) by omega)]
  exact fin i (by omega) (by omega) h2
theorem l2Same_ev (M N : List S76) (hM : M.length ≤ 4611686018427387903) : Ev (fun k => sF62.f k M N) (decide (M = N)) := by
 have := l2Same_loop M N hM M.length 0 (by omega) (by omega)
 rwa [List.drop_zero, List.drop_zero] at this
theorem l2Trie_ev (N : List S76) : ∃ b : Bool, (b = true ↔ IsTr N) ∧ Ev (fun k => sF64.f k N) b := by
 unfold sF64.f
 simp only [l1In_eq]
 by_cases hn : 1 ≤ (N.length : Int) ∧ (N.length : Int) ≤ 481
 rotate_left
 ·
  rw [decide_eq_false hn]
  refine ⟨false, ?_, Ev.some_bind (Ev.ifF (by simp) (Ev.now false))⟩
  simp only [Bool.false_eq_true, false_iff]
  intro h
  have := h.len
  omega
 rw [decide_eq_true hn]
 by_cases ht : IsTr N
 ·
  refine ⟨true, by simp [ht], Ev.some_bind (Ev.ifT rfl ?_)⟩
  obtain ⟨ws, h, rfl⟩ := ht
  refine Ev.bind (l2Words_ev h) (Ev.bind (l2Set_ev (b := 13) ws (by have := h.len; omega) (fun w hw => by have := h.le w hw; omega)) ?_)
  rw [if_pos (List.all_eq_true.2 h.word), setL_of_asc h.asc]
  refine Ev.ifT (by simpa using h.len) (Ev.bind (l2Of_ev h) (Ev.bind (l2Same_ev _ _ (by rw [trN_length]; have := h.pre; omega)) ?_))
  simpa using Ev.now true
 refine ⟨false, by simp [ht], Ev.some_bind (Ev.ifT rfl ?_)⟩
 obtain ⟨ws, w1, w2, w3⟩ := l2Words_ex N (by omega)
 refine Ev.bind w3 (Ev.bind (l2Set_ev ws (by omega) w2) ?_)
 by_cases ha : ws.all wordL = true
 ·
  rw [if_pos ha]
  by_cases hl : (setL ws).length ≤ 40
  ·
   have hok := okW_setL ha hl
   refine Ev.ifT (by simpa using hl) (Ev.bind (l2Of_ev hok) (Ev.bind (l2Same_ev _ _ (by rw [trN_length]; have := hok.pre; omega)) ?_))
   rw [show decide (trN (preL (setL ws)) (setL ws) = N) = false from decide_eq_false fun e => ht ⟨_, hok, e.symm⟩]
   exact Ev.now false
  exact Ev.ifF (by simpa using hl) (Ev.now false)
 rw [if_neg ha]
 exact Ev.ifF (by simp) (Ev.now false)
def wordsGo : List Nd → List Txt → List Txt
 | n :: r, p :: ps => if n.f2 = true then p :: wordsGo r ps else wordsGo r ps
 | _, _ => []
theorem wordsGo_mem : ∀ (N : List Nd) (ps : List Txt) (w : Txt), w ∈ wordsGo N ps → w ∈ ps
 | n :: r, p :: ps, w, h => by
  unfold wordsGo at h
  by_cases hf : n.f2 = true
  ·
   rw [if_pos hf] at h
   rcases List.mem_cons.1 h with e | h
   ·
    rw [e]; exact List.mem_cons_self
   exact List.mem_cons_of_mem _ (wordsGo_mem r ps w h)
  rw [if_neg hf] at h
  exact List.mem_cons_of_mem _ (wordsGo_mem r ps w h)
 | [], _, _, h => by simp [wordsGo] at h
 | _ :: _, [], _, h => by simp [wordsGo] at h
theorem wordsGo_len : ∀ (N : List Nd) (ps : List Txt), (wordsGo N ps).length ≤ N.length
 | n :: r, p :: ps => by
  have := wordsGo_len r ps
  unfold wordsGo
  by_cases hf : n.f2 = true
  ·
   rw [if_pos hf, List.length_cons, List.length_cons]; omega
  rw [if_neg hf, List.length_cons]; omega
 | [], _ => by simp [wordsGo]
 | _ :: _, [] => by simp [wordsGo]
theorem wordsGo_tr (P ws : List Txt) : ∀ Q : List Txt, wordsGo (Q.map fun p => mkN (ndL P ws p)) Q = Q.filter fun p => decide (p ∈ ws)
 | [] => rfl
 | q :: Q => by
  rw [List.map_cons, wordsGo, wordsGo_tr P ws Q, List.filter_cons]
  rfl
theorem words_loop (N : List Nd) (ps : List Txt) (hN : N.length ≤ 1000000) (hp : ps.length = N.length) : ∀ (d i : Nat) (acc : List Txt), i + d = N.length → acc.length ≤ i →
  Ev (fun k => iF17.l0 k (ps.map B) (acc.map B) N (N.length : Int) (i : Int)) ((acc ++ wordsGo (N.drop i) (ps.drop i)).map B) := by
 intro d
 induction d with
 | zero =>
  intro i acc h1 h2
  rw [List.drop_of_length_le (by omega)]
  exact Ev.step (fun k => iF17.l0.eq_2 ..) (Ev.ifF (by omega) (by simpa [wordsGo] using Ev.now _))
 | succ d ih =>
  intro i acc h1 h2
  have hi : i < N.length := by omega
  rw [List.drop_eq_getElem_cons hi, drop_cons_getD [] (show i < ps.length by omega), wordsGo]
  refine Ev.step (fun k => iF17.l0.eq_2 ..) (Ev.ifT (by omega) (Ev.ifT (by omega) (Ev.ifT (by omega) ?_)))
  rw [rd_get N i hi]
  by_cases hf : N[i].f2 = true
  ·
   rw [if_pos hf]
   refine Ev.ifT hf (Ev.ifT (by rw [List.length_map]; omega) (Ev.ifT (by rw [List.length_map]; omega) ?_))
   rw [rdB ps i (by omega), wrap64_succ i (by omega)]
   have := ih (i + 1) (acc ++ [ps.getD i []]) (by omega) (by simp; omega)
   rw [List.map_append (l₁ := acc), List.map_singleton, List.append_assoc] at this
   exact this
  rw [if_neg hf]
  refine Ev.ifF hf ?_
  rw [wrap64_succ i (by omega)]
  exact ih (i + 1) acc (by omega) (by omega)
theorem words_of {N : List Nd} {ps : List Txt} (h : prefN N = some ps) : N.length ≤ 481 ∧ ps.length = N.length ∧ (∀ p ∈ ps, ∀ c ∈ p, letterB c = true) ∧ Ev (fun k => iF17.f k N) ((wordsGo N ps).map B) := by
 have hp := prefixes_ev N
 rw [h] at hp
 unfold prefN at h
 by_cases hn : 1 ≤ N.length ∧ N.length ≤ 481
 ·
  rw [if_pos hn] at h
  obtain ⟨h1, h2⟩ := prefGo_ok _ _ _ h (by simp)
  rw [List.length_drop, List.length_singleton] at h2
  refine ⟨hn.2, by omega, h1, ?_⟩
  unfold iF17.f
  refine Ev.bind hp ?_
  exact words_loop N ps (by omega) (by omega) N.length 0 [] (by omega) (by simp)
 rw [if_neg hn] at h; cases h
theorem words_ev {ws : List Txt} (h : OkW ws) : Ev (fun k => iF17.f k (trN (preL ws) ws)) (ws.map B) := by
 obtain ⟨_, _, _, h4⟩ := words_of (prefN_tr h)
 have e : wordsGo (trN (preL ws) ws) (preL ws) = ws := by
  have : trN (preL ws) ws = (preL ws).map fun p => mkN (ndL (preL ws) ws p) := by unfold trN nodesL; rw [List.map_map]; rfl
  rw [this, wordsGo_tr, filter_preL h.asc]
 rwa [e] at h4
theorem isSorted_loop (ws : List Txt) (hl : ws.length ≤ 4611686018427387903) : ∀ (n : Nat), n < ws.length → ∃ b : Bool, (b = true ↔ ∀ j, j < n → ¬ ws.getD (j + 1) [] < ws.getD j []) ∧ Ev (fun k => xF47.l0 k (ws.map B) (n : Int)) b := by
 intro n
 induction n with
 | zero =>
  intro _
  exact ⟨true, by simp, Ev.step (fun k => xF47.l0.eq_2 ..) (Ev.ifF (by simp) (Ev.now _))⟩
 | succ n ih =>
  intro hn
  have hw : wrap64 (((n + 1 : Nat) : Int) - 1) = (n : Int) := by rw [wrap64_id (by omega) (by omega)]; omega
  by_cases hlt : ws.getD (n + 1) [] < ws.getD n []
  ·
   refine ⟨false, ?_, Ev.step (fun k => xF47.l0.eq_2 ..) (Ev.ifT (by omega) (Ev.ifT (by omega) (Ev.ifT (by rw [List.length_map]; omega) (Ev.ifT (by rw [hw]; omega) (Ev.ifT (by rw [hw, List.length_map]; omega) ?_)))))⟩
   ·
    simp only [Bool.false_eq_true, false_iff]
    exact fun h => h n (Nat.lt_succ_self n) hlt
   rw [hw, rdB ws (n + 1) hn, rdB ws n (by omega), less_eq, decide_eq_true hlt]
   exact Ev.some_bind (Ev.ifT rfl (Ev.now _))
  obtain ⟨b, hb, he⟩ := ih (by omega)
  refine ⟨b, hb.trans ⟨fun h j hj => ?_, fun h j hj => h j (by omega)⟩, Ev.step (fun k => xF47.l0.eq_2 ..) (Ev.ifT (by omega) (Ev.ifT (by omega) (Ev.ifT (by rw [List.length_map]; omega) (Ev.ifT (by rw [hw]; omega) (Ev.ifT (by rw [hw, List.length_map]; omega) ?_)))))⟩
  ·
   by_cases e : j = n
   ·
    rw [e]; exact hlt
   exact h j (by omega)
  rw [hw, rdB ws (n + 1) hn, rdB ws n (by omega), less_eq, decide_eq_false hlt]
  exact Ev.some_bind (Ev.ifF Bool.false_ne_true he)
theorem isSorted_ev (ws : List Txt) (hl : ws.length ≤ 4611686018427387903) : ∃ b : Bool, (b = true ↔ Srt ws) ∧ Ev (fun k => xF47.f k (ws.map B)) b := by
 unfold xF47.f
 rcases Nat.eq_zero_or_pos ws.length with h0 | h0
 ·
  refine ⟨true, ⟨fun _ j hj => by omega, fun _ => rfl⟩, ?_⟩
  rw [List.length_map, h0]
  exact Ev.step (fun k => xF47.l0.eq_2 ..) (Ev.ifF (by rw [wrap64_id (by omega) (by omega)]; omega) (Ev.now _))
 obtain ⟨b, hb, he⟩ := isSorted_loop ws hl (ws.length - 1) (by omega)
 refine ⟨b, hb.trans ⟨fun h j hj => h j (by omega), fun h j hj => h j (by omega)⟩, ?_⟩
 rw [List.length_map, show wrap64 ((ws.length : Int) - 1) = ((ws.length - 1 : Nat) : Int) from by rw [wrap64_id (by omega) (by omega)]; omega]
 exact he
theorem equal_loop (M N : List Nd) (hM : M.length ≤ 4611686018427387903) (he : M.length = N.length) : ∀ (d i : Nat), i + d = M.length → Ev (fun k => iF9.l0 k M N (M.length : Int) (i : Int)) (decide (M.drop i = N.drop i)) := by
 intro d
 induction d with
 | zero =>
  intro i h1
  refine Ev.step (fun k => iF9.l0.eq_2 ..) (Ev.ifF (by omega) ?_)
  rw [decide_eq_true (show M.drop i = N.drop i by rw [List.drop_of_length_le (by omega), List.drop_of_length_le (by omega)])]
  exact Ev.now _
 | succ d ih =>
  intro i h1
  refine Ev.step (fun k => iF9.l0.eq_2 ..) (Ev.ifT (by omega) (Ev.ifT (by omega) (Ev.ifT (by omega) (Ev.ifT (by omega) ?_))))
  rw [node_ne, rd_get M i (by omega), rd_get N i (by omega), List.drop_eq_getElem_cons (show i < M.length by omega), List.drop_eq_getElem_cons (show i < N.length by omega)]
  by_cases e : M[i] = N[i]
  ·
   refine Ev.ifF (by simp [e]) ?_
   rw [wrap64_succ i (by omega), show decide (M[i] :: M.drop (i + 1) = N[i] :: N.drop (i + 1)) = decide (M.drop (i + 1) = N.drop (i + 1)) from decide_eq_decide.2 ⟨fun h => (List.cons.inj h).2, fun h => by rw [e, h]⟩]
   exact ih (i + 1) (by omega)
  refine Ev.ifT (by simp [e]) ?_
  rw [show decide (M[i] :: M.drop (i + 1) = N[i] :: N.drop (i + 1)) = false from decide_eq_false fun h => e (List.cons.inj h).1]
  exact Ev.now _
theorem equal_ev (M N : List Nd) (hM : M.length ≤ 4611686018427387903) : Ev (fun k => iF9.f k M N) (decide (M = N)) := by
 unfold iF9.f
 by_cases he : M.length = N.length
 ·
  refine Ev.ifT (by omega) ?_
  have := equal_loop M N hM he M.length 0 (by omega)
  rwa [List.drop_zero, List.drop_zero] at this
 rw [decide_eq_false fun e => he (by rw [e])]
 exact Ev.ifF (by omega) (Ev.now _)
theorem isTrie_ev (N : List Nd) : ∃ b : Bool, (b = true ↔ IsTr N) ∧ Ev (fun k => iF22.f k N) b := by
 have hpre := prefixes_ev N
 have no : ∀ M : List Nd, Ev (fun k => iF22.j0 k true M) false := fun M => Ev.step (fun k => iF22.j0.eq_2 ..) (Ev.ifT rfl (Ev.now _))
 cases hp : prefN N with
 | none =>
  rw [hp] at hpre
  refine ⟨false, ?_, ?_⟩
  ·
   simp only [Bool.false_eq_true, false_iff]
   rintro ⟨ws, h, rfl⟩
   rw [prefN_tr h] at hp; cases hp
  unfold iF22.f
  exact Ev.bind hpre (Ev.ifF Bool.false_ne_true (no N))
 | some ps =>
  rw [hp] at hpre
  obtain ⟨w1, w2, w3, w4⟩ := words_of hp
  have hany : iF23.f (ps.map B) = some (decide (∃ p ∈ ps, 12 < p.length)) := by
   unfold iF23.f
   congr 1
   rw [Bool.eq_iff_iff, List.any_eq_true, decide_eq_true_eq]
   constructor
   ·
    rintro ⟨x, hx, e⟩
    obtain ⟨y, hy, rfl⟩ := List.mem_map.1 hx
    refine ⟨y, hy, ?_⟩
    unfold iF23.p at e
    rw [size_B, decide_eq_true_eq] at e
    omega
   rintro ⟨y, hy, e⟩
   refine ⟨B y, List.mem_map.2 ⟨y, hy, rfl⟩, ?_⟩
   unfold iF23.p
   rw [size_B, decide_eq_true_eq]
   omega
  by_cases hlong : ∃ p ∈ ps, 12 < p.length
  ·
   rw [decide_eq_true hlong] at hany
   refine ⟨false, ?_, ?_⟩
   ·
    simp only [Bool.false_eq_true, false_iff]
    rintro ⟨ws, h, rfl⟩
    rw [prefN_tr h] at hp
    obtain rfl := Option.some.inj hp
    obtain ⟨p, hpm, hpl⟩ := hlong
    have := (wordL_iff.1 (preL_word h.word hpm)).2
    omega
   unfold iF22.f
   refine Ev.bind hpre (Ev.ifT rfl ?_)
   show Ev (fun k => (iF23.f (ps.map B)).bind _) false
   rw [hany]
   exact Ev.some_bind (no N)
  rw [decide_eq_false hlong] at hany
  have hword : ∀ w ∈ wordsGo N ps, wordL w = true := fun w hw => by
   have hm := wordsGo_mem N ps w hw
   refine wordL_iff.2 ⟨w3 w hm, ?_⟩
   rcases Nat.lt_or_ge 12 w.length with h | h
   ·
    exact absurd ⟨w, hm, h⟩ hlong
   exact h
  have hwl := wordsGo_len N ps
  have hcase : ∀ b : Bool, Ev (fun k => iF22.j0 k false N) b → Ev (fun k => iF22.f k N) b := fun b hb => by
   unfold iF22.f
   refine Ev.bind hpre (Ev.ifT rfl ?_)
   show Ev (fun k => (iF23.f (ps.map B)).bind _) b
   rw [hany]
   exact Ev.some_bind hb
  have hval : ∀ ws, OkW ws → N = trN (preL ws) ws → wordsGo N ps = ws := fun ws h e => by
   subst e
   rw [prefN_tr h] at hp
   obtain rfl := Option.some.inj hp
   have : trN (preL ws) ws = (preL ws).map fun p => mkN (ndL (preL ws) ws p) := by unfold trN nodesL; rw [List.map_map]; rfl
   rw [this, wordsGo_tr, filter_preL h.asc]
  by_cases h40 : (wordsGo N ps).length ≤ 40
  rotate_left
  ·
   refine ⟨false, ?_, hcase _ (Ev.step (fun k => iF22.j0.eq_2 ..) (Ev.ifF Bool.false_ne_true (Ev.bind w4 (Ev.ifF (by rw [List.length_map]; omega) (Ev.now _)))))⟩
   simp only [Bool.false_eq_true, false_iff]
   rintro ⟨ws, h, e⟩
   rw [hval ws h e] at h40
   exact h40 h.len
  obtain ⟨b, hb, hsv⟩ := isSorted_ev (wordsGo N ps) (by omega)
  by_cases hs : Srt (wordsGo N ps)
  ·
   have hbt := hb.2 hs
   subst hbt
   refine ⟨decide (trN (preL (wordsGo N ps)) (wordsGo N ps) = N), ?_, hcase _ ?_⟩
   ·
    rw [decide_eq_true_eq]
    constructor
    ·
     intro e
     refine ⟨setL (wordsGo N ps), ⟨asc_setL _, Nat.le_trans (setL_length_le _) h40, fun w hw => hword w ((mem_setL _ w).1 hw)⟩, ?_⟩
     rw [← trN_set, e]
    rintro ⟨ws, h, e⟩
    rw [hval ws h e, e]
   refine Ev.step (fun k => iF22.j0.eq_2 ..) (Ev.ifF Bool.false_ne_true (Ev.bind w4 (Ev.ifT (by rw [List.length_map]; omega) (Ev.bind hsv (Ev.ifT rfl (Ev.bind (trieOf_srt hs hword (by omega)) (Ev.bind (equal_ev _ _ ?_) (Ev.now _))))))))
   rw [trN_length]
   have := preL_length (ws := wordsGo N ps) (fun w hw => (wordL_iff.1 (hword w hw)).2)
   omega
  have hbf : b = false := by
   cases b with
   | false => rfl
   | true => exact absurd (hb.1 rfl) hs
  subst hbf
  refine ⟨false, ?_, hcase _ (Ev.step (fun k => iF22.j0.eq_2 ..) (Ev.ifF Bool.false_ne_true (Ev.bind w4 (Ev.ifT (by rw [List.length_map]; omega) (Ev.bind hsv (Ev.ifF Bool.false_ne_true (Ev.now _)))))))⟩
  simp only [Bool.false_eq_true, false_iff]
  rintro ⟨ws, h, e⟩
  exact hs (by rw [hval ws h e]; exact srt_asc h.asc)
theorem markText_loop : ∀ (d n : Nat) (acc : ByteArray), n < 10 ^ d → acc.size + d ≤ 4611686018427387903 → n ≤ 4611686018427387903 → ∃ m, Ev (fun k => wF37.l0 k (n : Int) acc) m := by
 intro d
 induction d with
 | zero =>
  intro n acc h1 h2 h3
  have h0 : n = 0 := by simpa using h1
  subst h0
  exact ⟨_, Ev.step (fun k => wF37.l0.eq_2 ..) (Ev.ifF (by omega) (Ev.ifT (by omega) (Ev.now _)))⟩
 | succ d ih =>
  intro n acc h1 h2 h3
  by_cases h0 : n = 0
  ·
   subst h0
   exact ⟨_, Ev.step (fun k => wF37.l0.eq_2 ..) (Ev.ifF (by omega) (Ev.ifT (by omega) (Ev.now _)))⟩
  have hd : wrap64 (Int.tdiv (n : Int) 10) = ((n / 10 : Nat) : Int) := by
   rw [Int.tdiv_eq_ediv_of_nonneg (by omega), wrap64_id (by omega) (by omega)]; rfl
  have hsz : ∀ x : Int, (strOfNums [x]).size = 1 := fun x => by simp [strOfNums, ← ByteArray.size_data]
  obtain ⟨m, hm⟩ := ih (n / 10) (strOfNums [(wrap64 (48 + (Int.tmod (n : Int) 10))) % 256] ++ acc) (by rw [Nat.pow_succ] at h1; omega) (by rw [ByteArray.size_append, hsz]; omega) (by omega)
  refine ⟨m, Ev.step (fun k => wF37.l0.eq_2 ..) (Ev.ifT (by omega) (Ev.some_bind (Ev.ifT (by rw [hsz]; omega) ?_)))⟩
  simpa only [hd] using hm
theorem markText_ex (n : Nat) (h0 : 0 < n) (h : n < 10 ^ 18) : ∃ m, Ev (fun k => wF37.f k (n : Int)) m := by
 obtain ⟨m, hm⟩ := markText_loop 18 n ⟨#[]⟩ h (by decide) (by omega)
 exact ⟨m, Ev.congr (fun k => by unfold wF37.f; rw [if_neg (by omega)]) hm⟩
open Classical in
noncomputable def mt (n : Nat) : ByteArray := if h : ∃ m, Ev (fun k => wF37.f k (n : Int)) m then Classical.choose h else ⟨#[]⟩
theorem mt_ev (n : Nat) (h0 : 0 < n) (h : n < 10 ^ 18) : Ev (fun k => wF37.f k (n : Int)) (mt n) := by
 have hx := markText_ex n h0 h
 unfold mt
 rw [dif_pos hx]
 exact Classical.choose_spec hx
noncomputable def mkBr (j : Nat) : Bd := ⟨mt (3 * j + 1), 3 * (j : Int) + 2, true⟩
noncomputable def marksB (n : Nat) (l : List Bd) : List Bd := (List.range n).map mkBr ++ l.drop n
theorem marksB_length (n : Nat) (l : List Bd) (h : n ≤ l.length) : (marksB n l).length = l.length := by simp [marksB]; omega
theorem marksB_set (n : Nat) (l : List Bd) (h : n < l.length) : (marksB n l).set n (mkBr n) = marksB (n + 1) l := by
 unfold marksB
 rw [List.set_append_right _ _ (by simp), show ((List.range n).map mkBr).length = n from by simp, Nat.sub_self, drop_cons_getD z60 h, List.set_cons_zero, List.range_succ, List.map_append, List.append_assoc]
 rfl
theorem rdB_set (l : List Bd) (n : Nat) (h : n < l.length) (v : Bd) : rd_T60 (l.set n v) (n : Int) = v := by
 rw [rd_getB _ n (by rw [List.length_set]; exact h), List.getElem_set_self]
theorem three_modB (n : Nat) (h : n ≤ 1000000000) : (Int.tmod (wrap64 ((wrap64 ((3 * (n : Int) + 1) + 1)) + 1)) 3 == 0) = true := by
 rw [wrap64_id (x := 3 * (n : Int) + 1 + 1) (by omega) (by omega), wrap64_id (by omega) (by omega), beq_iff_eq, Int.tmod_eq_emod_of_nonneg (by omega)]
 omega
theorem mt_int (n : Nat) (h : n ≤ 1000000000) : Ev (fun k => wF37.f k (3 * (n : Int) + 1)) (mt (3 * n + 1)) := by
 have := mt_ev (3 * n + 1) (by omega) (by omega)
 rwa [show ((3 * n + 1 : Nat) : Int) = 3 * (n : Int) + 1 from by omega] at this
theorem markBranchS_loop (l : List Bd) (hl : l.length ≤ 1000000000) : ∀ (d n : Nat), n + d = l.length → Ev (fun k => wF35.l0 k (marksB n l) (3 * (n : Int) + 1) (n : Int)) (3 * (l.length : Int) + 1, marksB l.length l) := by
 intro d
 induction d with
 | zero =>
  intro n hn
  refine Ev.step (fun k => wF35.l0.eq_2 ..) (Ev.ifF (by rw [marksB_length n l (by omega)]; omega) ?_)
  rw [show n = l.length from by omega]; exact Ev.now _
 | succ d ih =>
  intro n hn
  have h1 : n < (marksB n l).length := by rw [marksB_length n l (by omega)]; omega
  refine Ev.step (fun k => wF35.l0.eq_2 ..) (Ev.ifT (by omega) (Ev.bind (mt_int n (by omega)) (Ev.ifT (by omega) (Ev.some_bind (Ev.some_bind ?_)))))
  have := ih (n + 1) (by omega)
  rw [← marksB_set n l (by omega)] at this
  rw [Int.toNat_natCast]
  rw [rdB_set _ n h1, rdB_set _ n (by rw [List.length_set]; exact h1), List.set_set, List.set_set, three_modB n (by omega)]
  rw [show wrap64 ((wrap64 ((wrap64 (3 * (n : Int) + 1 + 1)) + 1)) + 1) = 3 * ((n + 1 : Nat) : Int) + 1 from by rw [wrap64_id (x := 3 * (n : Int) + 1 + 1) (by omega) (by omega), wrap64_id (x := 3 * (n : Int) + 1 + 1 + 1) (by omega) (by omega), wrap64_id (by omega) (by omega)]; omega, wrap64_succ n (by omega), show wrap64 (3 * (n : Int) + 1 + 1) = 3 * (n : Int) + 2 from by rw [wrap64_id (by omega) (by omega)]; omega]
  exact this
theorem markPressed_ev (l : List Bd) (hl : l.length ≤ 1000000000) : Ev (fun k => wF36.f k l 1) (3 * (l.length : Int) + 1, marksB l.length l) := by
 have := markBranchS_loop l hl l.length 0 (by omega)
 unfold wF36.f wF35.f
 exact Ev.bind this (Ev.now _)
theorem marksB_rd (n : Nat) (l : List Bd) (j : Nat) (h : j < n) (h2 : n ≤ l.length) : rd_T60 (marksB n l) (j : Int) = mkBr j := by
 rw [rd_getB _ j (by rw [marksB_length n l h2]; omega)]
 unfold marksB
 rw [List.getElem_append_left (by simpa using h)]
 simp
theorem heldBranchS_loop (l : List Bd) (hl : l.length ≤ 1000000000) : ∀ (d n : Nat), n + d = l.length → Ev (fun k => wF33.l0 k (marksB l.length l) (3 * (n : Int) + 1) (n : Int)) (3 * (l.length : Int) + 1) := by
 intro d
 induction d with
 | zero =>
  intro n hn
  refine Ev.step (fun k => wF33.l0.eq_2 ..) (Ev.ifF (by rw [marksB_length _ l (by omega)]; omega) ?_)
  rw [show n = l.length from by omega]; exact Ev.now _
 | succ d ih =>
  intro n hn
  have hw : wrap64 (3 * (n : Int) + 1 + 1) = 3 * (n : Int) + 2 := by rw [wrap64_id (by omega) (by omega)]; omega
  have h3 := three_modB n (by omega)
  refine Ev.step (fun k => wF33.l0.eq_2 ..) (Ev.ifT (by rw [marksB_length _ l (by omega)]; omega) (Ev.ifT (by omega) (Ev.bind (mt_int n (by omega)) ?_)))
  rw [marksB_rd _ l n (by omega) (Nat.le_refl _), h3]
  refine Ev.ifT rfl (Ev.ifT (by rw [hw]; rfl) (Ev.ifF (by simp [mkBr]) ?_))
  rw [hw, show wrap64 ((wrap64 (3 * (n : Int) + 2 + 1)) + 1) = 3 * ((n + 1 : Nat) : Int) + 1 from by rw [wrap64_id (x := 3 * (n : Int) + 2 + 1) (by omega) (by omega), wrap64_id (by omega) (by omega)]; omega, wrap64_succ n (by omega)]
  exact ih (n + 1) (by omega)
theorem heldPressed_ev (l : List Bd) (hl : l.length ≤ 1000000000) : Ev (fun k => wF34.f k (marksB l.length l) 1) (3 * (l.length : Int) + 1) := by
 have := heldBranchS_loop l hl l.length 0 (by omega)
 unfold wF34.f wF33.f
 exact Ev.bind this (Ev.ifF (by omega) (Ev.now _))
theorem index_ev (l : List Txt) (p : Txt) (hl : l.length ≤ 1000000) (h : p ∈ l) : Ev (fun k => xF46.f k (l.map B) (B p)) ((placeL l p : Nat) : Int) := by
 have loop : ∀ d i, i + d = l.length → p ∈ l.drop i → Ev (fun k => xF46.l0 k (l.map B) (B p) (l.length : Int) (i : Int)) ((i + placeL (l.drop i) p : Nat) : Int) := by
  intro d
  induction d with
  | zero => intro i h1 h2; rw [List.drop_of_length_le (by omega)] at h2; simp at h2
  | succ d ih =>
   intro i h1 h2
   have hi : i < l.length := by omega
   rw [drop_cons_getD [] hi] at h2 ⊢
   refine Ev.step (fun k => xF46.l0.eq_2 ..) (Ev.ifT (by omega) (Ev.ifT (by omega) (Ev.ifT (by rw [List.length_map]; omega) ?_)))
   rw [rdB l i hi, toList_B, toList_B, placeL]
   by_cases e : l.getD i [] = p
   ·
    rw [if_pos e]
    exact Ev.ifT e.symm (Ev.now _)
   rw [if_neg e]
   refine Ev.ifF (fun q => e q.symm) ?_
   rw [wrap64_succ i (by omega), show i + (placeL (l.drop (i + 1)) p + 1) = i + 1 + placeL (l.drop (i + 1)) p from by omega]
   exact ih (i + 1) (by omega) ((List.mem_cons.1 h2).resolve_left fun q => e q.symm)
 have := loop l.length 0 (by omega) (by rw [List.drop_zero]; exact h)
 rw [List.drop_zero, Nat.zero_add] at this
 unfold xF46.f
 rw [List.length_map]
 exact this
theorem index_miss (l : List Txt) (p : Txt) (hl : l.length ≤ 1000000) (h : p ∉ l) : Ev (fun k => xF46.f k (l.map B) (B p)) (-1) := by
 have loop : ∀ d i, i + d = l.length → Ev (fun k => xF46.l0 k (l.map B) (B p) (l.length : Int) (i : Int)) (-1) := by
  intro d
  induction d with
  | zero => intro i h1; exact Ev.step (fun k => xF46.l0.eq_2 ..) (Ev.ifF (by omega) (Ev.now _))
  | succ d ih =>
   intro i h1
   have hi : i < l.length := by omega
   refine Ev.step (fun k => xF46.l0.eq_2 ..) (Ev.ifT (by omega) (Ev.ifT (by omega) (Ev.ifT (by rw [List.length_map]; omega) ?_)))
   rw [rdB l i hi, toList_B, toList_B, wrap64_succ i (by omega)]
   refine Ev.ifF (fun e => h ?_) (ih (i + 1) (by omega))
   rw [e]
   exact getD_mem hi
 unfold xF46.f
 rw [List.length_map]
 exact loop l.length 0 (by omega)
end Go.Proofs.YtfhffcefpnkllaaGreatDoor.L
namespace Go.Proofs.YtfhffcefpnkllaaGreatDoor.Pure
open Go.RowKit Go.Proofs.YtfhffcefpnkllaaGreatDoor.P Go.Proofs.YtfhffcefpnkllaaGreatDoor.M Go.Proofs.YtfhffcefpnkllaaGreatDoorW.PrintWords Go.Proofs.YtfhffcefpnkllaaGreatDoorW.PrintLast Go.Proofs.YtfhffcefpnkllaaGreatDoorW.PrintMore
open Go.Proofs.YtfhffcefpnkllaaGreatDoor.L
namespace DropPressed
theorem l2Trie_ok {ws : List Txt} (h : OkW ws) : Ev (fun k => sF64.f k (trN (preL ws) ws)) true := by
 obtain ⟨b, c, e⟩ := l2Trie_ev (trN (preL ws) ws)
 obtain rfl := c.2 ⟨ws, h, rfl⟩
 exact e
theorem isTrie_ok {ws : List Txt} (h : OkW ws) : Ev (fun k => iF22.f k (trN (preL ws) ws)) true := by
 obtain ⟨b, c, e⟩ := isTrie_ev (trN (preL ws) ws)
 obtain rfl := c.2 ⟨ws, h, rfl⟩
 exact e
theorem areKept_ok {ws : List Txt} (h : OkW ws) (w : Txt) : Ev (fun k => iF18.f k (trN (preL ws) ws) (B w)) (wordL w) := by
 unfold iF18.f
 refine Ev.bind (isTrie_ok h) (Ev.ifT rfl ?_)
 rw [isWord_eq]
 exact Ev.some_bind (Ev.now _)
theorem zero_ev : Ev (fun _ : Nat => some (([] : List Bd), wrap64 (-(0 : Int)), false)) ([], 0, false) := by
 rw [show wrap64 (-(0 : Int)) = 0 from by rw [wrap64_id (by omega) (by omega)]; rfl]
 exact Ev.now _
theorem has_ev {ws : List Txt} (h : OkW ws) (w : Txt) : Ev (fun k => iF12.f k (trN (preL ws) ws) (B w)) (decide (w ∈ ws)) := by
 have h40 := h.len
 unfold iF12.f xF45.f
 by_cases hm : w ∈ ws
 ·
  rw [decide_eq_true hm]
  refine Ev.bind (words_ev h) (Ev.bind (Ev.bind (index_ev ws w (by omega) hm) (Ev.now _)) ?_)
  rw [decide_eq_true (by omega)]
  exact Ev.now _
 rw [decide_eq_false hm]
 refine Ev.bind (words_ev h) (Ev.bind (Ev.bind (index_miss ws w (by omega) hm) (Ev.now _)) ?_)
 exact Ev.now _
def without (ws : List Txt) (w : Txt) : List Txt := ws.filter fun x => !(x == w)
theorem ok_without {ws : List Txt} (h : OkW ws) (w : Txt) : OkW (without ws w) := ⟨h.asc.filter _, Nat.le_trans (List.length_filter_le _ _) h.len, fun x hx => h.word x (List.mem_filter.1 hx).1⟩
theorem cut_out {ws : List Txt} (hA : Asc ws) {w : Txt} (hm : w ∈ ws) : ws.take (placeL ws w) ++ ws.drop (placeL ws w + 1) = without ws w := by
 obtain ⟨z1, z2⟩ := placeL_mem hm
 have hws : ws = ws.take (placeL ws w) ++ w :: ws.drop (placeL ws w + 1) := by
  have := drop_cons_getD [] z1
  rw [z2] at this
  rw [← this, List.take_append_drop]
 have hp : Asc (ws.take (placeL ws w) ++ w :: ws.drop (placeL ws w + 1)) := by rw [← hws]; exact hA
 obtain ⟨p1, p2, p3⟩ := List.pairwise_append.1 hp
 obtain ⟨p4, p5⟩ := List.pairwise_cons.1 p2
 refine asc_ext _ _ (List.pairwise_append.2 ⟨p1, p5, fun a ha b hb => p3 a ha b (List.mem_cons_of_mem _ hb)⟩) (hA.filter _) fun y => ?_
 unfold without
 rw [List.mem_filter, List.mem_append]
 constructor
 ·
  intro hy
  have hmem : y ∈ ws := by
   rw [hws]
   rcases hy with hy | hy
   ·
    exact List.mem_append.2 (.inl hy)
   exact List.mem_append.2 (.inr (List.mem_cons_of_mem _ hy))
  refine ⟨hmem, ?_⟩
  have hne : y ≠ w := by
   rintro rfl
   rcases hy with hy | hy
   ·
    exact txt_irrefl _ (p3 _ hy _ List.mem_cons_self)
   exact txt_irrefl _ (p4 _ hy)
  simpa using hne
 rintro ⟨h1, h2⟩
 have hne : y ≠ w := by simpa using h2
 rw [hws] at h1
 rcases List.mem_append.1 h1 with h1 | h1
 ·
  exact .inl h1
 exact .inr ((List.mem_cons.1 h1).resolve_left hne)
theorem drop_both {ws : List Txt} (h : OkW ws) (w : Txt) (hw : w.length ≤ 1000000000) : (∃ vs, OkW vs ∧ Ev (fun k => sF50.f k (trN (preL ws) ws) (B w)) (trN (preL vs) vs, true) ∧ Ev (fun k => iF8.f k (trN (preL ws) ws) (B w)) (trN (preL vs) vs, true)) ∨
  (Ev (fun k => sF50.f k (trN (preL ws) ws) (B w)) ([], false) ∧ Ev (fun k => iF8.f k (trN (preL ws) ws) (B w)) ([], false)) := by
 have h40 := h.len
 have hlw := l2Word_ev w (by omega)
 have hk := areKept_ok h w
 have hh := has_ev h w
 unfold sF50.f iF8.f
 by_cases hwd : wordL w = true
 rotate_left
 ·
  have hf : wordL w = false := by simpa using hwd
  rw [hf] at hlw hk
  exact .inr ⟨Ev.bind (l2Trie_ok h) (Ev.ifT rfl (Ev.bind hlw (Ev.step (fun k => sF50.j0.eq_2 ..) (Ev.ifT rfl (Ev.now _))))), Ev.bind hk (Ev.ifF Bool.false_ne_true (Ev.now _))⟩
 rw [hwd] at hlw hk
 have hpl := l2Place_loop ws w (by omega) ws.length 0 (by omega)
 rw [List.drop_zero, Nat.zero_add] at hpl
 by_cases hm : w ∈ ws
 rotate_left
 ·
  rw [decide_eq_false hm] at hh
  rw [if_neg hm] at hpl
  exact .inr ⟨Ev.bind (l2Trie_ok h) (Ev.ifT rfl (Ev.bind hlw (Ev.step (fun k => sF50.j0.eq_2 ..) (Ev.ifF (by simp) (Ev.bind (l2Words_ev h) (Ev.bind hpl (Ev.ifT (by omega) (Ev.now _)))))))), Ev.bind hk (Ev.ifT rfl (Ev.bind hh (Ev.ifF Bool.false_ne_true (Ev.now _))))⟩
 rw [decide_eq_true hm] at hh
 rw [if_pos hm] at hpl
 obtain ⟨z1, z2⟩ := placeL_mem hm
 have hv := ok_without h w
 have hfl : ((ws.map B).filter fun x => !iF8.p (B w) x) = (without ws w).map B := by
  rw [List.filter_map]
  unfold without
  congr 1
  refine List.filter_congr fun x _ => ?_
  show (!((B x).toList == (B w).toList)) = !(x == w)
  rw [toList_B, toList_B]
 have ho : sF56.f (((ws.map B)).take ((placeL ws w : Nat) : Int).toNat) = some ((ws.take (placeL ws w)).map B) := by
  unfold sF56.f
  rw [Option.bind_some, if_pos (by simp; omega), List.nil_append, Int.toNat_natCast, List.map_take]
 have hcut := cut_out h.asc hm
 refine .inl ⟨without ws w, hv, Ev.bind (l2Trie_ok h) (Ev.ifT rfl (Ev.bind hlw (Ev.step (fun k => sF50.j0.eq_2 ..) (Ev.ifF (by simp) (Ev.bind (l2Words_ev h) (Ev.bind hpl (Ev.ifF (by omega) (Ev.ifT (by omega) (Ev.ifT (by rw [List.length_map]; omega) ?_))))))))), Ev.bind hk (Ev.ifT rfl (Ev.bind hh (Ev.ifT rfl (Ev.bind (words_ev h) (Ev.ifT (by rw [List.length_map]; omega) ?_)))))⟩
 ·
  rw [ho]
  refine Ev.some_bind ?_
  rw [wrap64_succ _ (by omega)]
  refine Ev.ifT (by omega) (Ev.ifT (by rw [List.length_map]; omega) (Ev.some_bind ?_))
  rw [Int.toNat_natCast, ← List.map_drop, ← List.map_append, hcut]
  refine Ev.ifT (by rw [List.length_map, List.length_map, List.length_take, List.length_drop]; omega) (Ev.bind (l2Of_ev hv) (Ev.now _))
 rw [hfl]
 exact Ev.bind (trieOf_ev hv) (Ev.now _)
theorem stay_le {vs : List Txt} (h : OkW vs) : (brs (preL vs) vs).length ≤ 481 := by
 rw [brs_length]
 exact Nat.le_trans (List.length_filter_le _ _) h.pre
theorem both (N : List Bd) (hN : N.length ≤ 1048576) (hb : ∀ b ∈ N, b.f0.size ≤ 1000000000) (w : Txt) (hw : w.length ≤ 1000000000) : ∃ r : List Bd × Int × Bool, r.1.length ≤ 1000 ∧ Ev (fun k => sF49.f k N (B w)) r ∧ Ev (fun k => iF7.f k N (B w)) r := by
 unfold sF49.f iF7.f iF20.f
 rcases open_both N hb with ⟨ws, h, rfl, hl, e1, e2⟩ | ⟨e1, e2⟩
 ·
  rcases drop_both h w hw with ⟨vs, hv, a1, a2⟩ | ⟨a1, a2⟩
  ·
   have hle := stay_le hv
   refine ⟨(brs (preL vs) vs, wrap64 (((brs (preL ws) ws).length : Int) - ((brs (preL vs) vs).length : Int)), true), by show (brs (preL vs) vs).length ≤ 1000; omega, Ev.bind e1 (Ev.ifT rfl (Ev.bind a1 (Ev.ifT rfl (Ev.bind (l4Press_ev hv) ?_)))), Ev.bind (Ev.bind e2 (Ev.ifT rfl (Ev.bind a2 (Ev.ifT rfl (Ev.bind (press_ev hv) (Ev.now _)))))) ?_⟩
   ·
    exact Ev.now _
   have hle2 := stay_le h
   rw [show wrap64 (((brs (preL ws) ws).length : Int) - ((brs (preL vs) vs).length : Int)) = wrap64 (-wrap64 (((brs (preL vs) vs).length : Int) - ((brs (preL ws) ws).length : Int))) from by rw [wrap64_id (by omega) (by omega), wrap64_id (x := ((brs (preL vs) vs).length : Int) - _) (by omega) (by omega), wrap64_id (by omega) (by omega)]; omega]
   exact Ev.now _
  exact ⟨([], 0, false), by simp, Ev.bind e1 (Ev.ifT rfl (Ev.bind a1 (Ev.ifF Bool.false_ne_true (Ev.now _)))), Ev.bind (Ev.bind e2 (Ev.ifT rfl (Ev.bind a2 (Ev.ifF Bool.false_ne_true (Ev.now _))))) (zero_ev)⟩
 exact ⟨([], 0, false), by simp, Ev.bind e1 (Ev.ifF Bool.false_ne_true (Ev.now _)), Ev.bind (Ev.bind e2 (Ev.ifF Bool.false_ne_true (Ev.now _))) (zero_ev)⟩
end DropPressed
theorem FnExactDropPressed : wF29.Pure := by
 intro l a hl hs _
 obtain ⟨w, rfl⟩ := exB a
 by_cases hb : ((B w).size : Int) > 1048576
 ·
  exact ⟨0, by unfold wF29.f; rw [if_pos hb]⟩
 rw [size_B] at hb
 obtain ⟨v, v1, v2⟩ := szP_ev l hl hs
 refine Ev.rounds ?_
 unfold wF29.f
 refine Ev.ifF (by rw [size_B]; exact hb) (Ev.bind v1 ?_)
 by_cases h0 : v < 0
 ·
  exact Ev.ifT h0 (Ev.now _)
 obtain ⟨hlen, hsm⟩ := v2 (by omega)
 obtain ⟨r, hr, h1, h2⟩ := DropPressed.both (toB l) (by rw [toB_length]; exact hlen) (toB_small hsm) w (by omega)
 have hP := eqPressed_ev (toB l) (by rw [toB_length]; omega)
 have hE := eqPressed_ev r.1 (by omega)
 have hM := markPressed_ev (toB l) (by rw [toB_length]; omega)
 have hT := markPressed_ev r.1 (by omega)
 have hH := heldPressed_ev r.1 (by omega)
 refine Ev.ifF h0 (Ev.bind (toPressed_ev l hlen) (Ev.bind h1 (Ev.bind (toPressed_ev l hlen) (Ev.bind h2 (Ev.bind hE (Ev.ifT rfl (Ev.ifT rfl ?_)))))))
 refine Ev.step (fun k => wF29.j0.eq_2 ..) (Ev.ifF (by simp) (Ev.bind (toPressed_ev l hlen) (Ev.bind hP (Ev.ifT rfl (Ev.bind hM (Ev.ifF (by omega) (Ev.bind hE (Ev.ifT rfl (Ev.ifT rfl ?_)))))))))
 refine Ev.step (fun k => wF29.j1.eq_2 ..) (Ev.ifF (by simp) (Ev.bind hT (Ev.bind hH (Ev.ifF (by omega) (Ev.ifT rfl (Ev.bind (toPressed_ev l hlen) (Ev.bind h2 (Ev.bind hE (Ev.ifT rfl (Ev.ifT rfl ?_))))))))))
 exact Ev.step (fun k => wF29.j2.eq_2 ..) (Ev.ifF (by simp) (Ev.bind hH (Ev.ifF (by omega) (Ev.ifT rfl (Ev.now _)))))
end Go.Proofs.YtfhffcefpnkllaaGreatDoor.Pure
namespace Go.Proofs.YtfhffcefpnkllaaGreatDoor.fnExactDropPressed
open Go.ChangeShapes Go.WideShapes Go.ChangeAt Go.RowKit Go.Proofs.YtfhffcefpnkllaaGreatDoor.P
open Go.ChangeMaps (open_string shut_string)
def laidL : List (String × DataW Unit) := [("unicode/utf8.acceptRanges", Rows.laid_unicode_utf8_acceptRanges), ("unicode/utf8.first", Rows.laid_unicode_utf8_first)]
theorem own : ownKnob Tryz.prog.godebug = none := by kernel_rfl
theorem laidOut : laidOutB Tryz.prog = true := by kernel_rfl
theorem lifted (os : Os) (started : os.Started) (H : Type) (enc : TypeId × Value → H) :
    ReturnsInHanded {} Tryz.checked os 7 .any (fun w args => (Rows.fnExactDropPressedSpec.pre enc Tryz.prog Tryz.f7 [] false w args ∧ laidMetH Tryz.prog laidL w) ∧ sizedMet enc Tryz.prog Tryz.f7 (OpenSpec.ofChange Rows.fnExactDropPressedSpec) false w args) (Rows.fnExactDropPressedSpec.post enc Tryz.prog Tryz.f7 false true false false) := by
  refine returnsInHanded_of_change_and (C := Tryz.checked) (X := fun w _ => laidMetH Tryz.prog laidL w) (fun _ _ _ hh h => h.of_heap hh) own started (by kernel_rfl) Tryz.func7
    (ChangeSpec.witness_shaped (enc := enc) (C := Tryz.checked) (os := os) (X := fun w _ => laidMetH Tryz.prog laidL w) false (World.laidAll Tryz.prog os laidL) #[.agg #[.slice none 0 0], .string ByteArray.empty] 8 (World.laidAll_os _ _ _) (World.shaped_of_ZipB (by kernel_rfl) (by kernel_rfl)) (by kernel_rfl) (by kernel_rfl) (by kernel_rfl)
      (by rw [MakeChecks.laidMetH_plain _ _ _ (by kernel_rfl)]; exact laidMet_laidAll _ (by kernel_rfl) (by kernel_rfl))) ?_
  intro W base args ds gs before hval0 hW hcnd hsz0 hL_ _
  have hsz : (DataW.weightsEach Tryz.prog (Tryz.f7.params.toList ++ Rows.fnExactDropPressedSpec.plain.varTypes Tryz.prog) (ds ++ gs)).all (· ≤ reachBytes) = true := hsz0
  have hval : ∀ (j : Nat) t v, Tryz.f7.params[j]? = some t → args[j]? = some v → Value.okWide Tryz.prog W .any base t v := hval0
  have hW' := hW
  obtain ⟨p, q, hA0, hV, rfl, hfz, hnd⟩ := hW
  have hA : DataW.TrodAll enc Tryz.prog W 0 (fun _ => true) true Tryz.f7.params.toList args.toList ds p := hA0
  rw [Tryz.params7] at hA hval hsz
  obtain ⟨v0, vs0, d0, ds0, p0, q0, hargs, rfl, rfl, h0, r0⟩ := trodAll_cons hA
  obtain ⟨v1, vs1, d1, ds1, p1, q1, rfl, rfl, rfl, h1, r1⟩ := trodAll_cons r0
  obtain ⟨rfl, rfl, rfl⟩ := trodAll_nil r1
  obtain rfl : args = #[v0, v1] := by cases args; simp_all
  obtain ⟨rfl, rfl⟩ := trodVars_none hV
  have k0 := h0
  have lt0 : ∀ x ∈ p0, x.block < W.heap.size := by obtain ⟨m, hm⟩ := k0; exact DataW.trod_lt m _ _ _ hm
  obtain ⟨A0, c0, l0, ev0, hc0, hr0, hs0⟩ := OPr.pressed (hval 0 24 v0 rfl rfl) h0
  subst ev0
  obtain ⟨a1, rfl, rfl, rfl, y1⟩ := open_string Tryz.underlying9 (hval 1 9 v1 rfl rfl) h1
  have w1 : a1.size ≤ 140737488351232 := by
    have z := sized_string hsz (j := 1) (t := 9) rfl rfl
    rw [Array.length_toList] at z
    exact z
  clear hA0 hval0 hsz0 hsz
  refine (wF29.walk Pure.FnExactDropPressed W A0 c0 l0 hr0 hc0 hs0 a1 w1).mono fun e W' ⟨he, bel⟩ => ?_
  subst he
  exact ⟨_, rfl, _, _, _, [], _, [], hW', trodAll_mk1 (shut_bool Tryz.underlying4 _), (trodAll_cons_mk (Below.trod laidOut (by kernel_rfl) (of_decide_eq_true (by kernel_rfl)) k0 bel lt0) (trodAll_cons_mk (shut_string Tryz.underlying9 y1) trodAll_mk0)), rfl, bel.frame _, fun h => by cases h⟩
theorem over : Rows.fnExactDropPressedRow.holds Tryz.pinned (OpenSpec.ofChange Rows.fnExactDropPressedSpec) :=
  OpenClaim.holds_of_wide 7 Tryz.f7 rfl rfl rfl rfl rfl rfl rfl ⟨rfl, rfl, rfl, rfl, rfl⟩ rfl rfl rfl rfl rfl (by kernel_rfl) Tryz.func7 (by kernel_rfl)
    (of_decide_eq_true (by kernel_rfl)) (by unfold Func.isWrapper; first | (rw [if_pos (by decide +kernel)]; kernel_rfl) | (rw [if_neg (by decide +kernel)]; exact ⟨rfl, rfl⟩))
    (fun os started H enc _ => lifted os started H enc)
theorem proved : Rows.FnExactDropPressedSaid := over
end Go.Proofs.YtfhffcefpnkllaaGreatDoor.fnExactDropPressed
namespace Go.Proofs.YtfhffcefpnkllaaGreatDoor
theorem fnExactDropPressed_holds : Rows.FnExactDropPressedSaid := fnExactDropPressed.proved
theorem fnExactDropPressed_card : Rows.FnExactDropPressedCardSaid :=
  Claim7.holds_tied_plain_at .later [] [.data, .pinned] true (true, "89e9aeddae24cd2275e11d4f31cafb8a5f0d0d61960544b8b9d0c6dec95f84d4") false
    fnExactDropPressed_holds (fun _ h => by cases h) (by kernel_rfl) (fun _ h => by cases h) fnExactDropPressed_row_tie rfl ⟨rfl, rfl⟩ (by kernel_rfl) rfl
    (fun f fn hf hfn => by
      obtain rfl : f = 7 := Option.some.inj ((show Tryz.prog.funcNamed "loop.example/g01243/laws.FnExactDropPressed" = some 7 by kernel_rfl).symm.trans hf) |>.symm
      obtain rfl : fn = Tryz.f7 := (Option.some.inj (Tryz.func7.symm.trans hfn)).symm
      exact ⟨by kernel_rfl, fun j t ht => by
        rw [Tryz.params7] at ht
        have hm : t ∈ [24, 9] := by simpa using Array.mem_of_getElem? ht
        have hall : ([24, 9].all fun u => !Tryz.prog.wantsStandIn u) = true := by kernel_rfl
        exact (show Tryz.prog.wantsStandIn t = false by simpa using List.all_eq_true.1 hall t hm)⟩)
    (by kernel_rfl)
end Go.Proofs.YtfhffcefpnkllaaGreatDoor
