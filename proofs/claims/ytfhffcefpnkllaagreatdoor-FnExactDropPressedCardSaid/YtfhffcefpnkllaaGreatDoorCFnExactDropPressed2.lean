/-
  Part 3 of the proof that FnExactDropPressed returns true for every input: the functions that it reaches, each with its contract, and the law.
  Conditions: those of the given statement, no others.
-/
import Derived.Test.YtfhffcefpnkllaaGreatDoorCFnExactDropPressedW0
import Derived.Lib.SliceRun
import Derived.Shelf.Abstract
import Derived.Test.YtfhffcefpnkllaaGreatDoorCFnExactDropPressed0
import Derived.Test.YtfhffcefpnkllaaGreatDoorCFnExactDropPressed1
set_option linter.unusedVariables false
set_option linter.unusedSimpArgs false
set_option maxHeartbeats 8000000
set_option maxRecDepth 100000
namespace Go.Proofs.YtfhffcefpnkllaaGreatDoorW.PrintWords
open Go.RowKit
theorem Kept.mono {w W : World} {S S' : Nat → Prop} (h : Kept w W S) (hs : ∀ k, S k → S' k) : Kept w W S' := ⟨h.1, fun i hi hn => h.2 i hi (fun hk => hn (hs i hk))⟩
theorem Kept.setCell {w W : World} {S : Nat → Prop} (h : Kept w W S) {p : Addr} (hp : S p.block ∨ w.heap.size ≤ p.block) (u : Value) : Kept w (W.setCell p u) S :=
  h.then_ (S2 := fun k => k = p.block) ⟨by simp [World.setCell], fun i _ hn => Go.RowKit.Below.heap_setCell W p u i hn⟩ (fun k hk => by rw [hk]; exact hp)
end Go.Proofs.YtfhffcefpnkllaaGreatDoorW.PrintWords
namespace Go.Proofs.YtfhffcefpnkllaaGreatDoor.P
open Go.RowKit Go.Proofs.YtfhffcefpnkllaaGreatDoorW.PrintWords Go.Proofs.YtfhffcefpnkllaaGreatDoorW.PrintLast Go.Proofs.YtfhffcefpnkllaaGreatDoorW.PrintMore
open Go.Proofs.YtfhffcefpnkllaaGreatDoorW.PrintWords renaming blk_frozen → bF_, blk_cell → bC_, below_set → bS_, blk_below → bB_, below_step → bT_, pw_below_drewN → bN_, below_size → bZ_, below_drew1 → bD_, below_alloc → bA_, blk_far → bR_, gate_callee → gC_, gate_dst → gD_, box_event → bE_, blk_drew → b1_, blk_put → bP_, blk_drewN → b2_, blk_alloc → b3_, blk_lt → bL_, cell_far → cF_
open Go.Proofs.YtfhffcefpnkllaaGreatDoorW.PrintLast renaming any_of → aO_, i64_w → i6_, i32_w → i3_, take_ofW → tW_
open Go.Proofs.YtfhffcefpnkllaaGreatDoorW.PrintWords.Kd renaming R_below → kB_, R_mono → kM_, R_far → kF_, R_reads' → kR_, R_types → kT_, R_slice → kS_, R_celln → kC_, R_alloc → k1_, R_drewN → k2_, R_drew → k3_, C_below → k4_, R_lower → k5_, R_ne → k6_, own_blk → k7_
open Go.Proofs.YtfhffcefpnkllaaGreatDoorW.PrintWords.LeO renaming none → l0_, bind → l1_, ite → l2_, refl → l3_
open World renaming block_lt_of_cell? → wB_
open _root_.Option renaming bind_eq_some_iff → oB_
open _root_.ByteArray renaming empty → eB_
open List renaming setIfInBounds_toArray → sA_, set_cons_zero → sB_, set_cons_succ → sC_, map_toArray → sD_, map_cons → sE_, map_nil → sF_, length_drop → sG_, length_take → sH_
open Bool renaming true → ty, false → fy
open Aside0 renaming mk → aM_
attribute [local go_sem] max2_int min2_int max_two min_two max_three min_three max_four min_four
def iF13.l0 : Nat → Int → List Int → List (S76) → Int → Int → Option (List Int)
 | 0, _, _, _, _, _ => none
 | k + 1, x1, x5, x10, x11, x12 => if x12 < x11 then (if 0 ≤ x12 then (if x12 < (x10.length : Int) then (if ((rd_T76 x10 x12).f1) = x1 then (if x5.length < 17592186044416 then (iF13.l0 k x1 (x5 ++ [x12]) x10 x11 (wrap64 (x12 + 1))) else (none)) else (iF13.l0 k x1 x5 x10 x11 (wrap64 (x12 + 1)))) else (none)) else (none)) else (some x5)
def iF13.f (k : Nat) (l0_0 : List (S76)) (a1 : Int) : Option (List Int) := iF13.l0 k a1 (([] : List Int)) l0_0 (l0_0.length : Int) 0
theorem iF13.mono_l : ∀ k, (∀ y0 y1 y2 y3 y4, LeO (iF13.l0 k y0 y1 y2 y3 y4) (iF13.l0 (k + 1) y0 y1 y2 y3 y4))
 | 0 => fun _ _ _ _ _ r h => by simp [iF13.l0] at h
 | k + 1 => by
  have ih0 := iF13.mono_l k
  intro y0 y1 y2 y3 y4
  unfold iF13.l0
  repeat' with_reducible first | exact ih0 _ _ _ _ _ | exact l3_ _ | exact l0_ _ | refine l2_ ?_ ?_ | refine l1_ ?_ (fun _ => ?_)
theorem iF13.mono : ∀ a0 a1 k, LeO (iF13.f k a0 a1) (iF13.f (k + 1) a0 a1) := by
 intro a0 a1 k
 have ih0 := iF13.mono_l k
 unfold iF13.f
 repeat' with_reducible first | exact ih0 _ _ _ _ _ | exact l3_ _ | exact l0_ _ | refine l2_ ?_ ?_ | refine l1_ ?_ (fun _ => ?_)
theorem iF13.calls (k : Nat) (A0_0 : Option Addr) (c0_0 : Nat) (l0_0 : List (S76)) (a1 : Int) (r : List Int) (w : World) (hr0_0 : Kd.C k76 w A0_0 l0_0.length l0_0) (hc0_0 : l0_0.length ≤ c0_0) (h : iF13.f k l0_0 a1 = some r) :
  Calls Tryz.prog 99 #[.agg #[.slice A0_0 l0_0.length c0_0], .int .i64 a1] w fun e w' => ∃ v0_ : Value, e = .returned (v0_) ∧ Kd.R (Kd.int .i64) 3 w' w.heap.size (fun _ => True) v0_ r ∧ Below w.heap.size w w' := by
 have hu36 := Tryz.underlying36
 have hu76 := Tryz.underlying76
 have HR0_0 := aM_ hr0_0
 have HC0_0 := aM_ hc0_0
 clear hr0_0 hc0_0
 have HB := aM_ (Below.refl w.heap.size w)
 have H : (iF13.l0 k a1 (([] : List Int)) l0_0 (l0_0.length : Int) 0) = some r := h
 clear h
 obtain ⟨y386, hy386⟩ : ∃ y_ : List Int, y_ = (([] : List Int)) := ⟨_, rfl⟩
 replace H : (iF13.l0 k a1 y386 l0_0 (l0_0.length : Int) 0) = some r := by (try rw [hy386]); first | with_reducible exact H | with_reducible exact oS_ H | exact H
 have Ny386 := aM_ hy386
 clear hy386
 have H' := aM_ H
 clear H
 go_enter Tryz.func99, Tryz.ntmps99
 go_wp2_with (first | (refine bx_ 2 #[.slice A0_0 l0_0.length c0_0] 36 ?_; intro gb385 hg w3 hbox hb; have BK385 := aM_ (hbox); have GW385 := gw_ hg HB; replace HB := b4_ HB hb; clear hb hbox hg) | ((with_reducible refine gD_ (N := 8) rfl ?_); refine Kd.R_lit (Kd.int .i64) _ 3 ?hg (N := 8) ?hd (xs := ([] : List Int)) (inner := []) (ok := fun _ => True) (okp := fun _ => True) ?hr ?hp (fun _ hk => hk) trivial (Below.refl _ _) (Nat.le_refl _) (by simp) ?_; (case hd => rfl); (case hg => rfl); (case hr => (go_simp; done)); (case hp => exact (Reps.none _ _)); intro v387 w4 ho5 hb hg_ hnew_; clear hg_ hnew_; (rw [← Ny386.out] at ho5); have HO388 := aM_ (k5_ ho5 (bZ_ HB.out)); replace BK385 := b5_ BK385 hb; replace HB := b4_ HB hb; clear hb ho5; have hcz6_0 := c0_ BK385; have hfz6_0 := bF_ BK385.out 0))
 go_loopg [5, 12] k (fun kq v5 v12 w' => ∃ (x5_1 : List Int) (x12_1 : Int), v12 = .int .i64 x12_1 ∧ Aside0 (iF13.l0 kq a1 x5_1 l0_0 (l0_0.length : Int) x12_1 = some r) ∧ Aside0 (kq ≤ k) ∧ Aside0 (Kd.R (Kd.int .i64) 3 w' w.heap.size (fun _ => True) v5 x5_1) ∧ Aside0 (w'.heap[gb385]? = some (.cells #[(.slice A0_0 l0_0.length c0_0)] 36 (0, 0))) ∧ Aside0 (Below w.heap.size w w'))
 case atStart => exact ⟨(y386), (0), (by rfl), H', ⟨Nat.le_refl _⟩, ⟨HO388.out⟩, ⟨BK385.out⟩, ⟨HB.out⟩⟩
 clear H'
 try clear p2
 try clear hcz6_0
 try clear hfz6_0
 obtain ⟨x5_1, x12_1, rfl, HA, HK1, HO_5, BK385, HB⟩ := hrel
 cases gk with
 | zero => exact absurd HA.out (by simp [iF13.l0])
 | succ k1 =>
  have H := HA.out
  clear HA
  simp only [iF13.l0] at H
  by_cases c7 : x12_1 < (l0_0.length : Int)
  rotate_left
  ·
   rw [if_neg c7] at H
   have c7b0 := dF_ c7
   clear c7
   obtain rfl := Option.some.inj H
   go_wp2
   go_ret
   exact ⟨_, by rfl, by exact HO_5.out, by exact HB.out⟩
  rw [if_pos c7] at H
  have c7b0 := dT_ c7
  clear c7
  by_cases c8 : 0 ≤ x12_1
  rotate_left
  ·
   rw [if_neg c8] at H
   exact absurd H (by simp)
  rw [if_pos c8] at H
  have c8b0 := dT_ c8
  clear c8
  by_cases c9 : x12_1 < (l0_0.length : Int)
  rotate_left
  ·
   rw [if_neg c9] at H
   exact absurd H (by simp)
  rw [if_pos c9] at H
  have c9b0 := dT_ c9
  clear c9
  by_cases c10 : ((rd_T76 l0_0 x12_1).f1) = a1
  ·
   rw [if_pos c10] at H
   have c10b0 : (((rd_T76 l0_0 x12_1).f1) == a1) = true := beq_iff_eq.mpr c10
   have c10b1 : (((rd_T76 l0_0 x12_1).f1) != a1) = false := bne_eq_false_iff_eq.mpr c10
   clear c10
   by_cases c11 : x5_1.length < 17592186044416
   rotate_left
   ·
    rw [if_neg c11] at H
    exact absurd H (by simp)
   rw [if_pos c11] at H
   have LMc11 := aM_ c11
   clear c11
   obtain ⟨y391, hy391⟩ : ∃ y_ : List Int, y_ = (x5_1 ++ [x12_1]) := ⟨_, rfl⟩
   replace H : (iF13.l0 k1 a1 y391 l0_0 (l0_0.length : Int) (wrap64 (x12_1 + 1))) = some r := by (try rw [hy391]); first | with_reducible exact H | with_reducible exact oS_ H | exact H
   have Ny391 := aM_ hy391
   clear hy391
   have H' := aM_ H
   clear H
   have p389 : 0 ≤ (x12_1 : Int) := oD_ ‹_›
   have q389 : x12_1 < (l0_0.length : Int) := oD_ ‹_›
   obtain ⟨ad389, e389, hx389_0, hx389_1, hx389_2⟩ := at_T76 HR0_0.out x12_1 p389 q389
   cases e389
   replace hx389_0 := cb_ HB hx389_0
   replace hx389_1 := cb_ HB hx389_1
   replace hx389_2 := cb_ HB hx389_2
   replace p389 := eq_true p389
   replace q389 := eq_true q389
   go_wp2_with (first | (refine bx_ 7 #[.int .i64 0, .int .i64 0, .bool false] 76 ?_; intro gb390 hg w12 hbox hb; replace HO_5 := k9_ HO_5 hb; have BK390 := aM_ (hbox); have GW390 := gw_ hg HB; replace HB := b4_ HB hb; have NB385_390 := nb_ hg BK385; have NB390_385 := ns_ NB385_390; replace BK385 := b5_ BK385 hb; clear hb hbox hg; have hnb13 := NB390_385.out; have hnc13 := NB385_390.out; have hcz14_0 := c0_ BK390; have hcz14_1 := c1_ BK390; have hcz14_2 := c2_ BK390; have hfz14_0 := bF_ BK390.out 0; have hfz14_1 := bF_ BK390.out 1; have hfz14_2 := bF_ BK390.out 2) | ((with_reducible refine gate_builtin (b := .append) (xs := #[.tmp 21, .tmp 23]) rfl ?_); at_builtin; refine Kd.R_append (Kd.int .i64) (w0 := w) w.heap.size rfl (.tmp 21) (.tmp 23) 87 3 (.int .i64 0) 8 rfl Tryz.underlying87 info3 rfl (by decide) (by omega) u5 x5_1 x12_1 [.int .i64 x12_1] (fun _ => True) (fun _ => False) rfl (by (go_simp; done)) ?aP (fun _ hk => hk.elim) ?aF ?aO ?aB ?aS ?aL ?_; (case aP => exact rfl); (case aB => exact (by repeat with_reducible first | exact HB.out | apply bA_ | apply bN_ | apply bD_ | refine bS_ ?_ (Aside0.out ‹_›))); (case aF => exact (fun _ _ => trivial)); (case aO => exact (by exact kM_ (kG_ (kG_ (kG_ (kT_ HO_5.out BK390.out (by decide))))) (fun _ hk => trivial))); (case aS => exact (bZ_ (by repeat with_reducible first | exact HB.out | apply bA_ | apply bN_ | apply bD_ | refine bS_ ?_ (Aside0.out ‹_›)))); (case aL => have := LMc11.out; omega); intro v392 w15 ho hb hg hat; rw [← Ny391.out] at ho; have n0_ := aM_ (blk_grown (g := gb385) (o := .cells #[.slice (some ad389) l0_0.length c0_0] 36 (0, 0)) (by exact br_ NB385_390.out (br_ NB385_390.out (br_ NB385_390.out (BK385.out)))) hg (k6_ HO_5.out BK385.out (by decide))); have n1_ := aM_ (blk_grown (g := gb390) (o := .cells #[.int .i64 ((rd_T76 l0_0 x12_1).f0), .int .i64 ((rd_T76 l0_0 x12_1).f1), .bool ((rd_T76 l0_0 x12_1).f2)] 76 (0, 0)) (by refine bP_ (cs := #[.int .i64 ((rd_T76 l0_0 x12_1).f0), .int .i64 ((rd_T76 l0_0 x12_1).f1), .bool false]) ?_ 2 _ rfl; refine bP_ (cs := #[.int .i64 ((rd_T76 l0_0 x12_1).f0), .int .i64 0, .bool false]) ?_ 1 _ rfl; refine bP_ (cs := #[.int .i64 0, .int .i64 0, .bool false]) ?_ 0 _ rfl; exact BK390.out) hg (k6_ HO_5.out BK390.out (by decide))); have n2_ := aM_ (hb); have n3_ := aM_ (ho); clear BK385; clear BK390; clear HB; clear HO_5; have BK385 := n0_; have BK390 := n1_; have HB := n2_; have HO393 := n3_; clear n0_ n1_ n2_ n3_; clear ho hb hg hat))
   go_roundg k1
   case measure => have := HK1.out; omega
   case rel => exact ⟨(y391), (wrap64 (x12_1 + 1)), (by rfl), H', ⟨by have := HK1.out; omega⟩, ⟨HO393.out⟩, ⟨BK385.out⟩, ⟨HB.out⟩⟩
  rw [if_neg c10] at H
  have c10b0 : (((rd_T76 l0_0 x12_1).f1) == a1) = false := beq_eq_false_iff_ne.mpr c10
  have c10b1 : (((rd_T76 l0_0 x12_1).f1) != a1) = true := bne_iff_ne.mpr c10
  have H' := aM_ H
  clear H
  have p389 : 0 ≤ (x12_1 : Int) := oD_ ‹_›
  have q389 : x12_1 < (l0_0.length : Int) := oD_ ‹_›
  obtain ⟨ad389, e389, hx389_0, hx389_1, hx389_2⟩ := at_T76 HR0_0.out x12_1 p389 q389
  cases e389
  replace hx389_0 := cb_ HB hx389_0
  replace hx389_1 := cb_ HB hx389_1
  replace hx389_2 := cb_ HB hx389_2
  replace p389 := eq_true p389
  replace q389 := eq_true q389
  go_wp2_with (first | (refine bx_ 7 #[.int .i64 0, .int .i64 0, .bool false] 76 ?_; intro gb390 hg w16 hbox hb; replace HO_5 := k9_ HO_5 hb; have BK390 := aM_ (hbox); have GW390 := gw_ hg HB; replace HB := b4_ HB hb; have NB385_390 := nb_ hg BK385; have NB390_385 := ns_ NB385_390; replace BK385 := b5_ BK385 hb; clear hb hbox hg; have hnb17 := NB390_385.out; have hnc17 := NB385_390.out; have hcz18_0 := c0_ BK390; have hcz18_1 := c1_ BK390; have hcz18_2 := c2_ BK390; have hfz18_0 := bF_ BK390.out 0; have hfz18_1 := bF_ BK390.out 1; have hfz18_2 := bF_ BK390.out 2))
  go_roundg k1
  case measure => have := HK1.out; omega
  case rel => exact ⟨(x5_1), (wrap64 (x12_1 + 1)), (by rfl), H', ⟨by have := HK1.out; omega⟩, ⟨by exact kM_ (kG_ (kG_ (kG_ (kT_ HO_5.out BK390.out (by decide))))) (fun _ hk => trivial)⟩, ⟨by exact br_ NB385_390.out (br_ NB385_390.out (br_ NB385_390.out (BK385.out)))⟩, ⟨by repeat with_reducible first | exact HB.out | apply bA_ | apply bN_ | apply bD_ | refine bS_ ?_ (Aside0.out ‹_›)⟩⟩
def iF16.f (k : Nat) (l0_0 : List (S76)) (a1 : Int) : Option (Bool) := if a1 = 0 then (some true) else (if 0 ≤ a1 then (if a1 < (l0_0.length : Int) then (if (rd_T76 l0_0 a1).f2 = true then (some true) else ((iF13.f k l0_0 a1).bind fun t396 => (some ((t396.length : Int) != 1)))) else (none)) else (none))
theorem iF16.mono : ∀ a0 a1 k, LeO (iF16.f k a0 a1) (iF16.f (k + 1) a0 a1) := by
 intro a0 a1 k
 unfold iF16.f
 repeat' with_reducible first | exact iF13.mono _ _ _ | exact l3_ _ | exact l0_ _ | refine l2_ ?_ ?_ | refine l1_ ?_ (fun _ => ?_)
theorem iF16.calls (k : Nat) (A0_0 : Option Addr) (c0_0 : Nat) (l0_0 : List (S76)) (a1 : Int) (r : Bool) (w : World) (hr0_0 : Kd.C k76 w A0_0 l0_0.length l0_0) (hc0_0 : l0_0.length ≤ c0_0) (h : iF16.f k l0_0 a1 = some r) :
  Calls Tryz.prog 84 #[.agg #[.slice A0_0 l0_0.length c0_0], .int .i64 a1] w fun e w' => e = .returned (.bool r) ∧ Below w.heap.size w w' := by
 have hu36 := Tryz.underlying36
 have HR0_0 := aM_ hr0_0
 have HC0_0 := aM_ hc0_0
 clear hr0_0 hc0_0
 have HB := aM_ (Below.refl w.heap.size w)
 have H : (if a1 = 0 then (some true) else (if 0 ≤ a1 then (if a1 < (l0_0.length : Int) then (if (rd_T76 l0_0 a1).f2 = true then (some true) else ((iF13.f k l0_0 a1).bind fun t396 => (some ((t396.length : Int) != 1)))) else (none)) else (none))) = some r := h
 clear h
 by_cases c3 : a1 = 0
 ·
  rw [if_pos c3] at H
  have c3b0 : (a1 == 0) = true := beq_iff_eq.mpr c3
  have c3b1 : (a1 != 0) = false := bne_eq_false_iff_eq.mpr c3
  clear c3
  obtain rfl := Option.some.inj H
  go_enter Tryz.func84, Tryz.ntmps84
  go_wp2_with (first | ((with_reducible refine gD_ (N := 2) rfl ?_); (try (refine gate_guard (by rfl) ?_; dsimp only)); refine bE_ ?hg (N := 2) ?hd (cs := #[.slice A0_0 l0_0.length c0_0]) (t := 36) ?hr ?_; (case hd => rfl); (case hg => rfl); (case hr => (go_simp; done)); intro gb394 hg w4 hbox hb; have BK394 := aM_ (hbox); have GW394 := gw_ hg HB; replace HB := b4_ HB hb; clear hb hbox hg))
  go_ret
  exact ⟨by rfl, by exact HB.out⟩
 rw [if_neg c3] at H
 have c3b0 : (a1 == 0) = false := beq_eq_false_iff_ne.mpr c3
 have c3b1 : (a1 != 0) = true := bne_iff_ne.mpr c3
 by_cases c5 : 0 ≤ a1
 rotate_left
 ·
  rw [if_neg c5] at H
  exact absurd H (by simp)
 rw [if_pos c5] at H
 have c5b0 := dT_ c5
 clear c5
 by_cases c6 : a1 < (l0_0.length : Int)
 rotate_left
 ·
  rw [if_neg c6] at H
  exact absurd H (by simp)
 rw [if_pos c6] at H
 have c6b0 := dT_ c6
 clear c6
 obtain ⟨bq7, hbq7⟩ : ∃ b_ : Bool, b_ = ((rd_T76 l0_0 a1).f2) := ⟨_, rfl⟩
 replace H : (if bq7 = true then (some true) else ((iF13.f k l0_0 a1).bind fun t396 => (some ((t396.length : Int) != 1)))) = some r := by rw [← hbq7] at H; exact H
 have Nbq7 := aM_ hbq7
 clear hbq7
 by_cases c8 : bq7 = true
 ·
  subst c8
  rw [if_pos rfl] at H
  obtain rfl := Option.some.inj H
  go_enter Tryz.func84, Tryz.ntmps84
  go_wp2_with (first | ((with_reducible refine gD_ (N := 2) rfl ?_); (try (refine gate_guard (by rfl) ?_; dsimp only)); refine bE_ ?hg (N := 2) ?hd (cs := #[.slice A0_0 l0_0.length c0_0]) (t := 36) ?hr ?_; (case hd => rfl); (case hg => rfl); (case hr => (go_simp; done)); intro gb394 hg w9 hbox hb; have BK394 := aM_ (hbox); have GW394 := gw_ hg HB; replace HB := b4_ HB hb; clear hb hbox hg; have hcz10_0 := c0_ BK394; have hfz10_0 := bF_ BK394.out 0; have p395 : 0 ≤ (a1 : Int) := oD_ ‹_›; have q395 : a1 < (l0_0.length : Int) := oD_ ‹_›; obtain ⟨ad395, e395, hx395_0, hx395_1, hx395_2⟩ := at_T76 HR0_0.out a1 p395 q395; (try rw [← Nbq7.out] at hx395_2); cases e395; replace hx395_0 := cb_ HB hx395_0; replace hx395_1 := cb_ HB hx395_1; replace hx395_2 := cb_ HB hx395_2; replace p395 := eq_true p395; replace q395 := eq_true q395))
  go_ret
  exact ⟨by rfl, by exact HB.out⟩
 replace c8 := Bool.eq_false_iff.mpr c8
 subst c8
 replace H : ((iF13.f k l0_0 a1).bind fun t396 => (some ((t396.length : Int) != 1))) = some r := by rw [if_neg (show ¬ (false = true) by decide)] at H; exact H
 replace H := oB_.mp H
 obtain ⟨t396, A110, H⟩ := H
 try dsimp only at H
 have A11 := aM_ A110
 clear A110
 obtain rfl := Option.some.inj H
 go_enter Tryz.func84, Tryz.ntmps84
 go_wp2_with (first | ((with_reducible refine gD_ (N := 2) rfl ?_); (try (refine gate_guard (by rfl) ?_; dsimp only)); refine bE_ ?hg (N := 2) ?hd (cs := #[.slice A0_0 l0_0.length c0_0]) (t := 36) ?hr ?_; (case hd => rfl); (case hg => rfl); (case hr => (go_simp; done)); intro gb394 hg w12 hbox hb; have BK394 := aM_ (hbox); have GW394 := gw_ hg HB; replace HB := b4_ HB hb; clear hb hbox hg; have hcz13_0 := c0_ BK394; have hfz13_0 := bF_ BK394.out 0; have p395 : 0 ≤ (a1 : Int) := oD_ ‹_›; have q395 : a1 < (l0_0.length : Int) := oD_ ‹_›; obtain ⟨ad395, e395, hx395_0, hx395_1, hx395_2⟩ := at_T76 HR0_0.out a1 p395 q395; (try rw [← Nbq7.out] at hx395_2); cases e395; replace hx395_0 := cb_ HB hx395_0; replace hx395_1 := cb_ HB hx395_1; replace hx395_2 := cb_ HB hx395_2; replace p395 := eq_true p395; replace q395 := eq_true q395) | (go_at_call 99; (with_reducible refine (iF13.calls k _ _ l0_0 a1 t396 _ ?side1 HC0_0.out A11.out).mono ?_); (case side1 => repeat (first | exact (k4_ HR0_0.out HB.out) | with_reducible first | apply cA_ | apply cN_ | apply cD_)); rintro e w14 ⟨v397, rfl, ho0, hb⟩; have HO398 := aM_ (k5_ ho0 (bZ_ HB.out)); replace BK394 := b5_ BK394 hb; replace HB := b4_ HB hb; (try clear hb); (try clear ho0); obtain ⟨Ao15, co15, eo15⟩ := kS_ HO398.out; subst eo15))
 go_ret
 exact ⟨by rfl, by exact HB.out⟩
mutual
def iF15.l0 : Nat → List ByteArray → List Int → List (S76) → Int → Int → List (S76) → List (S60) → Option ((List (S60)))
 | 0, _, _, _, _, _, _, _ => none
 | k + 1, x3, x6, x22, x23, x24, x400000, x409000 => if x24 < x23 then (if 0 ≤ x24 then (if x24 < (x22.length : Int) then ((iF16.f k x400000 x24).bind fun t411 => (if t411 = true then (if x24 > 0 then (iF15.l1 k x3 x6 x24 ((rd_T76 x22 x24).f1) x22 x23 x24 x400000 x409000 (⟨#[]⟩ : ByteArray) (-1) ((rd_T76 x22 x24).f2)) else (if x24 < (x6.length : Int) then (if x409000.length < 4398046511104 then (iF15.l0 k x3 (x6.set (x24 : Int).toNat (x409000.length : Int)) x22 x23 (wrap64 (x24 + 1)) x400000 (x409000 ++ [(⟨(⟨#[]⟩ : ByteArray), (-1), (rd_T76 x22 x24).f2⟩ : S60)])) else (none)) else (none))) else (iF15.l0 k x3 x6 x22 x23 (wrap64 (x24 + 1)) x400000 x409000))) else (none)) else (none)) else (some x409000)
def iF15.l1 : Nat → List ByteArray → List Int → Int → Int → List (S76) → Int → Int → List (S76) → List (S60) → ByteArray → Int → Bool → Option ((List (S60)))
 | 0, _, _, _, _, _, _, _, _, _, _, _, _ => none
 | k + 1, x3, x6, x7, x10, x22, x23, x24, x400000, x409000, x413000, x413001, x413002 => (iF16.f k x400000 x10).bind fun t413 => (if t413 = true then (if 0 ≤ x7 then (if x7 < (x3.length : Int) then (if 0 ≤ x10 then (if x10 < (x3.length : Int) then (if 0 ≤ ((rdOf eB_ x3 x10).size : Int) then (if ((rdOf eB_ x3 x10).size : Int) ≤ ((rdOf eB_ x3 x7).size : Int) then (if x10 < (x6.length : Int) then (if x7 < (x6.length : Int) then (if x409000.length < 4398046511104 then (iF15.l0 k x3 (x6.set (x7 : Int).toNat (x409000.length : Int)) x22 x23 (wrap64 (x24 + 1)) x400000 (x409000 ++ [(⟨(rdOf eB_ x3 x7).extract (((rdOf eB_ x3 x10).size : Int) : Int).toNat (rdOf eB_ x3 x7).size, rd x6 x10, x413002⟩ : S60)])) else (none)) else (none)) else (none)) else (none)) else (none)) else (none)) else (none)) else (none)) else (none)) else (if 0 ≤ x10 then (if x10 < (x400000.length : Int) then (iF15.l1 k x3 x6 x7 ((rd_T76 x400000 x10).f1) x22 x23 x24 x400000 x409000 x413000 x413001 x413002) else (none)) else (none)))
end
def iF15.f (k : Nat) (l0_0 : List (S76)) : Option ((List (S60))) := (iF14.f k l0_0).bind fun bt401 => (if 0 ≤ (l0_0.length : Int) then (if ((l0_0.length : Int) : Int).toNat ≤ 35184372088832 then (iF15.l0 k bt401.1 (List.replicate ((l0_0.length : Int) : Int).toNat 0) l0_0 (l0_0.length : Int) 0 l0_0 ([] : List (S60))) else (none)) else (none))
theorem iF15.mono_l : ∀ k, (∀ y0 y1 y2 y3 y4 y5 y6, LeO (iF15.l0 k y0 y1 y2 y3 y4 y5 y6) (iF15.l0 (k + 1) y0 y1 y2 y3 y4 y5 y6)) ∧ (∀ y0 y1 y2 y3 y4 y5 y6 y7 y8 y9 y10 y11, LeO (iF15.l1 k y0 y1 y2 y3 y4 y5 y6 y7 y8 y9 y10 y11) (iF15.l1 (k + 1) y0 y1 y2 y3 y4 y5 y6 y7 y8 y9 y10 y11))
 | 0 => ⟨fun _ _ _ _ _ _ _ r h => by simp [iF15.l0] at h, fun _ _ _ _ _ _ _ _ _ _ _ _ r h => by simp [iF15.l1] at h⟩
 | k + 1 => by
  obtain ⟨ih0, ih1⟩ := iF15.mono_l k
  refine ⟨?_, ?_⟩
  ·
   intro y0 y1 y2 y3 y4 y5 y6
   unfold iF15.l0
   repeat' with_reducible first | exact ih0 _ _ _ _ _ _ _ | exact ih1 _ _ _ _ _ _ _ _ _ _ _ _ | exact iF14.mono _ _ | exact iF16.mono _ _ _ | exact l3_ _ | exact l0_ _ | refine l2_ ?_ ?_ | refine l1_ ?_ (fun _ => ?_)
  intro y0 y1 y2 y3 y4 y5 y6 y7 y8 y9 y10 y11
  unfold iF15.l1
  repeat' with_reducible first | exact ih0 _ _ _ _ _ _ _ | exact ih1 _ _ _ _ _ _ _ _ _ _ _ _ | exact iF14.mono _ _ | exact iF16.mono _ _ _ | exact l3_ _ | exact l0_ _ | refine l2_ ?_ ?_ | refine l1_ ?_ (fun _ => ?_)
theorem iF15.mono : ∀ a0 k, LeO (iF15.f k a0) (iF15.f (k + 1) a0) := by
 intro a0 k
 obtain ⟨ih0, ih1⟩ := iF15.mono_l k
 unfold iF15.f
 repeat' with_reducible first | exact ih0 _ _ _ _ _ _ _ | exact ih1 _ _ _ _ _ _ _ _ _ _ _ _ | exact iF14.mono _ _ | exact iF16.mono _ _ _ | exact l3_ _ | exact l0_ _ | refine l2_ ?_ ?_ | refine l1_ ?_ (fun _ => ?_)
def iF15.T2 : Bool × List (List Nat × List Nat) := (true, [([], []), ([], []), ([1], [1]), ([2], [2]), ([3, 3], [3]), ([], []), ([5, 0, 0, 5], [0, 5]), ([4, 6, 0, 1, 2, 3, 4, 5, 6], [4])])
def iF15.B2 : List Nat := [0, 0, 2, 6, 14, 0, 33, 127]
theorem iF15.tab2 : rtab .any (opsOf Tryz.f63 2) = iF15.T2 := by kernel_rfl
theorem iF15.bits2 : waitsOk iF15.T2.2 iF15.B2 = true := by kernel_rfl
def iF15.T12 : Bool × List (List Nat × List Nat) := (true, [([], []), ([], []), ([0, 1], [0, 1]), ([2], [2]), ([], []), ([], []), ([4, 5], [4, 5]), ([6], [6]), ([7], [7]), ([3, 8], [3, 8]), ([], []), ([], []), ([10, 11], [10, 11]), ([12], [12]), ([0, 1, 2, 3, 4, 5, 6, 7, 8, 9], []), ([14, 9, 0, 1, 2, 3, 4, 5, 6, 7, 8, 9], [9, 14]), ([0, 1, 2, 3, 4, 5, 6, 7, 8, 9, 10, 11, 12, 13, 14, 15], []), ([16, 13, 15, 0, 1, 2, 3, 4, 5, 6, 7, 8, 9, 10, 11, 12, 13, 14, 15], [13, 16])])
def iF15.B12 : List Nat := [0, 0, 3, 7, 0, 0, 48, 112, 240, 511, 0, 0, 3072, 7168, 1023, 17407, 65535, 131071]
theorem iF15.tab12 : rtab .any (opsOf Tryz.f63 12) = iF15.T12 := by kernel_rfl
theorem iF15.bits12 : waitsOk iF15.T12.2 iF15.B12 = true := by kernel_rfl
theorem iF15.calls (k : Nat) (A0_0 : Option Addr) (c0_0 : Nat) (l0_0 : List (S76)) (r : List (S60)) (w : World) (hr0_0 : Kd.C k76 w A0_0 l0_0.length l0_0) (hc0_0 : l0_0.length ≤ c0_0) (h : iF15.f k l0_0 = some r) :
  Calls Tryz.prog 63 #[.agg #[.slice A0_0 l0_0.length c0_0]] w fun e w' => ∃ v0_ : Value, e = .returned (.agg #[v0_]) ∧ Kd.R k60 60 w' w.heap.size (fun _ => True) v0_ r ∧ Below w.heap.size w w' := by
 have hu36 := Tryz.underlying36
 have hu30 := Tryz.underlying30
 have hu76 := Tryz.underlying76
 have hu60 := Tryz.underlying60
 have HR0_0 := aM_ hr0_0
 have HC0_0 := aM_ hc0_0
 clear hr0_0 hc0_0
 have HB := aM_ (Below.refl w.heap.size w)
 have H : ((iF14.f k l0_0).bind fun bt401 => (if 0 ≤ (l0_0.length : Int) then (if ((l0_0.length : Int) : Int).toNat ≤ 35184372088832 then (iF15.l0 k bt401.1 (List.replicate ((l0_0.length : Int) : Int).toNat 0) l0_0 (l0_0.length : Int) 0 l0_0 ([] : List (S60))) else (none)) else (none))) = some r := h
 clear h
 replace H := oB_.mp H
 obtain ⟨⟨t401, t404⟩, A20, H⟩ := H
 try dsimp only at H
 have A2 := aM_ A20
 clear A20
 by_cases c3 : 0 ≤ (l0_0.length : Int)
 rotate_left
 ·
  rw [if_neg c3] at H
  exact absurd H (by simp)
 rw [if_pos c3] at H
 have c3b0 := eq_true c3
 have c3b1 := dT_ c3
 clear c3
 by_cases c4 : ((l0_0.length : Int) : Int).toNat ≤ 35184372088832
 rotate_left
 ·
  rw [if_neg c4] at H
  exact absurd H (by simp)
 rw [if_pos c4] at H
 have c4b0 := eq_true c4
 have c4b1 := dT_ c4
 clear c4
 obtain ⟨y405, hy405⟩ : ∃ y_ : List Int, y_ = (List.replicate ((l0_0.length : Int) : Int).toNat 0) := ⟨_, rfl⟩
 replace H : (iF15.l0 k t401 y405 l0_0 (l0_0.length : Int) 0 l0_0 ([] : List (S60))) = some r := by (try rw [hy405]); first | with_reducible exact H | with_reducible exact oS_ H | exact H
 have Ny405 := aM_ hy405
 clear hy405
 have H' := aM_ H
 clear H
 go_enter Tryz.func63, Tryz.ntmps63
 try go_wp2_with (first | (refine bx_ 1 #[.slice A0_0 l0_0.length c0_0] 36 ?_; intro gb399 hg w5 hbox hb; have BK399 := aM_ (hbox); have GW399 := gw_ hg HB; replace HB := b4_ HB hb; clear hb hbox hg) | (refine bx_ 2 #[.slice none 0 0] 30 ?_; intro gb400 hg w6 hbox hb; have BK400 := aM_ (hbox); have GW400 := gw_ hg HB; replace HB := b4_ HB hb; have NB399_400 := nb_ hg BK399; have NB400_399 := ns_ NB399_400; replace BK399 := b5_ BK399 hb; clear hb hbox hg; have hnb7 := NB399_400.out; have hnc7 := NB400_399.out; have hcz8_0 := c0_ BK399; have hfz8_0 := bF_ BK399.out 0) | (refine gs_ 13 Tryz.func83 #[.agg #[.slice A0_0 l0_0.length c0_0]] ?_; (with_reducible refine (iF14.calls k _ _ l0_0 t401 t404 _ ?side1 HC0_0.out A2.out).mono ?_); (case side1 => repeat (first | exact (k4_ HR0_0.out HB.out) | with_reducible first | apply cA_ | apply cN_ | apply cD_)); rintro e w9 ⟨v402, rfl, ho0, hb⟩; refine ⟨_, rfl, ?_⟩; have HO403 := aM_ (k5_ ho0 (bZ_ HB.out)); replace BK399 := b5_ BK399 hb; replace BK400 := b5_ BK400 hb; replace HB := b4_ HB hb; (try clear hb); (try clear ho0)))
 have n0_ := aM_ (k3_ HO403.out)
 have n1_ := aM_ (b1_ BK399.out)
 have n2_ := aM_ (b1_ BK400.out)
 have n3_ := aM_ (bD_ HB.out)
 clear HO403
 clear BK399
 clear BK400
 clear HB
 have HO403 := n0_
 have BK399 := n1_
 have BK400 := n2_
 have HB := n3_
 clear n0_ n1_ n2_ n3_
 refine start_ (n := 8) (S := fun w' => w'.cell? ⟨gb399, 0, none⟩ = some (.slice A0_0 l0_0.length c0_0)) (ds := []) #[fy, fy, fy, fy, fy, fy, fy, fy] (by kernel_rfl) rfl rfl ((bC_ BK399.out 0).trans rfl) (fun hHeld => ?_); refine with_tabW iF15.tab2 iF15.bits2 (fun HT_ HW_ => ?_)
 generalize w9.drew = w10 at HO403 BK399 BK400 HB hHeld ⊢
 refine pu_ HT_ 0 16 #[ty, fy, fy, fy, fy, fy, fy, fy] ?_
 refine pu_ HT_ 1 17 #[ty, ty, fy, fy, fy, fy, fy, fy] ?_
 refine take_ (i := 2) (N := some 18) (v := ?_) (a' := ?_) #[ty, ty, ty, fy, fy, fy, fy, fy] rfl rfl (tW_ HT_.out HW_.out (by kernel_rfl)) (fun _ _ _ h => h) (Or.inl ⟨by rfl, ?_⟩) hHeld ?_ ?_; rotate_left; (intro w' s0; go_simp; with_reducible rfl); rotate_left; (simp only [Act.put, sA_, sB_, sC_, i6_, i3_]; rfl)
 refine pu_ HT_ 3 19 #[ty, ty, ty, ty, fy, fy, fy, fy] ?_
 refine join_ (σ := Value × Nat) 1 #[ty, ty, ty, ty, ty, ty, ty, fy] (fun s_ => [(20, s_.1), (5, .pointer (some ⟨s_.2, 0, none⟩))]) (fun s_ w' => (w'.cell? ⟨gb399, 0, none⟩ = some (.slice A0_0 l0_0.length c0_0)) ∧ (Kd.R Kd.string 9 w' w.heap.size (fun _ => True) v402 t401) ∧ (Kd.R (Kd.int .i64) 3 w' w.heap.size (fun _ => True) s_.1 y405) ∧ (w'.heap[gb399]? = some (.cells #[.slice A0_0 l0_0.length c0_0] 36 (0, 0))) ∧ (w'.heap[gb400]? = some (.cells #[.slice none 0 0] 30 (0, 0))) ∧ (w'.heap[s_.2]? = some (.cells #[.slice none 0 0] 30 (0, 0))) ∧ (w.heap.size ≤ s_.2) ∧ (w.heap.size ≤ s_.2) ∧ (gb399 ≠ s_.2) ∧ (s_.2 ≠ gb399) ∧ (gb400 ≠ s_.2) ∧ (s_.2 ≠ gb400) ∧ (Below w.heap.size w w')) ?_ ?_
 rotate_left
 ·
  intro hCont
  refine two_ (i := 4) (j := 5) (Ni := some 20) (Nj := some 5) #[ty, ty, ty, ty, ty, fy, fy, fy] #[ty, ty, ty, ty, fy, ty, fy, fy] rfl rfl rfl rfl (two_of HT_.out (by kernel_rfl)) (by decide) (by decide) (fun K hK => ?_) (fun K hK => ?_)
  ·
   skip
   refine Kd.R_make_step (Kd.int .i64) _ 3 (by rfl) (N := 20) rfl 87 _ _ rfl (l0_0.length : Int) rfl rfl Tryz.underlying87 (.int .i64 0) 8 info3 rfl (by decide) (by omega) 0 (ok := fun _ => True) (okp := fun _ => True) rfl (fun _ hk => hk) trivial (oD_ ‹_›) (Nat.le_trans (Nat.mul_le_mul_right _ (oD_ ‹_› : (l0_0.length : Int).toNat ≤ 35184372088832)) (by omega)) (Below.refl _ _) (Nat.le_refl _) ?_
   intro v406 w11 ho12 hb hg_ hnew_
   clear hg_ hnew_
   (rw [← Ny405.out] at ho12)
   have n0_ := k9_ HO403 hb
   have n1_ := aM_ (k5_ ho12 (bZ_ HB.out))
   have n2_ := b5_ BK399 hb
   have n3_ := b5_ BK400 hb
   have n4_ := b4_ HB hb
   clear HO403
   clear BK399
   clear BK400
   clear HB
   have HO403 := n0_
   have HO407 := n1_
   have BK399 := n2_
   have BK400 := n3_
   have HB := n4_
   clear n0_ n1_ n2_ n3_ n4_
   clear hb ho12
   refine hK.out _ _ ((bC_ BK399.out 0).trans rfl) (fun hHeld => ?_)
   clear hK K
   refine norm_ (by show Act.put _ (some 20) _ = _; simp only [Act.put, sA_, sB_, sC_, i6_, i3_]; rfl) ?_
   refine one_ (i := 5) (N := some 5) #[ty, ty, ty, ty, ty, ty, fy, fy] rfl rfl (one_of HT_.out (by kernel_rfl)) (by decide) (fun K hK => ?_)
   refine box_step ?hg (N := 5) ?hd (cs := #[.slice none 0 0]) (t := 30) ?hr ?_; (case hd => rfl); (case hg => rfl); (case hr => (go_simp; done))
   intro gb408 hg w13 hbox hb
   have n0_ := k9_ HO403 hb
   have n1_ := k9_ HO407 hb
   have n2_ := b5_ BK399 hb
   have n3_ := b5_ BK400 hb
   have n4_ := b4_ HB hb
   have n5_ := aM_ (hbox)
   have n6_ := gw_ hg HB
   have n7_ := gw_ hg HB
   have n8_ := nb_ hg BK399
   have n9_ := aM_ ((by rw [hg]; exact Nat.ne_of_gt (bL_ BK399.out) : gb408 ≠ gb399))
   have n10_ := nb_ hg BK400
   have n11_ := aM_ ((by rw [hg]; exact Nat.ne_of_gt (bL_ BK400.out) : gb408 ≠ gb400))
   clear HO403
   clear HO407
   clear BK399
   clear BK400
   clear HB
   have HO403 := n0_
   have HO407 := n1_
   have BK399 := n2_
   have BK400 := n3_
   have HB := n4_
   have BK408 := n5_
   have GW408 := n6_
   have GW408 := n7_
   have NB399_408 := n8_
   have NB408_399 := n9_
   have NB400_408 := n10_
   have NB408_400 := n11_
   clear n0_ n1_ n2_ n3_ n4_ n5_ n6_ n7_ n8_ n9_ n10_ n11_
   clear hb hbox hg
   refine hK.out _ _ ((bC_ BK399.out 0).trans rfl) (fun hHeld => ?_)
   clear hK K
   refine norm_ (by show Act.put _ (some 5) _ = _; simp only [Act.put, sA_, sB_, sC_, i6_, i3_]; rfl) ?_
   refine one_ (i := 6) (N := none) #[ty, ty, ty, ty, ty, ty, ty, fy] rfl rfl (one_of HT_.out (by kernel_rfl)) (by decide) (fun K hK => ?_)
   have hs14 : w13.cell? ⟨gb408, 0, none⟩ = some (.slice none 0 0) := (bC_ BK408.out 0).trans rfl
   have hfs14 := bF_ BK408.out 0
   have hns14_0 := NB399_408.out
   have hns14_1 := NB400_408.out
   have hms14_0 := NB408_399.out
   have hms14_1 := NB408_400.out
   refine skip_ (w1 := ?_) (by rfl) rfl ?_ ?_
   rotate_left
   ·
    go_simp
    rfl
   refine hK.out _ _ (((cF_ (p := ⟨gb408, _, none⟩) NB399_408.out _).trans (hHeld))) (fun hHeld => ?_)
   clear hK K
   exact norm_ (by simp only [putAll, Act.put, sA_, sB_, sC_]) (hCont (v406, gb408) _ ⟨hHeld, (by exact kM_ (kG_ (kT_ HO403.out BK408.out (by decide))) (fun _ hk => trivial)), (by exact kM_ (kG_ (kT_ HO407.out BK408.out (by decide))) (fun _ hk => trivial)), (by exact br_ NB399_408.out (BK399.out)), (by exact br_ NB400_408.out (BK400.out)), (by refine bP_ (cs := #[.slice none 0 0]) ?_ 0 _ rfl; exact BK408.out), GW408.out, GW408.out, NB399_408.out, NB408_399.out, NB400_408.out, NB408_400.out, (by repeat with_reducible first | exact HB.out | apply bA_ | apply bN_ | apply bD_ | refine bS_ ?_ (Aside0.out ‹_›))⟩)
  skip
  refine box_step ?hg (N := 5) ?hd (cs := #[.slice none 0 0]) (t := 30) ?hr ?_; (case hd => rfl); (case hg => rfl); (case hr => (go_simp; done))
  intro gb408 hg w11 hbox hb
  have n0_ := k9_ HO403 hb
  have n1_ := b5_ BK399 hb
  have n2_ := b5_ BK400 hb
  have n3_ := b4_ HB hb
  have n4_ := aM_ (hbox)
  have n5_ := gw_ hg HB
  have n6_ := gw_ hg HB
  have n7_ := nb_ hg BK399
  have n8_ := aM_ ((by rw [hg]; exact Nat.ne_of_gt (bL_ BK399.out) : gb408 ≠ gb399))
  have n9_ := nb_ hg BK400
  have n10_ := aM_ ((by rw [hg]; exact Nat.ne_of_gt (bL_ BK400.out) : gb408 ≠ gb400))
  clear HO403
  clear BK399
  clear BK400
  clear HB
  have HO403 := n0_
  have BK399 := n1_
  have BK400 := n2_
  have HB := n3_
  have BK408 := n4_
  have GW408 := n5_
  have GW408 := n6_
  have NB399_408 := n7_
  have NB408_399 := n8_
  have NB400_408 := n9_
  have NB408_400 := n10_
  clear n0_ n1_ n2_ n3_ n4_ n5_ n6_ n7_ n8_ n9_ n10_
  clear hb hbox hg
  refine hK.out _ _ ((bC_ BK399.out 0).trans rfl) (fun hHeld => ?_)
  clear hK K
  refine norm_ (by show Act.put _ (some 5) _ = _; simp only [Act.put, sA_, sB_, sC_, i6_, i3_]; rfl) ?_
  refine two_ (i := 4) (j := 6) (Ni := some 20) (Nj := none) #[ty, ty, ty, ty, ty, ty, fy, fy] #[ty, ty, ty, ty, fy, ty, ty, fy] rfl rfl rfl rfl (two_of HT_.out (by kernel_rfl)) (by decide) (by decide) (fun K hK => ?_) (fun K hK => ?_)
  ·
   skip
   refine Kd.R_make_step (Kd.int .i64) _ 3 (by rfl) (N := 20) rfl 87 _ _ rfl (l0_0.length : Int) rfl rfl Tryz.underlying87 (.int .i64 0) 8 info3 rfl (by decide) (by omega) 0 (ok := fun _ => True) (okp := fun _ => True) rfl (fun _ hk => hk) trivial (oD_ ‹_›) (Nat.le_trans (Nat.mul_le_mul_right _ (oD_ ‹_› : (l0_0.length : Int).toNat ≤ 35184372088832)) (by omega)) (Below.refl _ _) (Nat.le_refl _) ?_
   intro v406 w12 ho13 hb hg_ hnew_
   clear hg_ hnew_
   (rw [← Ny405.out] at ho13)
   have n0_ := k9_ HO403 hb
   have n1_ := aM_ (k5_ ho13 (bZ_ HB.out))
   have n2_ := b5_ BK399 hb
   have n3_ := b5_ BK400 hb
   have n4_ := b5_ BK408 hb
   have n5_ := b4_ HB hb
   clear HO403
   clear BK399
   clear BK400
   clear BK408
   clear HB
   have HO403 := n0_
   have HO407 := n1_
   have BK399 := n2_
   have BK400 := n3_
   have BK408 := n4_
   have HB := n5_
   clear n0_ n1_ n2_ n3_ n4_ n5_
   clear hb ho13
   refine hK.out _ _ ((bC_ BK399.out 0).trans rfl) (fun hHeld => ?_)
   clear hK K
   refine norm_ (by show Act.put _ (some 20) _ = _; simp only [Act.put, sA_, sB_, sC_, i6_, i3_]; rfl) ?_
   refine one_ (i := 6) (N := none) #[ty, ty, ty, ty, ty, ty, ty, fy] rfl rfl (one_of HT_.out (by kernel_rfl)) (by decide) (fun K hK => ?_)
   have hs14 : w12.cell? ⟨gb408, 0, none⟩ = some (.slice none 0 0) := (bC_ BK408.out 0).trans rfl
   have hfs14 := bF_ BK408.out 0
   have hns14_0 := NB399_408.out
   have hns14_1 := NB400_408.out
   have hms14_0 := NB408_399.out
   have hms14_1 := NB408_400.out
   refine skip_ (w1 := ?_) (by rfl) rfl ?_ ?_
   rotate_left
   ·
    go_simp
    rfl
   refine hK.out _ _ (((cF_ (p := ⟨gb408, _, none⟩) NB399_408.out _).trans (hHeld))) (fun hHeld => ?_)
   clear hK K
   exact norm_ (by simp only [putAll, Act.put, sA_, sB_, sC_]) (hCont (v406, gb408) _ ⟨hHeld, (by exact kM_ (kG_ (kT_ HO403.out BK408.out (by decide))) (fun _ hk => trivial)), (by exact kM_ (kG_ (kT_ HO407.out BK408.out (by decide))) (fun _ hk => trivial)), (by exact br_ NB399_408.out (BK399.out)), (by exact br_ NB400_408.out (BK400.out)), (by refine bP_ (cs := #[.slice none 0 0]) ?_ 0 _ rfl; exact BK408.out), GW408.out, GW408.out, NB399_408.out, NB408_399.out, NB400_408.out, NB408_400.out, (by repeat with_reducible first | exact HB.out | apply bA_ | apply bN_ | apply bD_ | refine bS_ ?_ (Aside0.out ‹_›))⟩)
  skip
  have hs12 : w11.cell? ⟨gb408, 0, none⟩ = some (.slice none 0 0) := (bC_ BK408.out 0).trans rfl
  have hfs12 := bF_ BK408.out 0
  have hns12_0 := NB399_408.out
  have hns12_1 := NB400_408.out
  have hms12_0 := NB408_399.out
  have hms12_1 := NB408_400.out
  refine skip_ (w1 := ?_) (by rfl) rfl ?_ ?_
  rotate_left
  ·
   go_simp
   rfl
  refine hK.out _ _ (((cF_ (p := ⟨gb408, _, none⟩) NB399_408.out _).trans (hHeld))) (fun hHeld => ?_)
  clear hK K
  refine one_ (i := 4) (N := some 20) #[ty, ty, ty, ty, ty, ty, ty, fy] rfl rfl (one_of HT_.out (by kernel_rfl)) (by decide) (fun K hK => ?_)
  refine Kd.R_make_step (Kd.int .i64) _ 3 (by rfl) (N := 20) rfl 87 _ _ rfl (l0_0.length : Int) rfl rfl Tryz.underlying87 (.int .i64 0) 8 info3 rfl (by decide) (by omega) 0 (ok := fun _ => True) (okp := fun _ => True) rfl (fun _ hk => hk) trivial (oD_ ‹_›) (Nat.le_trans (Nat.mul_le_mul_right _ (oD_ ‹_› : (l0_0.length : Int).toNat ≤ 35184372088832)) (by omega)) (Below.refl _ _) (Nat.le_refl _) ?_
  intro v406 w13 ho14 hb hg_ hnew_
  clear hg_ hnew_
  (rw [← Ny405.out] at ho14)
  have n0_ := aM_ (kB_ (by exact (kM_ (kG_ (kT_ HO403.out BK408.out (by decide))) (fun _ h_ => h_.1))) hb)
  have n1_ := aM_ (k5_ ho14 (bZ_ (by repeat with_reducible first | exact HB.out | apply bA_ | apply bN_ | apply bD_ | refine bS_ ?_ (Aside0.out ‹_›))))
  have n2_ := aM_ (bB_ (g := gb399) (o := .cells #[.slice A0_0 l0_0.length c0_0] 36 (0, 0)) (by exact br_ NB399_408.out (BK399.out)) hb)
  have n3_ := aM_ (bB_ (g := gb400) (o := .cells #[.slice none 0 0] 30 (0, 0)) (by exact br_ NB400_408.out (BK400.out)) hb)
  have n4_ := aM_ (bB_ (g := gb408) (o := .cells #[.slice none 0 0] 30 (0, 0)) (by refine bP_ (cs := #[.slice none 0 0]) ?_ 0 _ rfl; exact BK408.out) hb)
  have n5_ := aM_ (bT_ (by repeat with_reducible first | exact HB.out | apply bA_ | apply bN_ | apply bD_ | refine bS_ ?_ (Aside0.out ‹_›)) hb)
  clear HO403
  clear BK399
  clear BK400
  clear BK408
  clear HB
  have HO403 := n0_
  have HO407 := n1_
  have BK399 := n2_
  have BK400 := n3_
  have BK408 := n4_
  have HB := n5_
  clear n0_ n1_ n2_ n3_ n4_ n5_
  clear hb ho14
  refine hK.out _ _ ((bC_ BK399.out 0).trans rfl) (fun hHeld => ?_)
  clear hK K
  refine norm_ (by show Act.put _ (some 20) _ = _; simp only [Act.put, sA_, sB_, sC_, i6_, i3_]; rfl) ?_
  exact norm_ (by simp only [putAll, Act.put, sA_, sB_, sC_]) (hCont (v406, gb408) _ ⟨hHeld, HO403.out, HO407.out, BK399.out, BK400.out, BK408.out, GW408.out, GW408.out, NB399_408.out, NB408_399.out, NB400_408.out, NB408_400.out, HB.out⟩)
 rintro ⟨v406, gb408⟩ w15 ⟨hS_, h0_, h1_, h2_, h3_, h4_, h5_, h6_, h7_, h8_, h9_, h10_, h11_⟩
 have n0_ : Aside0 (Kd.R Kd.string 9 w15 w.heap.size (fun _ => True) v402 t401) := ⟨h0_⟩
 have n1_ : Aside0 (Kd.R (Kd.int .i64) 3 w15 w.heap.size (fun _ => True) v406 y405) := ⟨h1_⟩
 have n2_ : Aside0 (w15.heap[gb399]? = some (.cells #[.slice A0_0 l0_0.length c0_0] 36 (0, 0))) := ⟨h2_⟩
 have n3_ : Aside0 (w15.heap[gb400]? = some (.cells #[.slice none 0 0] 30 (0, 0))) := ⟨h3_⟩
 have n4_ : Aside0 (w15.heap[gb408]? = some (.cells #[.slice none 0 0] 30 (0, 0))) := ⟨h4_⟩
 have n5_ : Aside0 (w.heap.size ≤ gb408) := ⟨h5_⟩
 have n6_ : Aside0 (w.heap.size ≤ gb408) := ⟨h6_⟩
 have n7_ : Aside0 (gb399 ≠ gb408) := ⟨h7_⟩
 have n8_ : Aside0 (gb408 ≠ gb399) := ⟨h8_⟩
 have n9_ : Aside0 (gb400 ≠ gb408) := ⟨h9_⟩
 have n10_ : Aside0 (gb408 ≠ gb400) := ⟨h10_⟩
 have n11_ : Aside0 (Below w.heap.size w w15) := ⟨h11_⟩
 clear HO403
 clear BK399
 clear BK400
 clear HB
 clear h0_ h1_ h2_ h3_ h4_ h5_ h6_ h7_ h8_ h9_ h10_ h11_
 have HO403 := n0_
 have HO407 := n1_
 have BK399 := n2_
 have BK400 := n3_
 have BK408 := n4_
 have GW408 := n5_
 have GW408 := n6_
 have NB399_408 := n7_
 have NB408_399 := n8_
 have NB400_408 := n9_
 have NB408_400 := n10_
 have HB := n11_
 clear n0_ n1_ n2_ n3_ n4_ n5_ n6_ n7_ n8_ n9_ n10_ n11_
 have hHeld : w15.cell? ⟨gb399, 0, none⟩ = some (.slice A0_0 l0_0.length c0_0) := hS_
 refine norm_ (a' := ?_) ?_ ?_
 rotate_left
 ·
  simp only [putAll, Act.put, sA_, sB_, sC_]
  rfl
 refine pu_ HT_ 7 6 #[ty, ty, ty, ty, ty, ty, ty, ty] ?_
 refine done_ (done_of HT_.out (by kernel_rfl)) ?_
 have hnb16 := NB399_408.out
 have hnc16 := NB408_399.out
 have hcz17_0 := c0_ BK399
 have hfz17_0 := bF_ BK399.out 0
 try go_wp2
 go_loopg [24] k (fun kq v24 w' => ∃ (x6_1 : List Int) (x24_1 : Int) (x409000_1 : List (S60)) (u409000 : Value), v24 = .int .i64 x24_1 ∧ Aside0 (iF15.l0 kq t401 x6_1 l0_0 (l0_0.length : Int) x24_1 l0_0 x409000_1 = some r) ∧ Aside0 (kq ≤ k) ∧ Aside0 (Kd.R Kd.string 9 w' w.heap.size (fun _ => True) v402 t401) ∧ Aside0 (Kd.R (Kd.int .i64) 3 w' w.heap.size (fun _ => True) v406 x6_1) ∧ Aside0 (Kd.R k60 60 w' w.heap.size (fun _ => True) u409000 x409000_1) ∧ Aside0 (w'.heap[gb399]? = some (.cells #[(.slice A0_0 l0_0.length c0_0)] 36 (0, 0))) ∧ Aside0 (w'.heap[gb400]? = some (.cells #[(.slice none 0 0)] 30 (0, 0))) ∧ Aside0 (w'.heap[gb408]? = some (.cells #[u409000] 30 (0, 0))) ∧ Aside0 (Below w.heap.size w w'))
 case atStart => exact ⟨(y405), (0), (([] : List (S60))), (.slice none 0 0), (by rfl), H', ⟨Nat.le_refl _⟩, ⟨HO403.out⟩, ⟨HO407.out⟩, ⟨by exact Kd.R_nil _ _ _ _ _⟩, ⟨BK399.out⟩, ⟨BK400.out⟩, ⟨BK408.out⟩, ⟨HB.out⟩⟩
 clear H'
 try clear p2
 try clear c3b0
 try clear c3b1
 try clear c4b0
 try clear c4b1
 try clear hcz17_0
 try clear hcz8_0
 try clear hfz17_0
 try clear hfz8_0
 obtain ⟨x6_1, x24_1, x409000_1, u409000, rfl, HA, HK1, HO_3, HO_6, HO_409000, BK399, BK400, BK408, HB⟩ := hrel
 cases gk with
 | zero => exact absurd HA.out (by simp [iF15.l0])
 | succ k1 =>
  have H := HA.out
  clear HA
  simp only [iF15.l0] at H
  by_cases c18 : x24_1 < (l0_0.length : Int)
  rotate_left
  ·
   rw [if_neg c18] at H
   have c18b0 := dF_ c18
   clear c18
   obtain rfl := Option.some.inj H
   have hnb127 := NB408_399.out
   have hnc127 := NB399_408.out
   have hnb128 := NB408_400.out
   have hnc128 := NB400_408.out
   have hcz129_0 := c0_ BK408
   have hfz129_0 := bF_ BK408.out 0
   obtain ⟨Ao130, co130, eo130⟩ := kS_ HO_409000.out
   subst eo130
   have hnb131 := NB400_399.out
   have hnc131 := NB399_400.out
   have hcz132_0 := c0_ BK400
   have hfz132_0 := bF_ BK400.out 0
   go_wp2
   refine bodyPost_ret (results_cell_row rfl _ _ gb400 30 #[.slice Ao130 x409000_1.length co130] (0, 0) _ rfl (by refine bP_ (cs := #[.slice none 0 0]) ?_ 0 _ rfl; exact BK400.out) Tryz.underlying30 rfl (by kernel_rfl)) rfl ?_
   exact ⟨_, by rfl, by exact kM_ (kG_ (kT_ HO_409000.out BK400.out (by decide))) (fun _ hk => trivial), by repeat with_reducible first | exact HB.out | apply bA_ | apply bN_ | apply bD_ | refine bS_ ?_ (Aside0.out ‹_›)⟩
  rw [if_pos c18] at H
  have c18b0 := dT_ c18
  clear c18
  by_cases c19 : 0 ≤ x24_1
  rotate_left
  ·
   rw [if_neg c19] at H
   exact absurd H (by simp)
  rw [if_pos c19] at H
  have c19b0 := dT_ c19
  clear c19
  by_cases c20 : x24_1 < (l0_0.length : Int)
  rotate_left
  ·
   rw [if_neg c20] at H
   exact absurd H (by simp)
  rw [if_pos c20] at H
  have c20b0 := dT_ c20
  clear c20
  replace H := oB_.mp H
  obtain ⟨t411, A210, H⟩ := H
  try dsimp only at H
  have A21 := aM_ A210
  clear A210
  by_cases c22 : t411 = true
  rotate_left
  ·
   replace c22 := Bool.eq_false_iff.mpr c22
   subst c22
   replace H : (iF15.l0 k1 t401 x6_1 l0_0 (l0_0.length : Int) (wrap64 (x24_1 + 1)) l0_0 x409000_1) = some r := by rw [if_neg (show ¬ (false = true) by decide)] at H; exact H
   have H' := aM_ H
   clear H
   have p409 : 0 ≤ (x24_1 : Int) := oD_ ‹_›
   have q409 : x24_1 < (l0_0.length : Int) := oD_ ‹_›
   obtain ⟨ad409, e409, hx409_0, hx409_1, hx409_2⟩ := at_T76 HR0_0.out x24_1 p409 q409
   cases e409
   replace hx409_0 := cb_ HB hx409_0
   replace hx409_1 := cb_ HB hx409_1
   replace hx409_2 := cb_ HB hx409_2
   replace p409 := eq_true p409
   replace q409 := eq_true q409
   go_wp2_with (first | (refine bx_ 8 #[.int .i64 0, .int .i64 0, .bool false] 76 ?_; intro gb410 hg w118 hbox hb; replace HO_3 := k9_ HO_3 hb; replace HO_6 := k9_ HO_6 hb; replace HO_409000 := k9_ HO_409000 hb; have BK410 := aM_ (hbox); have GW410 := gw_ hg HB; replace HB := b4_ HB hb; have NB399_410 := nb_ hg BK399; have NB410_399 := ns_ NB399_410; replace BK399 := b5_ BK399 hb; have NB400_410 := nb_ hg BK400; have NB410_400 := ns_ NB400_410; replace BK400 := b5_ BK400 hb; have NB408_410 := nb_ hg BK408; have NB410_408 := ns_ NB408_410; replace BK408 := b5_ BK408 hb; clear hb hbox hg; have hnb119 := NB410_399.out; have hnc119 := NB399_410.out; have hnb120 := NB410_400.out; have hnc120 := NB400_410.out; have hnb121 := NB410_408.out; have hnc121 := NB408_410.out; have hcz122_0 := c0_ BK410; have hcz122_1 := c1_ BK410; have hcz122_2 := c2_ BK410; have hfz122_0 := bF_ BK410.out 0; have hfz122_1 := bF_ BK410.out 1; have hfz122_2 := bF_ BK410.out 2; have hnb123 := NB399_400.out; have hnc123 := NB400_399.out; have hnb124 := NB399_408.out; have hnc124 := NB408_399.out; have hcz125_0 := c0_ BK399; have hfz125_0 := bF_ BK399.out 0) | (refine gs_ 31 Tryz.func84 #[.agg #[.slice (some ad409) l0_0.length c0_0], .int .i64 x24_1] ?_; (with_reducible refine (iF16.calls k1 _ _ l0_0 x24_1 false _ ?side1 HC0_0.out A21.out).mono ?_); (case side1 => exact k4_ HR0_0.out (by repeat with_reducible first | exact HB.out | apply bA_ | apply bN_ | apply bD_ | refine bS_ ?_ (Aside0.out ‹_›))); rintro e w126 ⟨rfl, hb⟩; refine ⟨_, rfl, ?_⟩; replace HO_3 := aM_ (kB_ (by exact (kM_ (kG_ (kG_ (kG_ (kT_ HO_3.out BK410.out (by decide))))) (fun _ h_ => h_.1))) hb); replace HO_6 := aM_ (kB_ (by exact (kM_ (kG_ (kG_ (kG_ (kT_ HO_6.out BK410.out (by decide))))) (fun _ h_ => h_.1))) hb); replace HO_409000 := aM_ (kB_ (by exact (kM_ (kG_ (kG_ (kG_ (kT_ HO_409000.out BK410.out (by decide))))) (fun _ h_ => h_.1))) hb); replace BK399 := aM_ (bB_ (g := gb399) (o := .cells #[.slice (some ad409) l0_0.length c0_0] 36 (0, 0)) (by exact br_ NB399_410.out (br_ NB399_410.out (br_ NB399_410.out (BK399.out)))) hb); replace BK400 := aM_ (bB_ (g := gb400) (o := .cells #[.slice none 0 0] 30 (0, 0)) (by exact br_ NB400_410.out (br_ NB400_410.out (br_ NB400_410.out (BK400.out)))) hb); replace BK408 := aM_ (bB_ (g := gb408) (o := .cells #[u409000] 30 (0, 0)) (by exact br_ NB408_410.out (br_ NB408_410.out (br_ NB408_410.out (BK408.out)))) hb); replace BK410 := aM_ (bB_ (g := gb410) (o := .cells #[.int .i64 ((rd_T76 l0_0 x24_1).f0), .int .i64 ((rd_T76 l0_0 x24_1).f1), .bool ((rd_T76 l0_0 x24_1).f2)] 76 (0, 0)) (by refine bP_ (cs := #[.int .i64 ((rd_T76 l0_0 x24_1).f0), .int .i64 ((rd_T76 l0_0 x24_1).f1), .bool false]) ?_ 2 _ rfl; refine bP_ (cs := #[.int .i64 ((rd_T76 l0_0 x24_1).f0), .int .i64 0, .bool false]) ?_ 1 _ rfl; refine bP_ (cs := #[.int .i64 0, .int .i64 0, .bool false]) ?_ 0 _ rfl; exact BK410.out) hb); replace HB := aM_ (bT_ (by repeat with_reducible first | exact HB.out | apply bA_ | apply bN_ | apply bD_ | refine bS_ ?_ (Aside0.out ‹_›)) hb); (try clear hb)))
   go_roundg k1
   case measure => have := HK1.out; omega
   case rel => exact ⟨(x6_1), (wrap64 (x24_1 + 1)), (x409000_1), (u409000), (by rfl), H', ⟨by have := HK1.out; omega⟩, ⟨HO_3.out⟩, ⟨HO_6.out⟩, ⟨HO_409000.out⟩, ⟨BK399.out⟩, ⟨BK400.out⟩, ⟨BK408.out⟩, ⟨HB.out⟩⟩
  subst c22
  rw [if_pos rfl] at H
  by_cases c23 : x24_1 > 0
  rotate_left
  ·
   rw [if_neg c23] at H
   have c23b0 := dF_ c23
   clear c23
   by_cases c88 : x24_1 < (x6_1.length : Int)
   rotate_left
   ·
    rw [if_neg c88] at H
    exact absurd H (by simp)
   rw [if_pos c88] at H
   have c88b0 := dT_ c88
   clear c88
   obtain ⟨y422, hy422⟩ : ∃ y_ : List Int, y_ = (x6_1.set (x24_1 : Int).toNat (x409000_1.length : Int)) := ⟨_, rfl⟩
   replace H : (if x409000_1.length < 4398046511104 then (iF15.l0 k1 t401 y422 l0_0 (l0_0.length : Int) (wrap64 (x24_1 + 1)) l0_0 (x409000_1 ++ [(⟨(⟨#[]⟩ : ByteArray), (-1), (rd_T76 l0_0 x24_1).f2⟩ : S60)])) else (none)) = some r := by (try rw [hy422]); first | with_reducible exact H | with_reducible exact oS_ H | exact H
   have Ny422 := aM_ hy422
   clear hy422
   by_cases c90 : x409000_1.length < 4398046511104
   rotate_left
   ·
    rw [if_neg c90] at H
    exact absurd H (by simp)
   rw [if_pos c90] at H
   have LMc90 := aM_ c90
   clear c90
   obtain ⟨y423, hy423⟩ : ∃ y_ : List (S60), y_ = (x409000_1 ++ [(⟨(⟨#[]⟩ : ByteArray), (-1), (rd_T76 l0_0 x24_1).f2⟩ : S60)]) := ⟨_, rfl⟩
   replace H : (iF15.l0 k1 t401 y422 l0_0 (l0_0.length : Int) (wrap64 (x24_1 + 1)) l0_0 y423) = some r := by (try rw [hy423]); first | with_reducible exact H | with_reducible exact oS_ H | exact H
   have Ny423 := aM_ hy423
   clear hy423
   have H' := aM_ H
   clear H
   have p409 : 0 ≤ (x24_1 : Int) := oD_ ‹_›
   have q409 : x24_1 < (l0_0.length : Int) := oD_ ‹_›
   obtain ⟨ad409, e409, hx409_0, hx409_1, hx409_2⟩ := at_T76 HR0_0.out x24_1 p409 q409
   cases e409
   replace hx409_0 := cb_ HB hx409_0
   replace hx409_1 := cb_ HB hx409_1
   replace hx409_2 := cb_ HB hx409_2
   replace p409 := eq_true p409
   replace q409 := eq_true q409
   go_wp2_with (first | (refine bx_ 8 #[.int .i64 0, .int .i64 0, .bool false] 76 ?_; intro gb410 hg w91 hbox hb; replace HO_3 := k9_ HO_3 hb; replace HO_6 := k9_ HO_6 hb; replace HO_409000 := k9_ HO_409000 hb; have BK410 := aM_ (hbox); have GW410 := gw_ hg HB; replace HB := b4_ HB hb; have NB399_410 := nb_ hg BK399; have NB410_399 := ns_ NB399_410; replace BK399 := b5_ BK399 hb; have NB400_410 := nb_ hg BK400; have NB410_400 := ns_ NB400_410; replace BK400 := b5_ BK400 hb; have NB408_410 := nb_ hg BK408; have NB410_408 := ns_ NB408_410; replace BK408 := b5_ BK408 hb; clear hb hbox hg; have hnb92 := NB410_399.out; have hnc92 := NB399_410.out; have hnb93 := NB410_400.out; have hnc93 := NB400_410.out; have hnb94 := NB410_408.out; have hnc94 := NB408_410.out; have hcz95_0 := c0_ BK410; have hcz95_1 := c1_ BK410; have hcz95_2 := c2_ BK410; have hfz95_0 := bF_ BK410.out 0; have hfz95_1 := bF_ BK410.out 1; have hfz95_2 := bF_ BK410.out 2; have hnb96 := NB399_400.out; have hnc96 := NB400_399.out; have hnb97 := NB399_408.out; have hnc97 := NB408_399.out; have hcz98_0 := c0_ BK399; have hfz98_0 := bF_ BK399.out 0) | (refine gs_ 31 Tryz.func84 #[.agg #[.slice (some ad409) l0_0.length c0_0], .int .i64 x24_1] ?_; (with_reducible refine (iF16.calls k1 _ _ l0_0 x24_1 true _ ?side1 HC0_0.out A21.out).mono ?_); (case side1 => exact k4_ HR0_0.out (by repeat with_reducible first | exact HB.out | apply bA_ | apply bN_ | apply bD_ | refine bS_ ?_ (Aside0.out ‹_›))); rintro e w99 ⟨rfl, hb⟩; refine ⟨_, rfl, ?_⟩; replace HO_3 := aM_ (kB_ (by exact (kM_ (kG_ (kG_ (kG_ (kT_ HO_3.out BK410.out (by decide))))) (fun _ h_ => h_.1))) hb); replace HO_6 := aM_ (kB_ (by exact (kM_ (kG_ (kG_ (kG_ (kT_ HO_6.out BK410.out (by decide))))) (fun _ h_ => h_.1))) hb); replace HO_409000 := aM_ (kB_ (by exact (kM_ (kG_ (kG_ (kG_ (kT_ HO_409000.out BK410.out (by decide))))) (fun _ h_ => h_.1))) hb); replace BK399 := aM_ (bB_ (g := gb399) (o := .cells #[.slice (some ad409) l0_0.length c0_0] 36 (0, 0)) (by exact br_ NB399_410.out (br_ NB399_410.out (br_ NB399_410.out (BK399.out)))) hb); replace BK400 := aM_ (bB_ (g := gb400) (o := .cells #[.slice none 0 0] 30 (0, 0)) (by exact br_ NB400_410.out (br_ NB400_410.out (br_ NB400_410.out (BK400.out)))) hb); replace BK408 := aM_ (bB_ (g := gb408) (o := .cells #[u409000] 30 (0, 0)) (by exact br_ NB408_410.out (br_ NB408_410.out (br_ NB408_410.out (BK408.out)))) hb); replace BK410 := aM_ (bB_ (g := gb410) (o := .cells #[.int .i64 ((rd_T76 l0_0 x24_1).f0), .int .i64 ((rd_T76 l0_0 x24_1).f1), .bool ((rd_T76 l0_0 x24_1).f2)] 76 (0, 0)) (by refine bP_ (cs := #[.int .i64 ((rd_T76 l0_0 x24_1).f0), .int .i64 ((rd_T76 l0_0 x24_1).f1), .bool false]) ?_ 2 _ rfl; refine bP_ (cs := #[.int .i64 ((rd_T76 l0_0 x24_1).f0), .int .i64 0, .bool false]) ?_ 1 _ rfl; refine bP_ (cs := #[.int .i64 0, .int .i64 0, .bool false]) ?_ 0 _ rfl; exact BK410.out) hb); replace HB := aM_ (bT_ (by repeat with_reducible first | exact HB.out | apply bA_ | apply bN_ | apply bD_ | refine bS_ ?_ (Aside0.out ‹_›)) hb); (try clear hb); have hcz100_0 := c0_ BK410; have hcz100_1 := c1_ BK410; have hcz100_2 := c2_ BK410; have hfz100_0 := bF_ BK410.out 0; have hfz100_1 := bF_ BK410.out 1; have hfz100_2 := bF_ BK410.out 2) | (refine bx_ 9 #[.string (⟨#[]⟩ : ByteArray), .int .i64 0, .bool false] 60 ?_; intro gb412 hg w101 hbox hb; replace HO_3 := k9_ HO_3 hb; replace HO_6 := k9_ HO_6 hb; replace HO_409000 := aM_ (kB_ (Kd.R_elderB HO_409000.out gb412 (Nat.le_of_eq hg.symm)) hb); have BK412 := aM_ (hbox); have GW412 := gw_ hg HB; replace HB := b4_ HB hb; have NB399_412 := nb_ hg BK399; have NB412_399 := ns_ NB399_412; replace BK399 := b5_ BK399 hb; have NB400_412 := nb_ hg BK400; have NB412_400 := ns_ NB400_412; replace BK400 := b5_ BK400 hb; have NB408_412 := nb_ hg BK408; have NB412_408 := ns_ NB408_412; replace BK408 := b5_ BK408 hb; have NB410_412 := nb_ hg BK410; have NB412_410 := ns_ NB410_412; replace BK410 := b5_ BK410 hb; clear hb hbox hg; have hnb102 := NB412_399.out; have hnc102 := NB399_412.out; have hnb103 := NB412_400.out; have hnc103 := NB400_412.out; have hnb104 := NB412_408.out; have hnc104 := NB408_412.out; have hnb105 := NB412_410.out; have hnc105 := NB410_412.out; have hcz106_0 := c0_ BK412; have hcz106_1 := c1_ BK412; have hcz106_2 := c2_ BK412; have hfz106_0 := bF_ BK412.out 0; have hfz106_1 := bF_ BK412.out 1; have hfz106_2 := bF_ BK412.out 2) | ((with_reducible refine gate_store (t := 60) (p := 9) rfl ?_); refine store_event (t := 60) (p := 9) (v := ?vo_w107) (w1 := (((w101.setCell ⟨gb412, 0, none⟩ (.string (⟨#[]⟩ : ByteArray))).setCell ⟨gb412, 1, none⟩ (.int .i64 (-1))).setCell ⟨gb412, 2, none⟩ (.bool ((rd_T76 l0_0 x24_1).f2)))) ?hg ?ho ?hn ?hr ?_; (case ho => rfl); (case hg => rfl); (case hn => rfl); (case hr => (go_simp; done)); intro w107 hw; have n0_ : Aside0 (Kd.R Kd.string 9 w107 w.heap.size (fun _ => True) v402 t401) := ⟨(by rw [hw]; exact (by exact kM_ (kG_ (kG_ (kG_ (kT_ HO_3.out BK412.out (by decide))))) (fun _ hk => trivial)))⟩; have n1_ : Aside0 (Kd.R (Kd.int .i64) 3 w107 w.heap.size (fun _ => True) v406 x6_1) := ⟨(by rw [hw]; exact (by exact kM_ (kG_ (kG_ (kG_ (kT_ HO_6.out BK412.out (by decide))))) (fun _ hk => trivial)))⟩; have n2_ : Aside0 (Kd.R k60 60 w107 w.heap.size (fun k_ => k_ ≠ gb412) u409000 x409000_1) := ⟨(by rw [hw]; exact (by exact kM_ (kF_ (p := ⟨gb412, 2, none⟩) (kF_ (p := ⟨gb412, 1, none⟩) (kF_ (p := ⟨gb412, 0, none⟩) (kM_ HO_409000.out (fun k_ hk => (⟨hk, hk.2⟩ : _ ∧ k_ ≠ gb412))) (fun _ hk => hk.2) (.string (⟨#[]⟩ : ByteArray))) (fun _ hk => hk.2) (.int .i64 (-1))) (fun _ hk => hk.2) (.bool ((rd_T76 l0_0 x24_1).f2))) (fun _ hk => hk.1.2)))⟩; have n3_ : Aside0 (w107.heap[gb399]? = some (.cells #[.slice (some ad409) l0_0.length c0_0] 36 (0, 0))) := ⟨(by rw [hw]; exact (by exact br_ NB399_412.out (br_ NB399_412.out (br_ NB399_412.out (BK399.out)))))⟩; have n4_ : Aside0 (w107.heap[gb400]? = some (.cells #[.slice none 0 0] 30 (0, 0))) := ⟨(by rw [hw]; exact (by exact br_ NB400_412.out (br_ NB400_412.out (br_ NB400_412.out (BK400.out)))))⟩; have n5_ : Aside0 (w107.heap[gb408]? = some (.cells #[u409000] 30 (0, 0))) := ⟨(by rw [hw]; exact (by exact br_ NB408_412.out (br_ NB408_412.out (br_ NB408_412.out (BK408.out)))))⟩; have n6_ : Aside0 (w107.heap[gb410]? = some (.cells #[.int .i64 ((rd_T76 l0_0 x24_1).f0), .int .i64 ((rd_T76 l0_0 x24_1).f1), .bool ((rd_T76 l0_0 x24_1).f2)] 76 (0, 0))) := ⟨(by rw [hw]; exact (by exact br_ NB410_412.out (br_ NB410_412.out (br_ NB410_412.out (BK410.out)))))⟩; have n7_ : Aside0 (w107.heap[gb412]? = some (.cells #[.string (⟨#[]⟩ : ByteArray), .int .i64 (-1), .bool ((rd_T76 l0_0 x24_1).f2)] 60 (0, 0))) := ⟨(by rw [hw]; exact (by refine bP_ (cs := #[.string (⟨#[]⟩ : ByteArray), .int .i64 (-1), .bool false]) ?_ 2 _ rfl; refine bP_ (cs := #[.string (⟨#[]⟩ : ByteArray), .int .i64 0, .bool false]) ?_ 1 _ rfl; refine bP_ (cs := #[.string (⟨#[]⟩ : ByteArray), .int .i64 0, .bool false]) ?_ 0 _ rfl; exact BK412.out))⟩; have n8_ : Aside0 (Below w.heap.size w w107) := ⟨(by rw [hw]; exact (by repeat with_reducible first | exact HB.out | apply bA_ | apply bN_ | apply bD_ | refine bS_ ?_ (Aside0.out ‹_›)))⟩; clear hw; clear HO_3; clear HO_6; clear HO_409000; clear BK399; clear BK400; clear BK408; clear BK410; clear BK412; clear HB; have HO_3 := n0_; have HO_6 := n1_; have HO_409000 := n2_; have BK399 := n3_; have BK400 := n4_; have BK408 := n5_; have BK410 := n6_; have BK412 := n7_; have HB := n8_; clear n0_ n1_ n2_ n3_ n4_ n5_ n6_ n7_ n8_; have hnb108 := NB408_400.out; have hnc108 := NB400_408.out; have hcz109_0 := c0_ BK408; have hfz109_0 := bF_ BK408.out 0; obtain ⟨Ao110, co110, eo110⟩ := kS_ HO_409000.out; subst eo110; have p89 : 0 ≤ (x24_1 : Int) := oD_ ‹_›; have q89 : (x24_1 : Int) < ((x6_1.length : Int) : Int) := oD_ ‹_›; obtain ⟨go89, co89, eo89, gb89, gl89, cl89, HG89⟩ := Kd.R_form HO_6.out (by omega); (cases eo89); have GB89 := aM_ gb89; have GG89 := aM_ HG89; clear gb89 gl89 HG89; obtain ⟨hx89_0, hf89_0⟩ := kC_ 0 HO_6.out (x24_1 : Int) p89 q89; replace p89 := eq_true p89; replace q89 := eq_true q89; obtain ⟨hy111_, hz111_⟩ := kC_ 0 HO_6.out (x24_1 : Int) (oD_ ‹_›) (oD_ ‹_›); have HP111 := Kd.R_putg HO_6.out (x24_1 : Int) (x409000_1.length : Int)) | ((with_reducible refine gate_store (t := 3) (p := 71) rfl ?_); refine store_event (t := 3) (p := 71) (v := ?vo_w112) (w1 := (w107.setCell ⟨go89, (x24_1 : Int).toNat, none⟩ (.int .i64 (x409000_1.length : Int)))) ?hg ?ho ?hn ?hr ?_; (case ho => rfl); (case hg => rfl); (case hn => rfl); (case hr => (go_simp; done)); intro w112 hw; have hg : w107.grownBy w112 (some go89) := (by rw [hw]; exact HP111.2); have hp_ : Kd.R (Kd.int .i64) 3 w112 w.heap.size (fun _ => True) (.slice (some ⟨go89, 0, none⟩) x6_1.length co89) y422 := (by rw [hw, Ny422.out]; exact HP111.1); clear HP111; replace HO_3 := aM_ (Kd.R_over' (v := (.slice (some ⟨go89, 0, none⟩) x6_1.length co89)) HO_3.out (Kd.R_typed HO_6.out) (by decide) hg); replace HO_409000 := aM_ (Kd.R_over' (v := (.slice (some ⟨go89, 0, none⟩) x6_1.length co89)) HO_409000.out (Kd.R_typed HO_6.out) (by decide) hg); replace BK399 := aM_ (blk_grown (g := gb399) (o := .cells #[.slice (some ad409) l0_0.length c0_0] 36 (0, 0)) BK399.out hg (k6_ HO_6.out BK399.out (by decide))); replace BK400 := aM_ (blk_grown (g := gb400) (o := .cells #[.slice none 0 0] 30 (0, 0)) BK400.out hg (k6_ HO_6.out BK400.out (by decide))); replace BK408 := aM_ (blk_grown (g := gb408) (o := .cells #[.slice Ao110 x409000_1.length co110] 30 (0, 0)) BK408.out hg (k6_ HO_6.out BK408.out (by decide))); replace BK410 := aM_ (blk_grown (g := gb410) (o := .cells #[.int .i64 ((rd_T76 l0_0 x24_1).f0), .int .i64 ((rd_T76 l0_0 x24_1).f1), .bool ((rd_T76 l0_0 x24_1).f2)] 76 (0, 0)) BK410.out hg (k6_ HO_6.out BK410.out (by decide))); replace BK412 := aM_ (blk_grown (g := gb412) (o := .cells #[.string (⟨#[]⟩ : ByteArray), .int .i64 (-1), .bool ((rd_T76 l0_0 x24_1).f2)] 60 (0, 0)) BK412.out hg (k6_ HO_6.out BK412.out (by decide))); replace HO_6 := aM_ (hp_); replace HB := aM_ ((by rw [hw]; exact bS_ (HB.out) GB89.out : Below w.heap.size w w112)); clear hg hw hp_; have hcz113_0 := c0_ BK408; have hfz113_0 := bF_ BK408.out 0; have hcz114_0 := c0_ BK412; have hcz114_1 := c1_ BK412; have hcz114_2 := c2_ BK412; have hfz114_0 := bF_ BK412.out 0; have hfz114_1 := bF_ BK412.out 1; have hfz114_2 := bF_ BK412.out 2) | ((with_reducible refine gate_builtin (b := .append) (xs := #[.tmp 73, .tmp 75]) rfl ?_); at_builtin; refine Kd.R_append k60 (w0 := w) w.heap.size rfl (.tmp 73) (.tmp 75) 28 60 (.agg #[(.string ⟨#[]⟩), (.int .i64 0), (.bool false)]) 32 rfl Tryz.underlying28 info60 rfl (by decide) (by omega) (.slice Ao110 x409000_1.length co110) x409000_1 (⟨(⟨#[]⟩ : ByteArray), (-1), (rd_T76 l0_0 x24_1).f2⟩ : S60) [.string (⟨#[]⟩ : ByteArray), .int .i64 (-1), .bool ((rd_T76 l0_0 x24_1).f2)] (fun k_ => k_ ≠ gb412) (fun _ => False) rfl rfl ?aP (fun _ hk => hk.elim) ?aF ?aO ?aB ?aS ?aL ?_; (case aP => exact k60_mkM _ _ _ (⟨(⟨#[]⟩ : ByteArray), (-1), (rd_T76 l0_0 x24_1).f2⟩ : S60)); (case aB => exact HB.out); (case aF => exact (fun k_ hk => Kd.freshB (g := gb412) (o := .cells #[.string (⟨#[]⟩ : ByteArray), .int .i64 (-1), .bool ((rd_T76 l0_0 x24_1).f2)] 60 (0, 0)) BK412.out k_ hk)); (case aO => exact HO_409000.out); (case aS => exact (bZ_ HB.out)); (case aL => have := LMc90.out; omega); intro v424 w115 ho hb hg hat; rw [← Ny423.out] at ho; have n0_ := aM_ (Kd.R_over' HO_3.out (Kd.R_typed HO_409000.out) (by decide) hg); have n1_ := aM_ (Kd.R_over' HO_6.out (Kd.R_typed HO_409000.out) (by decide) hg); have n2_ := aM_ (blk_grown (g := gb399) (o := .cells #[.slice (some ad409) l0_0.length c0_0] 36 (0, 0)) BK399.out hg (k6_ HO_409000.out BK399.out (by decide))); have n3_ := aM_ (blk_grown (g := gb400) (o := .cells #[.slice none 0 0] 30 (0, 0)) BK400.out hg (k6_ HO_409000.out BK400.out (by decide))); have n4_ := aM_ (blk_grown (g := gb408) (o := .cells #[.slice Ao110 x409000_1.length co110] 30 (0, 0)) BK408.out hg (k6_ HO_409000.out BK408.out (by decide))); have n5_ := aM_ (blk_grown (g := gb410) (o := .cells #[.int .i64 ((rd_T76 l0_0 x24_1).f0), .int .i64 ((rd_T76 l0_0 x24_1).f1), .bool ((rd_T76 l0_0 x24_1).f2)] 76 (0, 0)) BK410.out hg (k6_ HO_409000.out BK410.out (by decide))); have n6_ := aM_ (blk_grown (g := gb412) (o := .cells #[.string (⟨#[]⟩ : ByteArray), .int .i64 (-1), .bool ((rd_T76 l0_0 x24_1).f2)] 60 (0, 0)) BK412.out hg (Kd.R_away HO_409000.out (fun _ hk => hk))); have n7_ := aM_ (hb); have n8_ := aM_ (ho); clear HO_3; clear HO_6; clear BK399; clear BK400; clear BK408; clear BK410; clear BK412; clear HB; clear HO_409000; have HO_3 := n0_; have HO_6 := n1_; have BK399 := n2_; have BK400 := n3_; have BK408 := n4_; have BK410 := n5_; have BK412 := n6_; have HB := n7_; have HO425 := n8_; clear n0_ n1_ n2_ n3_ n4_ n5_ n6_ n7_ n8_; clear ho hb hg hat; obtain ⟨Ao116, co116, eo116⟩ := kS_ HO425.out; subst eo116; have hcz117_0 := c0_ BK408; have hfz117_0 := bF_ BK408.out 0))
   go_roundg k1
   case measure => have := HK1.out; omega
   case rel => exact ⟨(y422), (wrap64 (x24_1 + 1)), (y423), (.slice Ao116 y423.length co116), (by rfl), H', ⟨by have := HK1.out; omega⟩, ⟨by exact kM_ (kG_ (kT_ HO_3.out BK408.out (by decide))) (fun _ hk => trivial)⟩, ⟨by exact kM_ (kG_ (kT_ HO_6.out BK408.out (by decide))) (fun _ hk => trivial)⟩, ⟨by exact kM_ (kG_ (kT_ HO425.out BK408.out (by decide))) (fun _ hk => trivial)⟩, ⟨by exact br_ NB399_408.out (BK399.out)⟩, ⟨by exact br_ NB400_408.out (BK400.out)⟩, ⟨by refine bP_ (cs := #[.slice Ao110 x409000_1.length co110]) ?_ 0 _ rfl; exact BK408.out⟩, ⟨by repeat with_reducible first | exact HB.out | apply bA_ | apply bN_ | apply bD_ | refine bS_ ?_ (Aside0.out ‹_›)⟩⟩
  rw [if_pos c23] at H
  have c23b0 := dT_ c23
  clear c23
  have H' := aM_ H
  clear H
  have p409 : 0 ≤ (x24_1 : Int) := oD_ ‹_›
  have q409 : x24_1 < (l0_0.length : Int) := oD_ ‹_›
  obtain ⟨ad409, e409, hx409_0, hx409_1, hx409_2⟩ := at_T76 HR0_0.out x24_1 p409 q409
  cases e409
  replace hx409_0 := cb_ HB hx409_0
  replace hx409_1 := cb_ HB hx409_1
  replace hx409_2 := cb_ HB hx409_2
  replace p409 := eq_true p409
  replace q409 := eq_true q409
  go_wp2_with (first | (refine bx_ 8 #[.int .i64 0, .int .i64 0, .bool false] 76 ?_; intro gb410 hg w24 hbox hb; replace HO_3 := k9_ HO_3 hb; replace HO_6 := k9_ HO_6 hb; replace HO_409000 := k9_ HO_409000 hb; have BK410 := aM_ (hbox); have GW410 := gw_ hg HB; replace HB := b4_ HB hb; have NB399_410 := nb_ hg BK399; have NB410_399 := ns_ NB399_410; replace BK399 := b5_ BK399 hb; have NB400_410 := nb_ hg BK400; have NB410_400 := ns_ NB400_410; replace BK400 := b5_ BK400 hb; have NB408_410 := nb_ hg BK408; have NB410_408 := ns_ NB408_410; replace BK408 := b5_ BK408 hb; clear hb hbox hg; have hnb25 := NB410_399.out; have hnc25 := NB399_410.out; have hnb26 := NB410_400.out; have hnc26 := NB400_410.out; have hnb27 := NB410_408.out; have hnc27 := NB408_410.out; have hcz28_0 := c0_ BK410; have hcz28_1 := c1_ BK410; have hcz28_2 := c2_ BK410; have hfz28_0 := bF_ BK410.out 0; have hfz28_1 := bF_ BK410.out 1; have hfz28_2 := bF_ BK410.out 2; have hnb29 := NB399_400.out; have hnc29 := NB400_399.out; have hnb30 := NB399_408.out; have hnc30 := NB408_399.out; have hcz31_0 := c0_ BK399; have hfz31_0 := bF_ BK399.out 0) | (refine gs_ 31 Tryz.func84 #[.agg #[.slice (some ad409) l0_0.length c0_0], .int .i64 x24_1] ?_; (with_reducible refine (iF16.calls k1 _ _ l0_0 x24_1 true _ ?side1 HC0_0.out A21.out).mono ?_); (case side1 => exact k4_ HR0_0.out (by repeat with_reducible first | exact HB.out | apply bA_ | apply bN_ | apply bD_ | refine bS_ ?_ (Aside0.out ‹_›))); rintro e w32 ⟨rfl, hb⟩; refine ⟨_, rfl, ?_⟩; replace HO_3 := aM_ (kB_ (by exact (kM_ (kG_ (kG_ (kG_ (kT_ HO_3.out BK410.out (by decide))))) (fun _ h_ => h_.1))) hb); replace HO_6 := aM_ (kB_ (by exact (kM_ (kG_ (kG_ (kG_ (kT_ HO_6.out BK410.out (by decide))))) (fun _ h_ => h_.1))) hb); replace HO_409000 := aM_ (kB_ (by exact (kM_ (kG_ (kG_ (kG_ (kT_ HO_409000.out BK410.out (by decide))))) (fun _ h_ => h_.1))) hb); replace BK399 := aM_ (bB_ (g := gb399) (o := .cells #[.slice (some ad409) l0_0.length c0_0] 36 (0, 0)) (by exact br_ NB399_410.out (br_ NB399_410.out (br_ NB399_410.out (BK399.out)))) hb); replace BK400 := aM_ (bB_ (g := gb400) (o := .cells #[.slice none 0 0] 30 (0, 0)) (by exact br_ NB400_410.out (br_ NB400_410.out (br_ NB400_410.out (BK400.out)))) hb); replace BK408 := aM_ (bB_ (g := gb408) (o := .cells #[u409000] 30 (0, 0)) (by exact br_ NB408_410.out (br_ NB408_410.out (br_ NB408_410.out (BK408.out)))) hb); replace BK410 := aM_ (bB_ (g := gb410) (o := .cells #[.int .i64 ((rd_T76 l0_0 x24_1).f0), .int .i64 ((rd_T76 l0_0 x24_1).f1), .bool ((rd_T76 l0_0 x24_1).f2)] 76 (0, 0)) (by refine bP_ (cs := #[.int .i64 ((rd_T76 l0_0 x24_1).f0), .int .i64 ((rd_T76 l0_0 x24_1).f1), .bool false]) ?_ 2 _ rfl; refine bP_ (cs := #[.int .i64 ((rd_T76 l0_0 x24_1).f0), .int .i64 0, .bool false]) ?_ 1 _ rfl; refine bP_ (cs := #[.int .i64 0, .int .i64 0, .bool false]) ?_ 0 _ rfl; exact BK410.out) hb); replace HB := aM_ (bT_ (by repeat with_reducible first | exact HB.out | apply bA_ | apply bN_ | apply bD_ | refine bS_ ?_ (Aside0.out ‹_›)) hb); (try clear hb); have hcz33_0 := c0_ BK410; have hcz33_1 := c1_ BK410; have hcz33_2 := c2_ BK410; have hfz33_0 := bF_ BK410.out 0; have hfz33_1 := bF_ BK410.out 1; have hfz33_2 := bF_ BK410.out 2) | (refine bx_ 9 #[.string (⟨#[]⟩ : ByteArray), .int .i64 0, .bool false] 60 ?_; intro gb412 hg w34 hbox hb; replace HO_3 := k9_ HO_3 hb; replace HO_6 := k9_ HO_6 hb; replace HO_409000 := aM_ (kB_ (Kd.R_elderB HO_409000.out gb412 (Nat.le_of_eq hg.symm)) hb); have BK412 := aM_ (hbox); have GW412 := gw_ hg HB; replace HB := b4_ HB hb; have NB399_412 := nb_ hg BK399; have NB412_399 := ns_ NB399_412; replace BK399 := b5_ BK399 hb; have NB400_412 := nb_ hg BK400; have NB412_400 := ns_ NB400_412; replace BK400 := b5_ BK400 hb; have NB408_412 := nb_ hg BK408; have NB412_408 := ns_ NB408_412; replace BK408 := b5_ BK408 hb; have NB410_412 := nb_ hg BK410; have NB412_410 := ns_ NB410_412; replace BK410 := b5_ BK410 hb; clear hb hbox hg; have hnb35 := NB412_399.out; have hnc35 := NB399_412.out; have hnb36 := NB412_400.out; have hnc36 := NB400_412.out; have hnb37 := NB412_408.out; have hnc37 := NB408_412.out; have hnb38 := NB412_410.out; have hnc38 := NB410_412.out; have hcz39_0 := c0_ BK412; have hcz39_1 := c1_ BK412; have hcz39_2 := c2_ BK412; have hfz39_0 := bF_ BK412.out 0; have hfz39_1 := bF_ BK412.out 1; have hfz39_2 := bF_ BK412.out 2; have hcz40_0 := c0_ BK410; have hcz40_1 := c1_ BK410; have hcz40_2 := c2_ BK410; have hfz40_0 := bF_ BK410.out 0; have hfz40_1 := bF_ BK410.out 1; have hfz40_2 := bF_ BK410.out 2))
  go_loopg [10] k1 (fun kq v10 w' => ∃ (x10_2 : Int), v10 = .int .i64 x10_2 ∧ Aside0 (iF15.l1 kq t401 x6_1 x24_1 x10_2 l0_0 (l0_0.length : Int) x24_1 l0_0 x409000_1 (⟨#[]⟩ : ByteArray) (-1) ((rd_T76 l0_0 x24_1).f2) = some r) ∧ Aside0 (kq ≤ k1) ∧ Aside0 (Kd.R Kd.string 9 w' w.heap.size (fun _ => True) v402 t401) ∧ Aside0 (Kd.R (Kd.int .i64) 3 w' w.heap.size (fun _ => True) v406 x6_1) ∧ Aside0 (Kd.R k60 60 w' w.heap.size (fun k_ => k_ ≠ gb412) u409000 x409000_1) ∧ Aside0 (w'.heap[gb399]? = some (.cells #[(.slice (some ad409) l0_0.length c0_0)] 36 (0, 0))) ∧ Aside0 (w'.heap[gb400]? = some (.cells #[(.slice none 0 0)] 30 (0, 0))) ∧ Aside0 (w'.heap[gb408]? = some (.cells #[u409000] 30 (0, 0))) ∧ Aside0 (w'.heap[gb410]? = some (.cells #[.int .i64 ((rd_T76 l0_0 x24_1).f0), .int .i64 ((rd_T76 l0_0 x24_1).f1), .bool ((rd_T76 l0_0 x24_1).f2)] 76 (0, 0))) ∧ Aside0 (w'.heap[gb412]? = some (.cells #[.string (⟨#[]⟩ : ByteArray), .int .i64 (-1), .bool ((rd_T76 l0_0 x24_1).f2)] 60 (0, 0))) ∧ Aside0 (Below w.heap.size w w'))
  case atStart => exact ⟨((rd_T76 l0_0 x24_1).f1), (by rfl), H', ⟨Nat.le_refl _⟩, ⟨by exact kM_ (kG_ (kG_ (kG_ (kT_ HO_3.out BK412.out (by decide))))) (fun _ hk => trivial)⟩, ⟨by exact kM_ (kG_ (kG_ (kG_ (kT_ HO_6.out BK412.out (by decide))))) (fun _ hk => trivial)⟩, ⟨by exact kM_ (kF_ (p := ⟨gb412, 2, none⟩) (kF_ (p := ⟨gb412, 1, none⟩) (kF_ (p := ⟨gb412, 0, none⟩) (kM_ HO_409000.out (fun k_ hk => (⟨hk, hk.2⟩ : _ ∧ k_ ≠ gb412))) (fun _ hk => hk.2) (.string (⟨#[]⟩ : ByteArray))) (fun _ hk => hk.2) (.int .i64 (-1))) (fun _ hk => hk.2) (.bool ((rd_T76 l0_0 x24_1).f2))) (fun _ hk => hk.1.2)⟩, ⟨by exact br_ NB399_412.out (br_ NB399_412.out (br_ NB399_412.out (BK399.out)))⟩, ⟨by exact br_ NB400_412.out (br_ NB400_412.out (br_ NB400_412.out (BK400.out)))⟩, ⟨by exact br_ NB408_412.out (br_ NB408_412.out (br_ NB408_412.out (BK408.out)))⟩, ⟨by exact br_ NB410_412.out (br_ NB410_412.out (br_ NB410_412.out (BK410.out)))⟩, ⟨by refine bP_ (cs := #[.string (⟨#[]⟩ : ByteArray), .int .i64 (-1), .bool false]) ?_ 2 _ rfl; refine bP_ (cs := #[.string (⟨#[]⟩ : ByteArray), .int .i64 0, .bool false]) ?_ 1 _ rfl; refine bP_ (cs := #[.string (⟨#[]⟩ : ByteArray), .int .i64 0, .bool false]) ?_ 0 _ rfl; exact BK412.out⟩, ⟨by repeat with_reducible first | exact HB.out | apply bA_ | apply bN_ | apply bD_ | refine bS_ ?_ (Aside0.out ‹_›)⟩⟩
  clear H'
  try clear p2
  try clear c3b0
  try clear c3b1
  try clear c4b0
  try clear c4b1
  try clear p4
  try clear q4
  try clear hx4
  try clear p6
  try clear c18b0
  try clear c19b0
  try clear c20b0
  try clear c23b0
  try clear p40
  try clear q40
  try clear hx40
  try clear hcz17_0
  try clear hcz28_0
  try clear hcz28_1
  try clear hcz28_2
  try clear hcz31_0
  try clear hcz33_0
  try clear hcz33_1
  try clear hcz33_2
  try clear hcz39_0
  try clear hcz39_1
  try clear hcz39_2
  try clear hcz40_0
  try clear hcz40_1
  try clear hcz40_2
  try clear hcz8_0
  try clear hfz17_0
  try clear hfz28_0
  try clear hfz28_1
  try clear hfz28_2
  try clear hfz31_0
  try clear hfz33_0
  try clear hfz33_1
  try clear hfz33_2
  try clear hfz39_0
  try clear hfz39_1
  try clear hfz39_2
  try clear hfz40_0
  try clear hfz40_1
  try clear hfz40_2
  try clear hfz8_0
  try clear hx409_0
  try clear hx409_1
  try clear hx409_2
  try clear p2
  try clear p409
  try clear q409
  obtain ⟨x10_2, rfl, HA, HK2, HO_3, HO_6, HO_409000, BK399, BK400, BK408, BK410, BK412, HB⟩ := hrel
  cases gk with
  | zero => exact absurd HA.out (by simp [iF15.l1])
  | succ k2 =>
   have H := HA.out
   clear HA
   simp only [iF15.l1] at H
   replace H := oB_.mp H
   obtain ⟨t413, A410, H⟩ := H
   try dsimp only at H
   have A41 := aM_ A410
   clear A410
   by_cases c42 : t413 = true
   rotate_left
   ·
    replace c42 := Bool.eq_false_iff.mpr c42
    subst c42
    replace H : (if 0 ≤ x10_2 then (if x10_2 < (l0_0.length : Int) then (iF15.l1 k2 t401 x6_1 x24_1 ((rd_T76 l0_0 x10_2).f1) l0_0 (l0_0.length : Int) x24_1 l0_0 x409000_1 (⟨#[]⟩ : ByteArray) (-1) ((rd_T76 l0_0 x24_1).f2)) else (none)) else (none)) = some r := by rw [if_neg (show ¬ (false = true) by decide)] at H; exact H
    by_cases c79 : 0 ≤ x10_2
    rotate_left
    ·
     rw [if_neg c79] at H
     exact absurd H (by simp)
    rw [if_pos c79] at H
    have c79b0 := dT_ c79
    clear c79
    by_cases c80 : x10_2 < (l0_0.length : Int)
    rotate_left
    ·
     rw [if_neg c80] at H
     exact absurd H (by simp)
    rw [if_pos c80] at H
    have c80b0 := dT_ c80
    clear c80
    have H' := aM_ H
    clear H
    have hnb81 := NB399_400.out
    have hnc81 := NB400_399.out
    have hnb82 := NB399_408.out
    have hnc82 := NB408_399.out
    have hnb83 := NB399_410.out
    have hnc83 := NB410_399.out
    have hnb84 := NB399_412.out
    have hnc84 := NB412_399.out
    have hcz85_0 := c0_ BK399
    have hfz85_0 := bF_ BK399.out 0
    go_wp2_with (first | (refine gs_ 42 Tryz.func84 #[.agg #[.slice (some ad409) l0_0.length c0_0], .int .i64 x10_2] ?_; (with_reducible refine (iF16.calls k2 _ _ l0_0 x10_2 false _ ?side1 HC0_0.out A41.out).mono ?_); (case side1 => repeat (first | exact (k4_ HR0_0.out HB.out) | with_reducible first | apply cA_ | apply cN_ | apply cD_)); rintro e w86 ⟨rfl, hb⟩; refine ⟨_, rfl, ?_⟩; replace HO_3 := k9_ HO_3 hb; replace HO_6 := k9_ HO_6 hb; replace HO_409000 := k9_ HO_409000 hb; replace BK399 := b5_ BK399 hb; replace BK400 := b5_ BK400 hb; replace BK408 := b5_ BK408 hb; replace BK410 := b5_ BK410 hb; replace BK412 := aM_ (bB_ (g := gb412) (o := .cells #[.string (⟨#[]⟩ : ByteArray), .int .i64 (-1), .bool ((rd_T76 l0_0 x24_1).f2)] 60 (0, 0)) BK412.out hb); replace HB := b4_ HB hb; (try clear hb); have hcz87_0 := c0_ BK399; have hfz87_0 := bF_ BK399.out 0; have p421 : 0 ≤ (x10_2 : Int) := oD_ ‹_›; have q421 : x10_2 < (l0_0.length : Int) := oD_ ‹_›; obtain ⟨ad421, e421, hx421_0, hx421_1, hx421_2⟩ := at_T76 HR0_0.out x10_2 p421 q421; obtain rfl : ad409 = ad421 := (by injection e421); replace hx421_0 := cb_ HB hx421_0; replace hx421_1 := cb_ HB hx421_1; replace hx421_2 := cb_ HB hx421_2; replace p421 := eq_true p421; replace q421 := eq_true q421))
    go_roundg k2
    case measure => have := HK1.out; have := HK2.out; omega
    case rel => exact ⟨((rd_T76 l0_0 x10_2).f1), (by rfl), H', ⟨by have := HK1.out; have := HK2.out; omega⟩, ⟨HO_3.out⟩, ⟨HO_6.out⟩, ⟨HO_409000.out⟩, ⟨BK399.out⟩, ⟨BK400.out⟩, ⟨BK408.out⟩, ⟨BK410.out⟩, ⟨BK412.out⟩, ⟨HB.out⟩⟩
   subst c42
   rw [if_pos rfl] at H
   by_cases c43 : 0 ≤ x24_1
   rotate_left
   ·
    rw [if_neg c43] at H
    exact absurd H (by simp)
   rw [if_pos c43] at H
   have c43b0 := dT_ c43
   clear c43
   by_cases c44 : x24_1 < (t401.length : Int)
   rotate_left
   ·
    rw [if_neg c44] at H
    exact absurd H (by simp)
   rw [if_pos c44] at H
   have c44b0 := dT_ c44
   clear c44
   by_cases c45 : 0 ≤ x10_2
   rotate_left
   ·
    rw [if_neg c45] at H
    exact absurd H (by simp)
   rw [if_pos c45] at H
   have c45b0 := dT_ c45
   clear c45
   by_cases c46 : x10_2 < (t401.length : Int)
   rotate_left
   ·
    rw [if_neg c46] at H
    exact absurd H (by simp)
   rw [if_pos c46] at H
   have c46b0 := dT_ c46
   clear c46
   by_cases c47 : 0 ≤ ((rdOf eB_ t401 x10_2).size : Int)
   rotate_left
   ·
    rw [if_neg c47] at H
    exact absurd H (by simp)
   rw [if_pos c47] at H
   have c47b0 := eq_true c47
   have c47b1 := dT_ c47
   clear c47
   by_cases c48 : ((rdOf eB_ t401 x10_2).size : Int) ≤ ((rdOf eB_ t401 x24_1).size : Int)
   rotate_left
   ·
    rw [if_neg c48] at H
    exact absurd H (by simp)
   rw [if_pos c48] at H
   have c48b0 := eq_true c48
   have c48b1 := dT_ c48
   clear c48
   by_cases c49 : x10_2 < (x6_1.length : Int)
   rotate_left
   ·
    rw [if_neg c49] at H
    exact absurd H (by simp)
   rw [if_pos c49] at H
   have c49b0 := dT_ c49
   clear c49
   by_cases c50 : x24_1 < (x6_1.length : Int)
   rotate_left
   ·
    rw [if_neg c50] at H
    exact absurd H (by simp)
   rw [if_pos c50] at H
   have c50b0 := dT_ c50
   clear c50
   obtain ⟨y417, hy417⟩ : ∃ y_ : List Int, y_ = (x6_1.set (x24_1 : Int).toNat (x409000_1.length : Int)) := ⟨_, rfl⟩
   replace H : (if x409000_1.length < 4398046511104 then (iF15.l0 k2 t401 y417 l0_0 (l0_0.length : Int) (wrap64 (x24_1 + 1)) l0_0 (x409000_1 ++ [(⟨(rdOf eB_ t401 x24_1).extract (((rdOf eB_ t401 x10_2).size : Int) : Int).toNat (rdOf eB_ t401 x24_1).size, rd x6_1 x10_2, ((rd_T76 l0_0 x24_1).f2)⟩ : S60)])) else (none)) = some r := by (try rw [hy417]); first | with_reducible exact H | with_reducible exact oS_ H | exact H
   have Ny417 := aM_ hy417
   clear hy417
   by_cases c52 : x409000_1.length < 4398046511104
   rotate_left
   ·
    rw [if_neg c52] at H
    exact absurd H (by simp)
   rw [if_pos c52] at H
   have LMc52 := aM_ c52
   clear c52
   obtain ⟨y418, hy418⟩ : ∃ y_ : List (S60), y_ = (x409000_1 ++ [(⟨(rdOf eB_ t401 x24_1).extract (((rdOf eB_ t401 x10_2).size : Int) : Int).toNat (rdOf eB_ t401 x24_1).size, rd x6_1 x10_2, ((rd_T76 l0_0 x24_1).f2)⟩ : S60)]) := ⟨_, rfl⟩
   replace H : (iF15.l0 k2 t401 y417 l0_0 (l0_0.length : Int) (wrap64 (x24_1 + 1)) l0_0 y418) = some r := by (try rw [hy418]); first | with_reducible exact H | with_reducible exact oS_ H | exact H
   have Ny418 := aM_ hy418
   clear hy418
   have H' := aM_ H
   clear H
   have hnb53 := NB399_400.out
   have hnc53 := NB400_399.out
   have hnb54 := NB399_408.out
   have hnc54 := NB408_399.out
   have hnb55 := NB399_410.out
   have hnc55 := NB410_399.out
   have hnb56 := NB399_412.out
   have hnc56 := NB412_399.out
   have hcz57_0 := c0_ BK399
   have hfz57_0 := bF_ BK399.out 0
   try go_wp2_with (first | (refine gs_ 42 Tryz.func84 #[.agg #[.slice (some ad409) l0_0.length c0_0], .int .i64 x10_2] ?_; (with_reducible refine (iF16.calls k2 _ _ l0_0 x10_2 true _ ?side1 HC0_0.out A41.out).mono ?_); (case side1 => repeat (first | exact (k4_ HR0_0.out HB.out) | with_reducible first | apply cA_ | apply cN_ | apply cD_)); rintro e w58 ⟨rfl, hb⟩; refine ⟨_, rfl, ?_⟩; replace HO_3 := k9_ HO_3 hb; replace HO_6 := k9_ HO_6 hb; replace HO_409000 := k9_ HO_409000 hb; replace BK399 := b5_ BK399 hb; replace BK400 := b5_ BK400 hb; replace BK408 := b5_ BK408 hb; replace BK410 := b5_ BK410 hb; replace BK412 := aM_ (bB_ (g := gb412) (o := .cells #[.string (⟨#[]⟩ : ByteArray), .int .i64 (-1), .bool ((rd_T76 l0_0 x24_1).f2)] 60 (0, 0)) BK412.out hb); replace HB := b4_ HB hb; (try clear hb)))
   have n0_ := aM_ (k3_ HO_3.out)
   have n1_ := aM_ (k3_ HO_6.out)
   have n2_ := aM_ (k3_ HO_409000.out)
   have n3_ := aM_ (b1_ BK399.out)
   have n4_ := aM_ (b1_ BK400.out)
   have n5_ := aM_ (b1_ BK408.out)
   have n6_ := aM_ (b1_ BK410.out)
   have n7_ := aM_ (b1_ BK412.out)
   have n8_ := aM_ (bD_ HB.out)
   clear HO_3
   clear HO_6
   clear HO_409000
   clear BK399
   clear BK400
   clear BK408
   clear BK410
   clear BK412
   clear HB
   have HO_3 := n0_
   have HO_6 := n1_
   have HO_409000 := n2_
   have BK399 := n3_
   have BK400 := n4_
   have BK408 := n5_
   have BK410 := n6_
   have BK412 := n7_
   have HB := n8_
   clear n0_ n1_ n2_ n3_ n4_ n5_ n6_ n7_ n8_
   obtain ⟨Ao60, co60, eo60⟩ := kS_ HO_3.out
   (subst eo60)
   have p414 : 0 ≤ (x24_1 : Int) := oD_ ‹_›
   have q414 : x24_1 < (t401.length : Int) := oD_ ‹_›
   obtain ⟨ad414, e414, hx414_0⟩ := Kd.at_string (kR_ HO_3.out).2.2 x24_1 p414 q414
   cases e414
   replace p414 := eq_true p414
   replace q414 := eq_true q414
   have p415 : 0 ≤ (x10_2 : Int) := oD_ ‹_›
   have q415 : x10_2 < (t401.length : Int) := oD_ ‹_›
   obtain ⟨ad415, e415, hx415_0⟩ := Kd.at_string (kR_ HO_3.out).2.2 x10_2 p415 q415
   obtain rfl : ad414 = ad415 := (by injection e415)
   replace p415 := eq_true p415
   replace q415 := eq_true q415
   obtain ⟨Ao61, co61, eo61⟩ := kS_ HO_6.out
   (subst eo61)
   have p416 : 0 ≤ (x10_2 : Int) := oD_ ‹_›
   have q416 : x10_2 < (x6_1.length : Int) := oD_ ‹_›
   obtain ⟨ad416, e416, hx416_0⟩ := Kd.at_int (kR_ HO_6.out).2.2 x10_2 p416 q416
   cases e416
   replace p416 := eq_true p416
   replace q416 := eq_true q416
   refine start_ (n := 18) (S := fun w' => w'.cell? (ad414.add (x24_1).toNat) = some (.string (rdOf eB_ t401 x24_1)) ∧ w'.cell? (ad414.add (x10_2).toNat) = some (.string (rdOf eB_ t401 x10_2)) ∧ w'.cell? (ad416.add (x10_2).toNat) = some (.int .i64 (rd x6_1 x10_2))) (ds := []) #[fy, fy, fy, fy, fy, fy, fy, fy, fy, fy, fy, fy, fy, fy, fy, fy, fy, fy] (by kernel_rfl) rfl rfl ⟨hx414_0, hx415_0, hx416_0⟩ (fun hHeld => ?_); refine with_tabW iF15.tab12 iF15.bits12 (fun HT_ HW_ => ?_)
   generalize w58.drew = w59 at HO_3 HO_6 HO_409000 BK399 BK400 BK408 BK410 BK412 HB hx414_0 hx415_0 hx416_0 hHeld ⊢
   refine pu_ HT_ 0 50 #[ty, fy, fy, fy, fy, fy, fy, fy, fy, fy, fy, fy, fy, fy, fy, fy, fy, fy] ?_
   refine pu_ HT_ 1 51 #[ty, ty, fy, fy, fy, fy, fy, fy, fy, fy, fy, fy, fy, fy, fy, fy, fy, fy] ?_
   refine pu_ HT_ 2 52 #[ty, ty, ty, fy, fy, fy, fy, fy, fy, fy, fy, fy, fy, fy, fy, fy, fy, fy] ?_
   refine pu_ HT_ 4 54 #[ty, ty, ty, fy, ty, fy, fy, fy, fy, fy, fy, fy, fy, fy, fy, fy, fy, fy] ?_
   refine pu_ HT_ 5 55 #[ty, ty, ty, fy, ty, ty, fy, fy, fy, fy, fy, fy, fy, fy, fy, fy, fy, fy] ?_
   refine pu_ HT_ 6 56 #[ty, ty, ty, fy, ty, ty, ty, fy, fy, fy, fy, fy, fy, fy, fy, fy, fy, fy] ?_
   refine pu_ HT_ 10 60 #[ty, ty, ty, fy, ty, ty, ty, fy, fy, fy, ty, fy, fy, fy, fy, fy, fy, fy] ?_
   refine pu_ HT_ 11 61 #[ty, ty, ty, fy, ty, ty, ty, fy, fy, fy, ty, ty, fy, fy, fy, fy, fy, fy] ?_
   refine pu_ HT_ 12 62 #[ty, ty, ty, fy, ty, ty, ty, fy, fy, fy, ty, ty, ty, fy, fy, fy, fy, fy] ?_
   refine tk_ HT_ HW_ 3 53 #[ty, ty, ty, ty, ty, ty, ty, fy, fy, fy, ty, ty, ty, fy, fy, fy, fy, fy] hHeld ?_ (hr := by rintro w' ⟨s0, s1, s2⟩; go_simp; with_reducible rfl)
   refine tk_ HT_ HW_ 7 57 #[ty, ty, ty, ty, ty, ty, ty, ty, fy, fy, ty, ty, ty, fy, fy, fy, fy, fy] hHeld ?_ (hr := by rintro w' ⟨s0, s1, s2⟩; go_simp; with_reducible rfl)
   refine pu_ HT_ 8 58 #[ty, ty, ty, ty, ty, ty, ty, ty, ty, fy, ty, ty, ty, fy, fy, fy, fy, fy] ?_
   refine pu_ HT_ 9 59 #[ty, ty, ty, ty, ty, ty, ty, ty, ty, ty, ty, ty, ty, fy, fy, fy, fy, fy] ?_
   refine pu_ HT_ 14 64 #[ty, ty, ty, ty, ty, ty, ty, ty, ty, ty, ty, ty, ty, fy, ty, fy, fy, fy] ?_
   refine tk_ HT_ HW_ 13 63 #[ty, ty, ty, ty, ty, ty, ty, ty, ty, ty, ty, ty, ty, ty, ty, fy, fy, fy] hHeld ?_ (hr := by rintro w' ⟨s0, s1, s2⟩; go_simp; with_reducible rfl)
   refine one_ (i := 15) (N := none) #[ty, ty, ty, ty, ty, ty, ty, ty, ty, ty, ty, ty, ty, ty, ty, ty, fy, fy] rfl rfl (one_of HT_.out (by kernel_rfl)) (by decide) (fun K hK => ?_)
   have hs62 : w59.cell? ⟨gb412, 0, none⟩ = some (.string (⟨#[]⟩ : ByteArray)) := (bC_ BK412.out 0).trans rfl
   have hfs62 := bF_ BK412.out 0
   have hns62_0 := NB399_412.out
   have hns62_1 := NB400_412.out
   have hns62_2 := NB408_412.out
   have hns62_3 := NB410_412.out
   have hms62_0 := NB412_399.out
   have hms62_1 := NB412_400.out
   have hms62_2 := NB412_408.out
   have hms62_3 := NB412_410.out
   refine skip_ (w1 := ?_) (by rfl) rfl ?_ ?_
   rotate_left
   ·
    go_simp
    rfl
   refine hK.out _ _ ⟨((cF_ (p := ⟨gb412, _, none⟩) (by (rw [add_block]; exact k7_ (k6_ HO_3.out BK412.out (by decide)))) _).trans (hHeld.1)), ((cF_ (p := ⟨gb412, _, none⟩) (by (rw [add_block]; exact k7_ (k6_ HO_3.out BK412.out (by decide)))) _).trans (hHeld.2.1)), ((cF_ (p := ⟨gb412, _, none⟩) (by (rw [add_block]; exact k7_ (k6_ HO_6.out BK412.out (by decide)))) _).trans (hHeld.2.2))⟩ (fun hHeld => ?_)
   clear hK K
   refine pu_ HT_ 16 65 #[ty, ty, ty, ty, ty, ty, ty, ty, ty, ty, ty, ty, ty, ty, ty, ty, ty, fy] ?_
   refine one_ (i := 17) (N := none) #[ty, ty, ty, ty, ty, ty, ty, ty, ty, ty, ty, ty, ty, ty, ty, ty, ty, ty] rfl rfl (one_of HT_.out (by kernel_rfl)) (by decide) (fun K hK => ?_)
   have hs63 : w59.cell? ⟨gb412, 1, none⟩ = some (.int .i64 (-1)) := (bC_ BK412.out 1).trans rfl
   have hfs63 := bF_ BK412.out 1
   have hns63_0 := NB399_412.out
   have hns63_1 := NB400_412.out
   have hns63_2 := NB408_412.out
   have hns63_3 := NB410_412.out
   have hms63_0 := NB412_399.out
   have hms63_1 := NB412_400.out
   have hms63_2 := NB412_408.out
   have hms63_3 := NB412_410.out
   refine skip_ (w1 := ?_) (by rfl) rfl ?_ ?_
   rotate_left
   ·
    go_simp
    rfl
   refine hK.out _ _ ⟨((cF_ (p := ⟨gb412, _, none⟩) (by (rw [add_block]; exact k7_ (k6_ HO_3.out BK412.out (by decide)))) _).trans (hHeld.1)), ((cF_ (p := ⟨gb412, _, none⟩) (by (rw [add_block]; exact k7_ (k6_ HO_3.out BK412.out (by decide)))) _).trans (hHeld.2.1)), ((cF_ (p := ⟨gb412, _, none⟩) (by (rw [add_block]; exact k7_ (k6_ HO_6.out BK412.out (by decide)))) _).trans (hHeld.2.2))⟩ (fun hHeld => ?_)
   clear hK K
   refine done_ (done_of HT_.out (by kernel_rfl)) ?_
   have n0_ : Aside0 (Kd.R Kd.string 9 ((w59.setCell ⟨gb412, 0, none⟩ (.string ((rdOf eB_ t401 x24_1).extract (((rdOf eB_ t401 x10_2).size : Int) : Int).toNat (rdOf eB_ t401 x24_1).size))).setCell ⟨gb412, 1, none⟩ (.int .i64 (rd x6_1 x10_2))) w.heap.size (fun _ => True) (.slice (some ad414) t401.length co60) t401) := ⟨by exact kM_ (kG_ (kG_ (kT_ HO_3.out BK412.out (by decide)))) (fun _ hk => trivial)⟩
   have n1_ : Aside0 (Kd.R (Kd.int .i64) 3 ((w59.setCell ⟨gb412, 0, none⟩ (.string ((rdOf eB_ t401 x24_1).extract (((rdOf eB_ t401 x10_2).size : Int) : Int).toNat (rdOf eB_ t401 x24_1).size))).setCell ⟨gb412, 1, none⟩ (.int .i64 (rd x6_1 x10_2))) w.heap.size (fun _ => True) (.slice (some ad416) x6_1.length co61) x6_1) := ⟨by exact kM_ (kG_ (kG_ (kT_ HO_6.out BK412.out (by decide)))) (fun _ hk => trivial)⟩
   have n2_ : Aside0 (Kd.R k60 60 ((w59.setCell ⟨gb412, 0, none⟩ (.string ((rdOf eB_ t401 x24_1).extract (((rdOf eB_ t401 x10_2).size : Int) : Int).toNat (rdOf eB_ t401 x24_1).size))).setCell ⟨gb412, 1, none⟩ (.int .i64 (rd x6_1 x10_2))) w.heap.size (fun k_ => k_ ≠ gb412) u409000 x409000_1) := ⟨by exact kM_ (kF_ (p := ⟨gb412, 1, none⟩) (kF_ (p := ⟨gb412, 0, none⟩) (kM_ HO_409000.out (fun k_ hk => (⟨hk, hk⟩ : _ ∧ k_ ≠ gb412))) (fun _ hk => hk.2) (.string ((rdOf eB_ t401 x24_1).extract (((rdOf eB_ t401 x10_2).size : Int) : Int).toNat (rdOf eB_ t401 x24_1).size))) (fun _ hk => hk.2) (.int .i64 (rd x6_1 x10_2))) (fun _ hk => hk.1)⟩
   have n3_ : Aside0 (((w59.setCell ⟨gb412, 0, none⟩ (.string ((rdOf eB_ t401 x24_1).extract (((rdOf eB_ t401 x10_2).size : Int) : Int).toNat (rdOf eB_ t401 x24_1).size))).setCell ⟨gb412, 1, none⟩ (.int .i64 (rd x6_1 x10_2))).heap[gb399]? = some (.cells #[.slice (some ad409) l0_0.length c0_0] 36 (0, 0))) := ⟨by exact br_ NB399_412.out (br_ NB399_412.out (BK399.out))⟩
   have n4_ : Aside0 (((w59.setCell ⟨gb412, 0, none⟩ (.string ((rdOf eB_ t401 x24_1).extract (((rdOf eB_ t401 x10_2).size : Int) : Int).toNat (rdOf eB_ t401 x24_1).size))).setCell ⟨gb412, 1, none⟩ (.int .i64 (rd x6_1 x10_2))).heap[gb400]? = some (.cells #[.slice none 0 0] 30 (0, 0))) := ⟨by exact br_ NB400_412.out (br_ NB400_412.out (BK400.out))⟩
   have n5_ : Aside0 (((w59.setCell ⟨gb412, 0, none⟩ (.string ((rdOf eB_ t401 x24_1).extract (((rdOf eB_ t401 x10_2).size : Int) : Int).toNat (rdOf eB_ t401 x24_1).size))).setCell ⟨gb412, 1, none⟩ (.int .i64 (rd x6_1 x10_2))).heap[gb408]? = some (.cells #[u409000] 30 (0, 0))) := ⟨by exact br_ NB408_412.out (br_ NB408_412.out (BK408.out))⟩
   have n6_ : Aside0 (((w59.setCell ⟨gb412, 0, none⟩ (.string ((rdOf eB_ t401 x24_1).extract (((rdOf eB_ t401 x10_2).size : Int) : Int).toNat (rdOf eB_ t401 x24_1).size))).setCell ⟨gb412, 1, none⟩ (.int .i64 (rd x6_1 x10_2))).heap[gb410]? = some (.cells #[.int .i64 ((rd_T76 l0_0 x24_1).f0), .int .i64 ((rd_T76 l0_0 x24_1).f1), .bool ((rd_T76 l0_0 x24_1).f2)] 76 (0, 0))) := ⟨by exact br_ NB410_412.out (br_ NB410_412.out (BK410.out))⟩
   have n7_ : Aside0 (((w59.setCell ⟨gb412, 0, none⟩ (.string ((rdOf eB_ t401 x24_1).extract (((rdOf eB_ t401 x10_2).size : Int) : Int).toNat (rdOf eB_ t401 x24_1).size))).setCell ⟨gb412, 1, none⟩ (.int .i64 (rd x6_1 x10_2))).heap[gb412]? = some (.cells #[.string ((rdOf eB_ t401 x24_1).extract (((rdOf eB_ t401 x10_2).size : Int) : Int).toNat (rdOf eB_ t401 x24_1).size), .int .i64 (rd x6_1 x10_2), .bool ((rd_T76 l0_0 x24_1).f2)] 60 (0, 0))) := ⟨by refine bP_ (cs := #[.string ((rdOf eB_ t401 x24_1).extract (((rdOf eB_ t401 x10_2).size : Int) : Int).toNat (rdOf eB_ t401 x24_1).size), .int .i64 (-1), .bool ((rd_T76 l0_0 x24_1).f2)]) ?_ 1 _ rfl; refine bP_ (cs := #[.string (⟨#[]⟩ : ByteArray), .int .i64 (-1), .bool ((rd_T76 l0_0 x24_1).f2)]) ?_ 0 _ rfl; exact BK412.out⟩
   have n8_ : Aside0 (Below w.heap.size w ((w59.setCell ⟨gb412, 0, none⟩ (.string ((rdOf eB_ t401 x24_1).extract (((rdOf eB_ t401 x10_2).size : Int) : Int).toNat (rdOf eB_ t401 x24_1).size))).setCell ⟨gb412, 1, none⟩ (.int .i64 (rd x6_1 x10_2)))) := ⟨by repeat with_reducible first | exact HB.out | apply bA_ | apply bN_ | apply bD_ | refine bS_ ?_ (Aside0.out ‹_›)⟩
   (try clear HO_3)
   (try clear HO_6)
   (try clear HO_409000)
   (try clear BK399)
   (try clear BK400)
   (try clear BK408)
   (try clear BK410)
   (try clear BK412)
   (try clear HB)
   (try rw [← Int.toNat_natCast (rdOf eB_ t401 x10_2).size])
   generalize ((w59.setCell ⟨gb412, 0, none⟩ (.string ((rdOf eB_ t401 x24_1).extract (((rdOf eB_ t401 x10_2).size : Int) : Int).toNat (rdOf eB_ t401 x24_1).size))).setCell ⟨gb412, 1, none⟩ (.int .i64 (rd x6_1 x10_2))) = w64 at n0_ n1_ n2_ n3_ n4_ n5_ n6_ n7_ n8_ ⊢
   have HO_3 := n0_
   have HO_6 := n1_
   have HO_409000 := n2_
   have BK399 := n3_
   have BK400 := n4_
   have BK408 := n5_
   have BK410 := n6_
   have BK412 := n7_
   have HB := n8_
   clear n0_ n1_ n2_ n3_ n4_ n5_ n6_ n7_ n8_
   have hnb65 := NB408_400.out
   have hnc65 := NB400_408.out
   have hnb66 := NB408_410.out
   have hnc66 := NB410_408.out
   have hnb67 := NB408_412.out
   have hnc67 := NB412_408.out
   have hcz68_0 := c0_ BK408
   have hfz68_0 := bF_ BK408.out 0
   obtain ⟨Ao69, co69, eo69⟩ := kS_ HO_409000.out
   subst eo69
   have p51 : 0 ≤ (x24_1 : Int) := oD_ ‹_›
   have q51 : (x24_1 : Int) < ((x6_1.length : Int) : Int) := oD_ ‹_›
   obtain ⟨go51, co51, eo51, gb51, gl51, cl51, HG51⟩ := Kd.R_form HO_6.out (by omega)
   (cases eo51)
   have GB51 := aM_ gb51
   have GG51 := aM_ HG51
   clear gb51 gl51 HG51
   (simp only [add_plain] at hx416_0)
   (try simp only [Int.toNat_natCast] at hx416_0)
   obtain ⟨hx51_0, hf51_0⟩ := kC_ 0 HO_6.out (x24_1 : Int) p51 q51
   (try simp only [Int.toNat_natCast] at hx51_0 hf51_0)
   replace p51 := eq_true p51
   replace q51 := eq_true q51
   obtain ⟨hy70_, hz70_⟩ := kC_ 0 HO_6.out (x24_1 : Int) (oD_ ‹_›) (oD_ ‹_›)
   have HP70 := Kd.R_putg HO_6.out (x24_1 : Int) (x409000_1.length : Int)
   try go_wp2_with (first | ((with_reducible refine gate_store (t := 3) (p := 71) rfl ?_); refine store_event (t := 3) (p := 71) (v := ?vo_w71) (w1 := (w64.setCell ⟨go51, (x24_1 : Int).toNat, none⟩ (.int .i64 (x409000_1.length : Int)))) ?hg ?ho ?hn ?hr ?_; (case ho => rfl); (case hg => rfl); (case hn => rfl); (case hr => (go_simp; done)); intro w71 hw; have hg : w64.grownBy w71 (some go51) := (by rw [hw]; exact HP70.2); have hp_ : Kd.R (Kd.int .i64) 3 w71 w.heap.size (fun _ => True) (.slice (some ⟨go51, 0, none⟩) x6_1.length co61) y417 := (by rw [hw, Ny417.out]; exact HP70.1); clear HP70; replace HO_3 := aM_ (Kd.R_over' (v := (.slice (some ⟨go51, 0, none⟩) x6_1.length co61)) HO_3.out (Kd.R_typed HO_6.out) (by decide) hg); replace HO_409000 := aM_ (Kd.R_over' (v := (.slice (some ⟨go51, 0, none⟩) x6_1.length co61)) HO_409000.out (Kd.R_typed HO_6.out) (by decide) hg); replace BK399 := aM_ (blk_grown (g := gb399) (o := .cells #[.slice (some ad409) l0_0.length c0_0] 36 (0, 0)) BK399.out hg (k6_ HO_6.out BK399.out (by decide))); replace BK400 := aM_ (blk_grown (g := gb400) (o := .cells #[.slice none 0 0] 30 (0, 0)) BK400.out hg (k6_ HO_6.out BK400.out (by decide))); replace BK408 := aM_ (blk_grown (g := gb408) (o := .cells #[.slice Ao69 x409000_1.length co69] 30 (0, 0)) BK408.out hg (k6_ HO_6.out BK408.out (by decide))); replace BK410 := aM_ (blk_grown (g := gb410) (o := .cells #[.int .i64 ((rd_T76 l0_0 x24_1).f0), .int .i64 ((rd_T76 l0_0 x24_1).f1), .bool ((rd_T76 l0_0 x24_1).f2)] 76 (0, 0)) BK410.out hg (k6_ HO_6.out BK410.out (by decide))); replace BK412 := aM_ (blk_grown (g := gb412) (o := .cells #[.string ((rdOf eB_ t401 x24_1).extract (((rdOf eB_ t401 x10_2).size : Int) : Int).toNat (rdOf eB_ t401 x24_1).size), .int .i64 (rd x6_1 x10_2), .bool ((rd_T76 l0_0 x24_1).f2)] 60 (0, 0)) BK412.out hg (k6_ HO_6.out BK412.out (by decide))); replace HO_6 := aM_ (hp_); replace HB := aM_ ((by rw [hw]; exact bS_ (HB.out) GB51.out : Below w.heap.size w w71)); clear hg hw hp_; have hcz72_0 := c0_ BK408; have hfz72_0 := bF_ BK408.out 0; have hnb73 := NB412_400.out; have hnc73 := NB400_412.out; have hnb74 := NB412_410.out; have hnc74 := NB410_412.out; have hcz75_0 := c0_ BK412; have hcz75_1 := c1_ BK412; have hcz75_2 := c2_ BK412; have hfz75_0 := bF_ BK412.out 0; have hfz75_1 := bF_ BK412.out 1; have hfz75_2 := bF_ BK412.out 2) | ((with_reducible refine gate_builtin (b := .append) (xs := #[.tmp 73, .tmp 75]) rfl ?_); at_builtin; refine Kd.R_append k60 (w0 := w) w.heap.size rfl (.tmp 73) (.tmp 75) 28 60 (.agg #[(.string ⟨#[]⟩), (.int .i64 0), (.bool false)]) 32 rfl Tryz.underlying28 info60 rfl (by decide) (by omega) (.slice Ao69 x409000_1.length co69) x409000_1 (⟨(rdOf eB_ t401 x24_1).extract (((rdOf eB_ t401 x10_2).size : Int) : Int).toNat (rdOf eB_ t401 x24_1).size, rd x6_1 x10_2, ((rd_T76 l0_0 x24_1).f2)⟩ : S60) [.string ((rdOf eB_ t401 x24_1).extract (((rdOf eB_ t401 x10_2).size : Int) : Int).toNat (rdOf eB_ t401 x24_1).size), .int .i64 (rd x6_1 x10_2), .bool ((rd_T76 l0_0 x24_1).f2)] (fun k_ => k_ ≠ gb412) (fun _ => False) rfl rfl ?aP (fun _ hk => hk.elim) ?aF ?aO ?aB ?aS ?aL ?_; (case aP => exact k60_mkM _ _ _ (⟨(rdOf eB_ t401 x24_1).extract (((rdOf eB_ t401 x10_2).size : Int) : Int).toNat (rdOf eB_ t401 x24_1).size, rd x6_1 x10_2, ((rd_T76 l0_0 x24_1).f2)⟩ : S60)); (case aB => exact HB.out); (case aF => exact (fun k_ hk => Kd.freshB (g := gb412) (o := .cells #[.string ((rdOf eB_ t401 x24_1).extract (((rdOf eB_ t401 x10_2).size : Int) : Int).toNat (rdOf eB_ t401 x24_1).size), .int .i64 (rd x6_1 x10_2), .bool ((rd_T76 l0_0 x24_1).f2)] 60 (0, 0)) BK412.out k_ hk)); (case aO => exact HO_409000.out); (case aS => exact (bZ_ HB.out)); (case aL => have := LMc52.out; omega); intro v419 w76 ho hb hg hat; rw [← Ny418.out] at ho; have n0_ := aM_ (Kd.R_over' HO_3.out (Kd.R_typed HO_409000.out) (by decide) hg); have n1_ := aM_ (Kd.R_over' HO_6.out (Kd.R_typed HO_409000.out) (by decide) hg); have n2_ := aM_ (blk_grown (g := gb399) (o := .cells #[.slice (some ad409) l0_0.length c0_0] 36 (0, 0)) BK399.out hg (k6_ HO_409000.out BK399.out (by decide))); have n3_ := aM_ (blk_grown (g := gb400) (o := .cells #[.slice none 0 0] 30 (0, 0)) BK400.out hg (k6_ HO_409000.out BK400.out (by decide))); have n4_ := aM_ (blk_grown (g := gb408) (o := .cells #[.slice Ao69 x409000_1.length co69] 30 (0, 0)) BK408.out hg (k6_ HO_409000.out BK408.out (by decide))); have n5_ := aM_ (blk_grown (g := gb410) (o := .cells #[.int .i64 ((rd_T76 l0_0 x24_1).f0), .int .i64 ((rd_T76 l0_0 x24_1).f1), .bool ((rd_T76 l0_0 x24_1).f2)] 76 (0, 0)) BK410.out hg (k6_ HO_409000.out BK410.out (by decide))); have n6_ := aM_ (blk_grown (g := gb412) (o := .cells #[.string ((rdOf eB_ t401 x24_1).extract (((rdOf eB_ t401 x10_2).size : Int) : Int).toNat (rdOf eB_ t401 x24_1).size), .int .i64 (rd x6_1 x10_2), .bool ((rd_T76 l0_0 x24_1).f2)] 60 (0, 0)) BK412.out hg (Kd.R_away HO_409000.out (fun _ hk => hk))); have n7_ := aM_ (hb); have n8_ := aM_ (ho); clear HO_3; clear HO_6; clear BK399; clear BK400; clear BK408; clear BK410; clear BK412; clear HB; clear HO_409000; have HO_3 := n0_; have HO_6 := n1_; have BK399 := n2_; have BK400 := n3_; have BK408 := n4_; have BK410 := n5_; have BK412 := n6_; have HB := n7_; have HO420 := n8_; clear n0_ n1_ n2_ n3_ n4_ n5_ n6_ n7_ n8_; clear ho hb hg hat; obtain ⟨Ao77, co77, eo77⟩ := kS_ HO420.out; subst eo77; have hcz78_0 := c0_ BK408; have hfz78_0 := bF_ BK408.out 0))
   go_roundg k2
   case measure => have := HK1.out; have := HK2.out; omega
   case rel => exact ⟨(y417), (wrap64 (x24_1 + 1)), (y418), (.slice Ao77 y418.length co77), (by rfl), H', ⟨by have := HK1.out; have := HK2.out; omega⟩, ⟨by exact kM_ (kG_ (kT_ HO_3.out BK408.out (by decide))) (fun _ hk => trivial)⟩, ⟨by exact kM_ (kG_ (kT_ HO_6.out BK408.out (by decide))) (fun _ hk => trivial)⟩, ⟨by exact kM_ (kG_ (kT_ HO420.out BK408.out (by decide))) (fun _ hk => trivial)⟩, ⟨by exact br_ NB399_408.out (BK399.out)⟩, ⟨by exact br_ NB400_408.out (BK400.out)⟩, ⟨by refine bP_ (cs := #[.slice Ao69 x409000_1.length co69]) ?_ 0 _ rfl; exact BK408.out⟩, ⟨by repeat with_reducible first | exact HB.out | apply bA_ | apply bN_ | apply bD_ | refine bS_ ?_ (Aside0.out ‹_›)⟩⟩
def iF10.l0 : Nat → List ByteArray → List ByteArray → List (S60) → Int → Int → List (S60) → Option ((List (S76)) × Bool)
 | 0, _, _, _, _, _, _ => none
 | k + 1, x4, x6, x20, x21, x22, x427000 => if x22 < x21 then (if 0 ≤ x22 then (if x22 < (x20.length : Int) then (if (rd_T60 x20 x22).f2 = true then (if x22 < (x4.length : Int) then (if x6.length < 8796093022208 then (iF10.l0 k x4 (x6 ++ [rdOf eB_ x4 x22]) x20 x21 (wrap64 (x22 + 1)) x427000) else (none)) else (none)) else (iF10.l0 k x4 x6 x20 x21 (wrap64 (x22 + 1)) x427000)) else (none)) else (none)) else ((iF26.f k x6).bind fun bt441 => (if bt441.2 = true then ((iF15.f k bt441.1).bind fun t446 => ((iF6.f k t446 x427000).bind fun t449 => (if t449 = true then (some (bt441.1, true)) else (some (([] : List (S76)), false))))) else (some (([] : List (S76)), false))))
def iF10.f (k : Nat) (l0_0 : List (S60)) : Option ((List (S76)) × Bool) := (iF11.f k l0_0).bind fun bt428 => (if bt428.2 = true then (iF10.l0 k bt428.1 (([] : List ByteArray)) l0_0 (l0_0.length : Int) 0 l0_0) else (some (([] : List (S76)), false)))
theorem iF10.mono_l : ∀ k, (∀ y0 y1 y2 y3 y4 y5, LeO (iF10.l0 k y0 y1 y2 y3 y4 y5) (iF10.l0 (k + 1) y0 y1 y2 y3 y4 y5))
 | 0 => fun _ _ _ _ _ _ r h => by simp [iF10.l0] at h
 | k + 1 => by
  have ih0 := iF10.mono_l k
  intro y0 y1 y2 y3 y4 y5
  unfold iF10.l0
  repeat' with_reducible first | exact ih0 _ _ _ _ _ _ | exact iF6.mono _ _ _ | exact iF11.mono _ _ | exact iF15.mono _ _ | exact iF26.mono _ _ | exact l3_ _ | exact l0_ _ | refine l2_ ?_ ?_ | refine l1_ ?_ (fun _ => ?_)
theorem iF10.mono : ∀ a0 k, LeO (iF10.f k a0) (iF10.f (k + 1) a0) := by
 intro a0 k
 have ih0 := iF10.mono_l k
 unfold iF10.f
 repeat' with_reducible first | exact ih0 _ _ _ _ _ _ | exact iF6.mono _ _ _ | exact iF11.mono _ _ | exact iF15.mono _ _ | exact iF26.mono _ _ | exact l3_ _ | exact l0_ _ | refine l2_ ?_ ?_ | refine l1_ ?_ (fun _ => ?_)
def iF10.T12 : Bool × List (List Nat × List Nat) := (true, [([], []), ([0], [0]), ([1], [1]), ([2], [2]), ([3, 2, 2], [2, 3]), ([4, 2], [2, 4]), ([2], [2]), ([6, 2], [2, 6]), ([5, 7, 4, 2], [2, 5, 7]), ([8, 2], [2, 8]), ([2, 9], [2, 9])])
def iF10.B12 : List Nat := [0, 1, 3, 7, 15, 31, 7, 71, 255, 511, 1023]
theorem iF10.tab12 : rtab .any (opsOf Tryz.f33 12) = iF10.T12 := by kernel_rfl
theorem iF10.bits12 : waitsOk iF10.T12.2 iF10.B12 = true := by kernel_rfl
theorem iF10.calls (k : Nat) (A0_0 : Option Addr) (c0_0 : Nat) (l0_0 : List (S60)) (r1 : List (S76)) (r2 : Bool) (w : World) (hr0_0 : Kd.C k60 w A0_0 l0_0.length l0_0) (hc0_0 : l0_0.length ≤ c0_0) (h : iF10.f k l0_0 = some (r1, r2)) :
  Calls Tryz.prog 33 #[.agg #[.slice A0_0 l0_0.length c0_0]] w fun e w' => ∃ v0_ : Value, e = .returned (.tuple #[.agg #[v0_], .bool r2]) ∧ Kd.R k76 76 w' w.heap.size (fun _ => True) v0_ r1 ∧ Below w.heap.size w w' := by
 have hu30 := Tryz.underlying30
 have hfd : ∀ (a_ : Option Addr) (n_ c_ : Nat) (W_ : World), (Instr.field 30 (.agg #[.slice a_ n_ c_]) 0).run Tryz.prog W_ = .ok (.slice a_ n_ c_) W_ := fun a_ n_ c_ W_ => by first | rfl | kernel_rfl
 have hu36 := Tryz.underlying36
 have hu60 := Tryz.underlying60
 have HR0_0 := aM_ hr0_0
 have HC0_0 := aM_ hc0_0
 clear hr0_0 hc0_0
 have HB := aM_ (Below.refl w.heap.size w)
 have H : ((iF11.f k l0_0).bind fun bt428 => (if bt428.2 = true then (iF10.l0 k bt428.1 (([] : List ByteArray)) l0_0 (l0_0.length : Int) 0 l0_0) else (some (([] : List (S76)), false)))) = some (r1, r2) := h
 clear h
 replace H := oB_.mp H
 obtain ⟨⟨t428, t431⟩, A20, H⟩ := H
 try dsimp only at H
 have A2 := aM_ A20
 clear A20
 by_cases c3 : t431 = true
 rotate_left
 ·
  replace c3 := Bool.eq_false_iff.mpr c3
  subst c3
  replace H : (some (([] : List (S76)), false)) = some (r1, r2) := by rw [if_neg (show ¬ (false = true) by decide)] at H; exact H
  simp only [Option.some.injEq, Prod.mk.injEq] at H
  obtain ⟨rfl, rfl⟩ := H
  go_enter Tryz.func33, Tryz.ntmps33
  go_wp2_with (first | (refine bx_ 1 #[.slice A0_0 l0_0.length c0_0] 30 ?_; intro gb426 hg w72 hbox hb; have BK426 := aM_ (hbox); have GW426 := gw_ hg HB; replace HB := b4_ HB hb; clear hb hbox hg) | (refine bx_ 2 #[.slice none 0 0] 36 ?_; intro gb427 hg w73 hbox hb; have BK427 := aM_ (hbox); have GW427 := gw_ hg HB; replace HB := b4_ HB hb; have NB426_427 := nb_ hg BK426; have NB427_426 := ns_ NB426_427; replace BK426 := b5_ BK426 hb; clear hb hbox hg; have hnb74 := NB426_427.out; have hnc74 := NB427_426.out; have hcz75_0 := c0_ BK426; have hfz75_0 := bF_ BK426.out 0) | (refine gs_ 12 Tryz.func36 #[.agg #[.slice A0_0 l0_0.length c0_0]] ?_; (with_reducible refine (iF11.calls k _ _ l0_0 t428 false _ ?side1 HC0_0.out A2.out).mono ?_); (case side1 => repeat (first | exact (k4_ HR0_0.out HB.out) | with_reducible first | apply cA_ | apply cN_ | apply cD_)); rintro e w76 ⟨v429, rfl, ho0, hb⟩; refine ⟨_, rfl, ?_⟩; have HO430 := aM_ (k5_ ho0 (bZ_ HB.out)); replace BK426 := b5_ BK426 hb; replace BK427 := b5_ BK427 hb; replace HB := b4_ HB hb; (try clear hb); (try clear ho0); have hcz77_0 := c0_ BK427; have hfz77_0 := bF_ BK427.out 0))
  refine bodyPost_ret (results_ct rfl _ _ gb427 36 #[.slice none 0 0] (0, 0) _ rfl (by refine bP_ (cs := #[.slice none 0 0]) ?_ 0 _ rfl; exact BK427.out) Tryz.underlying36 rfl (by kernel_rfl)) rfl ?_
  exact ⟨_, by rfl, by exact Kd.R_nil _ _ _ _ _, by repeat with_reducible first | exact HB.out | apply bA_ | apply bN_ | apply bD_ | refine bS_ ?_ (Aside0.out ‹_›)⟩
 subst c3
 rw [if_pos rfl] at H
 obtain ⟨y432, hy432⟩ : ∃ y_ : List ByteArray, y_ = (([] : List ByteArray)) := ⟨_, rfl⟩
 replace H : (iF10.l0 k t428 y432 l0_0 (l0_0.length : Int) 0 l0_0) = some (r1, r2) := by (try rw [hy432]); first | with_reducible exact H | with_reducible exact oS_ H | exact H
 have Ny432 := aM_ hy432
 clear hy432
 have H' := aM_ H
 clear H
 go_enter Tryz.func33, Tryz.ntmps33
 go_wp2_with (first | (refine bx_ 1 #[.slice A0_0 l0_0.length c0_0] 30 ?_; intro gb426 hg w4 hbox hb; have BK426 := aM_ (hbox); have GW426 := gw_ hg HB; replace HB := b4_ HB hb; clear hb hbox hg) | (refine bx_ 2 #[.slice none 0 0] 36 ?_; intro gb427 hg w5 hbox hb; have BK427 := aM_ (hbox); have GW427 := gw_ hg HB; replace HB := b4_ HB hb; have NB426_427 := nb_ hg BK426; have NB427_426 := ns_ NB426_427; replace BK426 := b5_ BK426 hb; clear hb hbox hg; have hnb6 := NB426_427.out; have hnc6 := NB427_426.out; have hcz7_0 := c0_ BK426; have hfz7_0 := bF_ BK426.out 0) | (refine gs_ 12 Tryz.func36 #[.agg #[.slice A0_0 l0_0.length c0_0]] ?_; (with_reducible refine (iF11.calls k _ _ l0_0 t428 true _ ?side1 HC0_0.out A2.out).mono ?_); (case side1 => repeat (first | exact (k4_ HR0_0.out HB.out) | with_reducible first | apply cA_ | apply cN_ | apply cD_)); rintro e w8 ⟨v429, rfl, ho0, hb⟩; refine ⟨_, rfl, ?_⟩; have HO430 := aM_ (k5_ ho0 (bZ_ HB.out)); replace BK426 := b5_ BK426 hb; replace BK427 := b5_ BK427 hb; replace HB := b4_ HB hb; (try clear hb); (try clear ho0)) | ((with_reducible refine gD_ (N := 18) rfl ?_); refine Kd.R_lit Kd.string _ 9 ?hg (N := 18) ?hd (xs := ([] : List ByteArray)) (inner := []) (ok := fun _ => True) (okp := fun _ => True) ?hr ?hp (fun _ hk => hk) trivial (Below.refl _ _) (Nat.le_refl _) (by simp) ?_; (case hd => rfl); (case hg => rfl); (case hr => (go_simp; done)); (case hp => exact (Reps.none _ _)); intro v433 w9 ho10 hb hg_ hnew_; clear hg_ hnew_; (rw [← Ny432.out] at ho10); have HO434 := aM_ (k5_ (Kd.R_new' ho10 (Kd.R_lt HO430.out)) (bZ_ HB.out)); replace HO430 := aM_ (Kd.R_elder' HO430.out (Kd.R_base ho10) hb); replace BK426 := b5_ BK426 hb; replace BK427 := b5_ BK427 hb; replace HB := b4_ HB hb; clear hb ho10; have hcz11_0 := c0_ BK426; have hfz11_0 := bF_ BK426.out 0))
 go_loopg [6, 22] k (fun kq v6 v22 w' => ∃ (x6_1 : List ByteArray) (x22_1 : Int), v22 = .int .i64 x22_1 ∧ Aside0 (iF10.l0 kq t428 x6_1 l0_0 (l0_0.length : Int) x22_1 l0_0 = some (r1, r2)) ∧ Aside0 (kq ≤ k) ∧ Aside0 (Kd.R Kd.string 9 w' w.heap.size (fun k_ => some k_ ≠ (v6 : Value).ownBlock) v429 t428) ∧ Aside0 (Kd.R Kd.string 9 w' w.heap.size (fun k_ => some k_ ≠ (v429 : Value).ownBlock) v6 x6_1) ∧ Aside0 (w'.heap[gb426]? = some (.cells #[(.slice A0_0 l0_0.length c0_0)] 30 (0, 0))) ∧ Aside0 (w'.heap[gb427]? = some (.cells #[(.slice none 0 0)] 36 (0, 0))) ∧ Aside0 (Below w.heap.size w w'))
 case atStart => exact ⟨(y432), (0), (by rfl), H', ⟨Nat.le_refl _⟩, ⟨by exact kM_ HO430.out (fun _ hk => hk.2)⟩, ⟨by exact kM_ HO434.out (fun _ hk => hk.2)⟩, ⟨BK426.out⟩, ⟨BK427.out⟩, ⟨HB.out⟩⟩
 clear H'
 try clear p2
 try clear hcz11_0
 try clear hcz7_0
 try clear hfz11_0
 try clear hfz7_0
 obtain ⟨x6_1, x22_1, rfl, HA, HK1, HO_4, HO_6, BK426, BK427, HB⟩ := hrel
 cases gk with
 | zero => exact absurd HA.out (by simp [iF10.l0])
 | succ k1 =>
  have H := HA.out
  clear HA
  simp only [iF10.l0] at H
  by_cases c12 : x22_1 < (l0_0.length : Int)
  ·
   rw [if_pos c12] at H
   have c12b0 := dT_ c12
   clear c12
   by_cases c13 : 0 ≤ x22_1
   rotate_left
   ·
    rw [if_neg c13] at H
    exact absurd H (by simp)
   rw [if_pos c13] at H
   have c13b0 := dT_ c13
   clear c13
   by_cases c14 : x22_1 < (l0_0.length : Int)
   rotate_left
   ·
    rw [if_neg c14] at H
    exact absurd H (by simp)
   rw [if_pos c14] at H
   have c14b0 := dT_ c14
   clear c14
   obtain ⟨bq15, hbq15⟩ : ∃ b_ : Bool, b_ = ((rd_T60 l0_0 x22_1).f2) := ⟨_, rfl⟩
   replace H : (if bq15 = true then (if x22_1 < (t428.length : Int) then (if x6_1.length < 8796093022208 then (iF10.l0 k1 t428 (x6_1 ++ [rdOf eB_ t428 x22_1]) l0_0 (l0_0.length : Int) (wrap64 (x22_1 + 1)) l0_0) else (none)) else (none)) else (iF10.l0 k1 t428 x6_1 l0_0 (l0_0.length : Int) (wrap64 (x22_1 + 1)) l0_0)) = some (r1, r2) := by rw [← hbq15] at H; exact H
   have Nbq15 := aM_ hbq15
   clear hbq15
   by_cases c16 : bq15 = true
   rotate_left
   ·
    replace c16 := Bool.eq_false_iff.mpr c16
    subst c16
    replace H : (iF10.l0 k1 t428 x6_1 l0_0 (l0_0.length : Int) (wrap64 (x22_1 + 1)) l0_0) = some (r1, r2) := by rw [if_neg (show ¬ (false = true) by decide)] at H; exact H
    have H' := aM_ H
    clear H
    have p435 : 0 ≤ (x22_1 : Int) := oD_ ‹_›
    have q435 : x22_1 < (l0_0.length : Int) := oD_ ‹_›
    obtain ⟨ad435, e435, hx435_0, hx435_1, hx435_2⟩ := at_T60 HR0_0.out x22_1 p435 q435
    (try rw [← Nbq15.out] at hx435_2)
    cases e435
    replace hx435_0 := cb_ HB hx435_0
    replace hx435_1 := cb_ HB hx435_1
    replace hx435_2 := cb_ HB hx435_2
    replace p435 := eq_true p435
    replace q435 := eq_true q435
    go_wp2_with (first | (refine bx_ 8 #[.string (⟨#[]⟩ : ByteArray), .int .i64 0, .bool false] 60 ?_; intro gb436 hg w25 hbox hb; replace HO_4 := k9_ HO_4 hb; replace HO_6 := k9_ HO_6 hb; have BK436 := aM_ (hbox); have GW436 := gw_ hg HB; replace HB := b4_ HB hb; have NB426_436 := nb_ hg BK426; have NB436_426 := ns_ NB426_436; replace BK426 := b5_ BK426 hb; have NB427_436 := nb_ hg BK427; have NB436_427 := ns_ NB427_436; replace BK427 := b5_ BK427 hb; clear hb hbox hg; have hnb26 := NB436_426.out; have hnc26 := NB426_436.out; have hnb27 := NB436_427.out; have hnc27 := NB427_436.out; have hcz28_0 := c0_ BK436; have hcz28_1 := c1_ BK436; have hcz28_2 := c2_ BK436; have hfz28_0 := bF_ BK436.out 0; have hfz28_1 := bF_ BK436.out 1; have hfz28_2 := bF_ BK436.out 2))
    go_roundg k1
    case measure => have := HK1.out; omega
    case rel => exact ⟨(x6_1), (wrap64 (x22_1 + 1)), (by rfl), H', ⟨by have := HK1.out; omega⟩, ⟨by exact kM_ (kG_ (kG_ (kG_ (kT_ HO_4.out BK436.out (by decide))))) (fun _ hk => hk.1)⟩, ⟨by exact kM_ (kG_ (kG_ (kG_ (kT_ HO_6.out BK436.out (by decide))))) (fun _ hk => hk.1)⟩, ⟨by exact br_ NB426_436.out (br_ NB426_436.out (br_ NB426_436.out (BK426.out)))⟩, ⟨by exact br_ NB427_436.out (br_ NB427_436.out (br_ NB427_436.out (BK427.out)))⟩, ⟨by repeat with_reducible first | exact HB.out | apply bA_ | apply bN_ | apply bD_ | refine bS_ ?_ (Aside0.out ‹_›)⟩⟩
   subst c16
   rw [if_pos rfl] at H
   by_cases c17 : x22_1 < (t428.length : Int)
   rotate_left
   ·
    rw [if_neg c17] at H
    exact absurd H (by simp)
   rw [if_pos c17] at H
   have c17b0 := dT_ c17
   clear c17
   by_cases c18 : x6_1.length < 8796093022208
   rotate_left
   ·
    rw [if_neg c18] at H
    exact absurd H (by simp)
   rw [if_pos c18] at H
   have LMc18 := aM_ c18
   clear c18
   obtain ⟨y438, hy438⟩ : ∃ y_ : List ByteArray, y_ = (x6_1 ++ [rdOf eB_ t428 x22_1]) := ⟨_, rfl⟩
   replace H : (iF10.l0 k1 t428 y438 l0_0 (l0_0.length : Int) (wrap64 (x22_1 + 1)) l0_0) = some (r1, r2) := by (try rw [hy438]); first | with_reducible exact H | with_reducible exact oS_ H | exact H
   have Ny438 := aM_ hy438
   clear hy438
   have H' := aM_ H
   clear H
   have p435 : 0 ≤ (x22_1 : Int) := oD_ ‹_›
   have q435 : x22_1 < (l0_0.length : Int) := oD_ ‹_›
   obtain ⟨ad435, e435, hx435_0, hx435_1, hx435_2⟩ := at_T60 HR0_0.out x22_1 p435 q435
   (try rw [← Nbq15.out] at hx435_2)
   cases e435
   replace hx435_0 := cb_ HB hx435_0
   replace hx435_1 := cb_ HB hx435_1
   replace hx435_2 := cb_ HB hx435_2
   replace p435 := eq_true p435
   replace q435 := eq_true q435
   go_wp2_with (first | (refine bx_ 8 #[.string (⟨#[]⟩ : ByteArray), .int .i64 0, .bool false] 60 ?_; intro gb436 hg w19 hbox hb; replace HO_4 := k9_ HO_4 hb; replace HO_6 := k9_ HO_6 hb; have BK436 := aM_ (hbox); have GW436 := gw_ hg HB; replace HB := b4_ HB hb; have NB426_436 := nb_ hg BK426; have NB436_426 := ns_ NB426_436; replace BK426 := b5_ BK426 hb; have NB427_436 := nb_ hg BK427; have NB436_427 := ns_ NB427_436; replace BK427 := b5_ BK427 hb; clear hb hbox hg; have hnb20 := NB436_426.out; have hnc20 := NB426_436.out; have hnb21 := NB436_427.out; have hnc21 := NB427_436.out; have hcz22_0 := c0_ BK436; have hcz22_1 := c1_ BK436; have hcz22_2 := c2_ BK436; have hfz22_0 := bF_ BK436.out 0; have hfz22_1 := bF_ BK436.out 1; have hfz22_2 := bF_ BK436.out 2; obtain ⟨Ao23, co23, eo23⟩ := kS_ HO_4.out; subst eo23; have p437 : 0 ≤ (x22_1 : Int) := oD_ ‹_›; have q437 : x22_1 < (t428.length : Int) := oD_ ‹_›; obtain ⟨ad437, e437, hx437_0⟩ := Kd.at_string (kR_ HO_4.out).2.2 x22_1 p437 q437; cases e437; have hn437_0 : ad437.block ≠ gb436 := k7_ (k6_ HO_4.out BK436.out (by decide)); have hn437_1 : ad437.block ≠ gb436 := k7_ (k6_ HO_4.out BK436.out (by decide)); have hn437_2 : ad437.block ≠ gb436 := k7_ (k6_ HO_4.out BK436.out (by decide)); replace hx437_0 := (cF_ (p := ⟨gb436, 0, none⟩) (by (rw [add_block]; exact hn437_0)) (.string ((rd_T60 l0_0 x22_1).f0))).trans hx437_0; replace hx437_0 := (cF_ (p := ⟨gb436, 1, none⟩) (by (rw [add_block]; exact hn437_1)) (.int .i64 ((rd_T60 l0_0 x22_1).f1))).trans hx437_0; replace hx437_0 := (cF_ (p := ⟨gb436, 2, none⟩) (by (rw [add_block]; exact hn437_2)) (.bool true)).trans hx437_0; clear hn437_0; clear hn437_1; clear hn437_2; replace p437 := eq_true p437; replace q437 := eq_true q437) | ((with_reducible refine gate_builtin (b := .append) (xs := #[.tmp 29, .tmp 34]) rfl ?_); at_builtin; refine Kd.R_append Kd.string (w0 := w) w.heap.size rfl (.tmp 29) (.tmp 34) 49 9 (.string ⟨#[]⟩) 16 rfl Tryz.underlying49 info9 rfl (by decide) (by omega) u6 x6_1 (rdOf eB_ t428 x22_1) [.string (rdOf eB_ t428 x22_1)] (fun k_ => some k_ ≠ (.slice (some ad437) t428.length co23 : Value).ownBlock) (fun _ => False) rfl (by (go_simp; done)) ?aP (fun _ hk => hk.elim) ?aF ?aO ?aB ?aS ?aL ?_; (case aP => exact rfl); (case aB => exact (by repeat with_reducible first | exact HB.out | apply bA_ | apply bN_ | apply bD_ | refine bS_ ?_ (Aside0.out ‹_›))); (case aF => exact (fun k_ hk => Kd.fresh' (Kd.R_lt (by exact (kM_ (kG_ (kG_ (kG_ (kT_ HO_4.out BK436.out (by decide))))) (fun _ h_ => h_.1)))) k_ hk)); (case aO => exact (by exact kM_ (kG_ (kG_ (kG_ (kT_ HO_6.out BK436.out (by decide))))) (fun _ hk => hk.1))); (case aS => exact (bZ_ (by repeat with_reducible first | exact HB.out | apply bA_ | apply bN_ | apply bD_ | refine bS_ ?_ (Aside0.out ‹_›)))); (case aL => have := LMc18.out; omega); intro v439 w24 ho hb hg hat; rw [← Ny438.out] at ho; have n0_ := aM_ (Kd.R_after (ok := (fun _ => True)) (by exact kM_ (kG_ (kG_ (kG_ (kT_ HO_4.out BK436.out (by decide))))) (fun _ hk => ⟨trivial, hk.1⟩)) hg hat); have n1_ := aM_ (blk_grown (g := gb426) (o := .cells #[.slice (some ad435) l0_0.length c0_0] 30 (0, 0)) (by exact br_ NB426_436.out (br_ NB426_436.out (br_ NB426_436.out (BK426.out)))) hg (k6_ HO_6.out BK426.out (by decide))); have n2_ := aM_ (blk_grown (g := gb427) (o := .cells #[.slice none 0 0] 36 (0, 0)) (by exact br_ NB427_436.out (br_ NB427_436.out (br_ NB427_436.out (BK427.out)))) hg (k6_ HO_6.out BK427.out (by decide))); have n3_ := aM_ (blk_grown (g := gb436) (o := .cells #[.string ((rd_T60 l0_0 x22_1).f0), .int .i64 ((rd_T60 l0_0 x22_1).f1), .bool true] 60 (0, 0)) (by refine bP_ (cs := #[.string ((rd_T60 l0_0 x22_1).f0), .int .i64 ((rd_T60 l0_0 x22_1).f1), .bool false]) ?_ 2 _ rfl; refine bP_ (cs := #[.string ((rd_T60 l0_0 x22_1).f0), .int .i64 0, .bool false]) ?_ 1 _ rfl; refine bP_ (cs := #[.string (⟨#[]⟩ : ByteArray), .int .i64 0, .bool false]) ?_ 0 _ rfl; exact BK436.out) hg (k6_ HO_6.out BK436.out (by decide))); have n4_ := aM_ (hb); have n5_ := aM_ (ho); clear HO_4; clear BK426; clear BK427; clear BK436; clear HB; clear HO_6; have HO_4 := n0_; have BK426 := n1_; have BK427 := n2_; have BK436 := n3_; have HB := n4_; have HO440 := n5_; clear n0_ n1_ n2_ n3_ n4_ n5_; clear ho hb hg hat))
   go_roundg k1
   case measure => have := HK1.out; omega
   case rel => exact ⟨(y438), (wrap64 (x22_1 + 1)), (by rfl), H', ⟨by have := HK1.out; omega⟩, ⟨by exact kM_ HO_4.out (fun _ hk => hk.2)⟩, ⟨HO440.out⟩, ⟨BK426.out⟩, ⟨BK427.out⟩, ⟨HB.out⟩⟩
  rw [if_neg c12] at H
  have c12b0 := dF_ c12
  clear c12
  replace H := oB_.mp H
  obtain ⟨⟨t441, t444⟩, A290, H⟩ := H
  try dsimp only at H
  have A29 := aM_ A290
  clear A290
  by_cases c30 : t444 = true
  rotate_left
  ·
   replace c30 := Bool.eq_false_iff.mpr c30
   subst c30
   replace H : (some (([] : List (S76)), false)) = some (r1, r2) := by rw [if_neg (show ¬ (false = true) by decide)] at H; exact H
   simp only [Option.some.injEq, Prod.mk.injEq] at H
   obtain ⟨rfl, rfl⟩ := H
   obtain ⟨Ao61, co61, eo61⟩ := kS_ HO_6.out
   subst eo61
   try go_wp2_with (first | (refine gs_ 39 Tryz.func61 #[.slice Ao61 x6_1.length co61] ?_; (with_reducible refine (iF26.calls k1 _ _ x6_1 t441 false _ ?side1 ?side2 A29.out).mono ?_); (case side1 => repeat (first | exact (kR_ HO_6.out).2.2 | with_reducible first | apply cA_ | apply cN_ | apply cD_)); (case side2 => exact (kR_ HO_6.out).2.1); rintro e w62 ⟨v442, rfl, ho0, hb⟩; refine ⟨_, rfl, ?_⟩; replace HO_4 := k9_ HO_4 hb; replace HO_6 := k9_ HO_6 hb; have HO443 := aM_ (k5_ ho0 (bZ_ HB.out)); replace BK426 := b5_ BK426 hb; replace BK427 := b5_ BK427 hb; replace HB := b4_ HB hb; (try clear hb); (try clear ho0)) | (refine bx_ 9 #[.slice none 0 0] 36 ?_; intro gb445 hg w63 hbox hb; replace HO_4 := k9_ HO_4 hb; replace HO_6 := k9_ HO_6 hb; replace HO443 := k9_ HO443 hb; have BK445 := aM_ (hbox); have GW445 := gw_ hg HB; replace HB := b4_ HB hb; have NB426_445 := nb_ hg BK426; have NB445_426 := ns_ NB426_445; replace BK426 := b5_ BK426 hb; have NB427_445 := nb_ hg BK427; have NB445_427 := ns_ NB427_445; replace BK427 := b5_ BK427 hb; clear hb hbox hg; obtain ⟨Ao64, co64, eo64⟩ := kS_ HO443.out; subst eo64; have hnb65 := NB445_426.out; have hnc65 := NB426_445.out; have hnb66 := NB445_427.out; have hnc66 := NB427_445.out; have hcz67_0 := c0_ BK445; have hfz67_0 := bF_ BK445.out 0))
   generalize hW_ : (w63.setCell ⟨gb445, 0, none⟩ (.slice Ao64 t441.length co64)) = w68
   have n0_ : Aside0 (Kd.R Kd.string 9 w68 w.heap.size (fun k_ => some k_ ≠ (.slice Ao61 x6_1.length co61 : Value).ownBlock) v429 t428) := ⟨by subst hW_; exact kM_ (kG_ (kT_ HO_4.out BK445.out (by decide))) (fun _ hk => hk.1)⟩
   have n1_ : Aside0 (Kd.R Kd.string 9 w68 w.heap.size (fun k_ => some k_ ≠ (v429 : Value).ownBlock) (.slice Ao61 x6_1.length co61) x6_1) := ⟨by subst hW_; exact kM_ (kG_ (kT_ HO_6.out BK445.out (by decide))) (fun _ hk => hk.1)⟩
   have n2_ : Aside0 (Kd.R k76 76 w68 w.heap.size (fun _ => True) (.slice Ao64 t441.length co64) t441) := ⟨by subst hW_; exact kM_ (kG_ (kT_ HO443.out BK445.out (by decide))) (fun _ hk => trivial)⟩
   have n3_ : Aside0 (w68.heap[gb426]? = some (.cells #[.slice A0_0 l0_0.length c0_0] 30 (0, 0))) := ⟨by subst hW_; exact br_ NB426_445.out (BK426.out)⟩
   have n4_ : Aside0 (w68.heap[gb427]? = some (.cells #[.slice none 0 0] 36 (0, 0))) := ⟨by subst hW_; exact br_ NB427_445.out (BK427.out)⟩
   have n5_ : Aside0 (w68.heap[gb445]? = some (.cells #[.slice Ao64 t441.length co64] 36 (0, 0))) := ⟨by subst hW_; refine bP_ (cs := #[.slice none 0 0]) ?_ 0 _ rfl; exact BK445.out⟩
   have n6_ : Aside0 (Below w.heap.size w w68) := ⟨by subst hW_; repeat with_reducible first | exact HB.out | apply bA_ | apply bN_ | apply bD_ | refine bS_ ?_ (Aside0.out ‹_›)⟩
   (try clear HO_4)
   (try clear HO_6)
   (try clear HO443)
   (try clear BK426)
   (try clear BK427)
   (try clear BK445)
   (try clear HB)
   clear hW_
   have HO_4 := n0_
   have HO_6 := n1_
   have HO443 := n2_
   have BK426 := n3_
   have BK427 := n4_
   have BK445 := n5_
   have HB := n6_
   clear n0_ n1_ n2_ n3_ n4_ n5_ n6_
   have n0_ := aM_ (k3_ HO_4.out)
   have n1_ := aM_ (k3_ HO_6.out)
   have n2_ := aM_ (k3_ HO443.out)
   have n3_ := aM_ (b1_ BK426.out)
   have n4_ := aM_ (b1_ BK427.out)
   have n5_ := aM_ (b1_ BK445.out)
   have n6_ := aM_ (bD_ HB.out)
   clear HO_4
   clear HO_6
   clear HO443
   clear BK426
   clear BK427
   clear BK445
   clear HB
   have HO_4 := n0_
   have HO_6 := n1_
   have HO443 := n2_
   have BK426 := n3_
   have BK427 := n4_
   have BK445 := n5_
   have HB := n6_
   clear n0_ n1_ n2_ n3_ n4_ n5_ n6_
   refine start_ (n := 11) (S := fun w' => True) (ds := []) #[fy, fy, fy, fy, fy, fy, fy, fy, fy, fy, fy] (by kernel_rfl) rfl rfl trivial (fun hHeld => ?_); refine with_tabW iF10.tab12 iF10.bits12 (fun HT_ HW_ => ?_)
   generalize w68.drew = w69 at HO_4 HO_6 HO443 BK426 BK427 BK445 HB hHeld ⊢
   refine pu_ HT_ 0 42 #[ty, fy, fy, fy, fy, fy, fy, fy, fy, fy, fy] ?_
   refine pu_ HT_ 1 43 #[ty, ty, fy, fy, fy, fy, fy, fy, fy, fy, fy] ?_
   refine pu_ HT_ 2 44 #[ty, ty, ty, fy, fy, fy, fy, fy, fy, fy, fy] ?_
   refine pure_ (i := 3) (N := some 45) (v := undef) (a' := ?_) #[ty, ty, ty, ty, fy, fy, fy, fy, fy, fy, fy] rfl rfl (aO_ HT_.out (by kernel_rfl)) (fun _ _ _ h => h) (Or.inr ⟨by rfl, rfl⟩) ?_ ?_
   rotate_left
   ·
    simp only [Act.put, sA_, sB_, sC_, i6_, i3_]
    rfl
   refine pure_ (i := 4) (N := some 46) (v := undef) (a' := ?_) #[ty, ty, ty, ty, ty, fy, fy, fy, fy, fy, fy] rfl rfl (aO_ HT_.out (by kernel_rfl)) (fun _ _ _ h => h) (Or.inr ⟨by rfl, rfl⟩) ?_ ?_
   rotate_left
   ·
    simp only [Act.put, sA_, sB_, sC_, i6_, i3_]
    rfl
   refine pure_ (i := 5) (N := some 47) (v := undef) (a' := ?_) #[ty, ty, ty, ty, ty, ty, fy, fy, fy, fy, fy] rfl rfl (aO_ HT_.out (by kernel_rfl)) (fun _ _ _ h => h) (Or.inr ⟨by rfl, rfl⟩) ?_ ?_
   rotate_left
   ·
    simp only [Act.put, sA_, sB_, sC_, i6_, i3_]
    rfl
   refine pure_ (i := 6) (N := some 48) (v := undef) (a' := ?_) #[ty, ty, ty, ty, ty, ty, ty, fy, fy, fy, fy] rfl rfl (aO_ HT_.out (by kernel_rfl)) (fun _ _ _ h => h) (Or.inr ⟨by rfl, rfl⟩) ?_ ?_
   rotate_left
   ·
    simp only [Act.put, sA_, sB_, sC_, i6_, i3_]
    rfl
   refine pure_ (i := 7) (N := some 49) (v := undef) (a' := ?_) #[ty, ty, ty, ty, ty, ty, ty, ty, fy, fy, fy] rfl rfl (aO_ HT_.out (by kernel_rfl)) (fun _ _ _ h => h) (Or.inr ⟨by rfl, rfl⟩) ?_ ?_
   rotate_left
   ·
    simp only [Act.put, sA_, sB_, sC_, i6_, i3_]
    rfl
   refine pure_ (i := 8) (N := some 50) (v := undef) (a' := ?_) #[ty, ty, ty, ty, ty, ty, ty, ty, ty, fy, fy] rfl rfl (aO_ HT_.out (by kernel_rfl)) (fun _ _ _ h => h) (Or.inr ⟨by rfl, rfl⟩) ?_ ?_
   rotate_left
   ·
    simp only [Act.put, sA_, sB_, sC_, i6_, i3_]
    rfl
   refine pure_ (i := 9) (N := some 51) (v := undef) (a' := ?_) #[ty, ty, ty, ty, ty, ty, ty, ty, ty, ty, fy] rfl rfl (aO_ HT_.out (by kernel_rfl)) (fun _ _ _ h => h) (Or.inr ⟨by rfl, rfl⟩) ?_ ?_
   rotate_left
   ·
    simp only [Act.put, sA_, sB_, sC_, i6_, i3_]
    rfl
   refine pu_ HT_ 10 52 #[ty, ty, ty, ty, ty, ty, ty, ty, ty, ty, ty] ?_
   refine done_ (done_of HT_.out (by kernel_rfl)) ?_
   have hnb70 := NB427_426.out
   have hnc70 := NB426_427.out
   have hcz71_0 := c0_ BK427
   have hfz71_0 := bF_ BK427.out 0
   try go_wp2
   refine bodyPost_ret (results_ct rfl _ _ gb427 36 #[.slice none 0 0] (0, 0) _ rfl (by refine bP_ (cs := #[.slice none 0 0]) ?_ 0 _ rfl; exact BK427.out) Tryz.underlying36 rfl (by kernel_rfl)) rfl ?_
   exact ⟨_, by rfl, by exact Kd.R_nil _ _ _ _ _, by repeat with_reducible first | exact HB.out | apply bA_ | apply bN_ | apply bD_ | refine bS_ ?_ (Aside0.out ‹_›)⟩
  subst c30
  rw [if_pos rfl] at H
  replace H := oB_.mp H
  obtain ⟨t446, A310, H⟩ := H
  try dsimp only at H
  have A31 := aM_ A310
  clear A310
  replace H := oB_.mp H
  obtain ⟨t449, A320, H⟩ := H
  try dsimp only at H
  have A32 := aM_ A320
  clear A320
  by_cases c33 : t449 = true
  ·
   subst c33
   rw [if_pos rfl] at H
   simp only [Option.some.injEq, Prod.mk.injEq] at H
   obtain ⟨rfl, rfl⟩ := H
   obtain ⟨Ao34, co34, eo34⟩ := kS_ HO_6.out
   subst eo34
   try go_wp2_with (first | (refine gs_ 39 Tryz.func61 #[.slice Ao34 x6_1.length co34] ?_; (with_reducible refine (iF26.calls k1 _ _ x6_1 t441 true _ ?side1 ?side2 A29.out).mono ?_); (case side1 => repeat (first | exact (kR_ HO_6.out).2.2 | with_reducible first | apply cA_ | apply cN_ | apply cD_)); (case side2 => exact (kR_ HO_6.out).2.1); rintro e w35 ⟨v442, rfl, ho0, hb⟩; refine ⟨_, rfl, ?_⟩; replace HO_4 := k9_ HO_4 hb; replace HO_6 := k9_ HO_6 hb; have HO443 := aM_ (k5_ ho0 (bZ_ HB.out)); replace BK426 := b5_ BK426 hb; replace BK427 := b5_ BK427 hb; replace HB := b4_ HB hb; (try clear hb); (try clear ho0)) | (refine bx_ 9 #[.slice none 0 0] 36 ?_; intro gb445 hg w36 hbox hb; replace HO_4 := k9_ HO_4 hb; replace HO_6 := k9_ HO_6 hb; replace HO443 := k9_ HO443 hb; have BK445 := aM_ (hbox); have GW445 := gw_ hg HB; replace HB := b4_ HB hb; have NB426_445 := nb_ hg BK426; have NB445_426 := ns_ NB426_445; replace BK426 := b5_ BK426 hb; have NB427_445 := nb_ hg BK427; have NB445_427 := ns_ NB427_445; replace BK427 := b5_ BK427 hb; clear hb hbox hg; obtain ⟨Ao37, co37, eo37⟩ := kS_ HO443.out; subst eo37; have hnb38 := NB445_426.out; have hnc38 := NB426_445.out; have hnb39 := NB445_427.out; have hnc39 := NB427_445.out; have hcz40_0 := c0_ BK445; have hfz40_0 := bF_ BK445.out 0))
   generalize hW_ : (w36.setCell ⟨gb445, 0, none⟩ (.slice Ao37 t441.length co37)) = w41
   have n0_ : Aside0 (Kd.R Kd.string 9 w41 w.heap.size (fun k_ => some k_ ≠ (.slice Ao34 x6_1.length co34 : Value).ownBlock) v429 t428) := ⟨by subst hW_; exact kM_ (kG_ (kT_ HO_4.out BK445.out (by decide))) (fun _ hk => hk.1)⟩
   have n1_ : Aside0 (Kd.R Kd.string 9 w41 w.heap.size (fun k_ => some k_ ≠ (v429 : Value).ownBlock) (.slice Ao34 x6_1.length co34) x6_1) := ⟨by subst hW_; exact kM_ (kG_ (kT_ HO_6.out BK445.out (by decide))) (fun _ hk => hk.1)⟩
   have n2_ : Aside0 (Kd.R k76 76 w41 w.heap.size (fun _ => True) (.slice Ao37 t441.length co37) t441) := ⟨by subst hW_; exact kM_ (kG_ (kT_ HO443.out BK445.out (by decide))) (fun _ hk => trivial)⟩
   have n3_ : Aside0 (w41.heap[gb426]? = some (.cells #[.slice A0_0 l0_0.length c0_0] 30 (0, 0))) := ⟨by subst hW_; exact br_ NB426_445.out (BK426.out)⟩
   have n4_ : Aside0 (w41.heap[gb427]? = some (.cells #[.slice none 0 0] 36 (0, 0))) := ⟨by subst hW_; exact br_ NB427_445.out (BK427.out)⟩
   have n5_ : Aside0 (w41.heap[gb445]? = some (.cells #[.slice Ao37 t441.length co37] 36 (0, 0))) := ⟨by subst hW_; refine bP_ (cs := #[.slice none 0 0]) ?_ 0 _ rfl; exact BK445.out⟩
   have n6_ : Aside0 (Below w.heap.size w w41) := ⟨by subst hW_; repeat with_reducible first | exact HB.out | apply bA_ | apply bN_ | apply bD_ | refine bS_ ?_ (Aside0.out ‹_›)⟩
   (try clear HO_4)
   (try clear HO_6)
   (try clear HO443)
   (try clear BK426)
   (try clear BK427)
   (try clear BK445)
   (try clear HB)
   clear hW_
   have HO_4 := n0_
   have HO_6 := n1_
   have HO443 := n2_
   have BK426 := n3_
   have BK427 := n4_
   have BK445 := n5_
   have HB := n6_
   clear n0_ n1_ n2_ n3_ n4_ n5_ n6_
   have n0_ := aM_ (k3_ HO_4.out)
   have n1_ := aM_ (k3_ HO_6.out)
   have n2_ := aM_ (k3_ HO443.out)
   have n3_ := aM_ (b1_ BK426.out)
   have n4_ := aM_ (b1_ BK427.out)
   have n5_ := aM_ (b1_ BK445.out)
   have n6_ := aM_ (bD_ HB.out)
   clear HO_4
   clear HO_6
   clear HO443
   clear BK426
   clear BK427
   clear BK445
   clear HB
   have HO_4 := n0_
   have HO_6 := n1_
   have HO443 := n2_
   have BK426 := n3_
   have BK427 := n4_
   have BK445 := n5_
   have HB := n6_
   clear n0_ n1_ n2_ n3_ n4_ n5_ n6_
   refine start_ (n := 11) (S := fun w' => w'.cell? ⟨gb445, 0, none⟩ = some (.slice Ao37 t441.length co37) ∧ w'.cell? ⟨gb426, 0, none⟩ = some (.slice A0_0 l0_0.length c0_0)) (ds := []) #[fy, fy, fy, fy, fy, fy, fy, fy, fy, fy, fy] (by kernel_rfl) rfl rfl ⟨(bC_ BK445.out 0).trans rfl, (bC_ BK426.out 0).trans rfl⟩ (fun hHeld => ?_); refine with_tabW iF10.tab12 iF10.bits12 (fun HT_ HW_ => ?_)
   generalize w41.drew = w42 at HO_4 HO_6 HO443 BK426 BK427 BK445 HB hHeld ⊢
   refine pu_ HT_ 0 42 #[ty, fy, fy, fy, fy, fy, fy, fy, fy, fy, fy] ?_
   refine pu_ HT_ 1 43 #[ty, ty, fy, fy, fy, fy, fy, fy, fy, fy, fy] ?_
   refine pu_ HT_ 2 44 #[ty, ty, ty, fy, fy, fy, fy, fy, fy, fy, fy] ?_
   refine pu_ HT_ 6 48 #[ty, ty, ty, fy, fy, fy, ty, fy, fy, fy, fy] ?_
   refine tk_ HT_ HW_ 3 45 #[ty, ty, ty, ty, fy, fy, ty, fy, fy, fy, fy] hHeld ?_ (hr := by rintro w' ⟨s0, s1⟩; go_simp; with_reducible rfl)
   refine tk_ HT_ HW_ 7 49 #[ty, ty, ty, ty, fy, fy, ty, ty, fy, fy, fy] hHeld ?_ (hr := by rintro w' ⟨s0, s1⟩; go_simp; with_reducible rfl)
   refine one_ (i := 4) (N := some 46) #[ty, ty, ty, ty, ty, fy, ty, ty, fy, fy, fy] rfl rfl (one_of HT_.out (by kernel_rfl)) (by decide) (fun K hK => ?_)
   refine goes_ Tryz.func63 (by kernel_rfl) rfl #[.agg #[.slice Ao37 t441.length co37]] (by rfl) rfl rfl (by (try simp only [sD_, sE_, sF_]); rfl) ?_
   with_reducible refine (iF15.calls k1 _ _ t441 t446 _ ?side1 ?side2 A31.out).mono ?_
   (case side1 => repeat (first | exact (kR_ HO443.out).2.2 | with_reducible first | apply cA_ | apply cN_ | apply cD_))
   (case side2 => exact (kR_ HO443.out).2.1)
   rintro e w43 ⟨v447, rfl, ho0, hb⟩
   refine ⟨_, rfl, ?_⟩
   have n0_ := k9_ HO_4 hb
   have n1_ := k9_ HO_6 hb
   have n2_ := k9_ HO443 hb
   have n3_ := aM_ (k5_ ho0 (bZ_ HB.out))
   have n4_ := b5_ BK426 hb
   have n5_ := b5_ BK427 hb
   have n6_ := b5_ BK445 hb
   have n7_ := b4_ HB hb
   clear HO_4
   clear HO_6
   clear HO443
   clear BK426
   clear BK427
   clear BK445
   clear HB
   have HO_4 := n0_
   have HO_6 := n1_
   have HO443 := n2_
   have HO448 := n3_
   have BK426 := n4_
   have BK427 := n5_
   have BK445 := n6_
   have HB := n7_
   clear n0_ n1_ n2_ n3_ n4_ n5_ n6_ n7_
   (try clear hb)
   (try clear ho0)
   obtain ⟨Ao44, co44, eo44⟩ := kS_ HO448.out
   (subst eo44)
   refine hK.out _ _ ⟨(bC_ BK445.out 0).trans rfl, (bC_ BK426.out 0).trans rfl⟩ (fun hHeld => ?_)
   clear hK K
   refine norm_ (by show Act.put _ (some 46) _ = _; simp only [Act.put, sA_, sB_, sC_, i6_, i3_]; rfl) ?_
   refine pu_ HT_ 5 47 #[ty, ty, ty, ty, ty, ty, ty, ty, fy, fy, fy] ?_
   refine one_ (i := 8) (N := some 50) #[ty, ty, ty, ty, ty, ty, ty, ty, ty, fy, fy] rfl rfl (one_of HT_.out (by kernel_rfl)) (by decide) (fun K hK => ?_)
   refine goes_ Tryz.func62 (by kernel_rfl) rfl #[.slice Ao44 t446.length co44, .slice A0_0 l0_0.length c0_0] (by rfl) rfl rfl (by (try simp only [sD_, sE_, sF_]); rfl) ?_
   with_reducible refine (iF6.calls k1 _ _ t446 _ _ l0_0 true _ ?side1 ?side2 ?side3 ?side4 A32.out).mono ?_
   (case side1 => repeat (first | exact (kR_ HO448.out).2.2 | with_reducible first | apply cA_ | apply cN_ | apply cD_))
   (case side2 => exact (kR_ HO448.out).2.1)
   (case side3 => repeat (first | exact (k4_ HR0_0.out HB.out) | with_reducible first | apply cA_ | apply cN_ | apply cD_))
   (case side4 => exact HC0_0.out)
   rintro e w' ⟨rfl, ⟨nd, rfl⟩⟩
   refine ⟨_, rfl, ?_⟩
   refine hK.out _ _ ⟨(bC_ BK445.out 0).trans rfl, (bC_ BK426.out 0).trans rfl⟩ (fun hHeld => ?_)
   clear hK K
   refine norm_ (by show Act.put _ (some 50) _ = _; simp only [Act.put, sA_, sB_, sC_, i6_, i3_]; rfl) ?_
   refine pu_ HT_ 9 51 #[ty, ty, ty, ty, ty, ty, ty, ty, ty, ty, fy] ?_
   refine pu_ HT_ 10 52 #[ty, ty, ty, ty, ty, ty, ty, ty, ty, ty, ty] ?_
   refine done_ (done_of HT_.out (by kernel_rfl)) ?_
   have hcz45_0 := c0_ BK445
   have hfz45_0 := bF_ BK445.out 0
   have hnb46 := NB427_426.out
   have hnc46 := NB426_427.out
   have hcz47_0 := c0_ BK427
   have hfz47_0 := bF_ BK427.out 0
   try go_wp2
   refine bodyPost_ret (results_ct rfl _ _ gb427 36 #[.slice Ao37 t441.length co37] (0, 0) _ rfl (by refine bP_ (cs := #[.slice none 0 0]) ?_ 0 _ rfl; (with_reducible repeat (first | refine b2_ ?_ _ | refine b1_ ?_ | refine b3_ ?_ _)); exact BK427.out) Tryz.underlying36 rfl (by kernel_rfl)) rfl ?_
   exact ⟨_, by rfl, by exact kM_ (kG_ (kT_ HO443.out BK427.out (by decide))) (fun _ hk => trivial), by repeat with_reducible first | exact HB.out | apply bA_ | apply bN_ | apply bD_ | refine bS_ ?_ (Aside0.out ‹_›)⟩
  replace c33 := Bool.eq_false_iff.mpr c33
  subst c33
  replace H : (some (([] : List (S76)), false)) = some (r1, r2) := by rw [if_neg (show ¬ (false = true) by decide)] at H; exact H
  simp only [Option.some.injEq, Prod.mk.injEq] at H
  obtain ⟨rfl, rfl⟩ := H
  obtain ⟨Ao48, co48, eo48⟩ := kS_ HO_6.out
  subst eo48
  try go_wp2_with (first | (refine gs_ 39 Tryz.func61 #[.slice Ao48 x6_1.length co48] ?_; (with_reducible refine (iF26.calls k1 _ _ x6_1 t441 true _ ?side1 ?side2 A29.out).mono ?_); (case side1 => repeat (first | exact (kR_ HO_6.out).2.2 | with_reducible first | apply cA_ | apply cN_ | apply cD_)); (case side2 => exact (kR_ HO_6.out).2.1); rintro e w49 ⟨v442, rfl, ho0, hb⟩; refine ⟨_, rfl, ?_⟩; replace HO_4 := k9_ HO_4 hb; replace HO_6 := k9_ HO_6 hb; have HO443 := aM_ (k5_ ho0 (bZ_ HB.out)); replace BK426 := b5_ BK426 hb; replace BK427 := b5_ BK427 hb; replace HB := b4_ HB hb; (try clear hb); (try clear ho0)) | (refine bx_ 9 #[.slice none 0 0] 36 ?_; intro gb445 hg w50 hbox hb; replace HO_4 := k9_ HO_4 hb; replace HO_6 := k9_ HO_6 hb; replace HO443 := k9_ HO443 hb; have BK445 := aM_ (hbox); have GW445 := gw_ hg HB; replace HB := b4_ HB hb; have NB426_445 := nb_ hg BK426; have NB445_426 := ns_ NB426_445; replace BK426 := b5_ BK426 hb; have NB427_445 := nb_ hg BK427; have NB445_427 := ns_ NB427_445; replace BK427 := b5_ BK427 hb; clear hb hbox hg; obtain ⟨Ao51, co51, eo51⟩ := kS_ HO443.out; subst eo51; have hnb52 := NB445_426.out; have hnc52 := NB426_445.out; have hnb53 := NB445_427.out; have hnc53 := NB427_445.out; have hcz54_0 := c0_ BK445; have hfz54_0 := bF_ BK445.out 0))
  generalize hW_ : (w50.setCell ⟨gb445, 0, none⟩ (.slice Ao51 t441.length co51)) = w55
  have n0_ : Aside0 (Kd.R Kd.string 9 w55 w.heap.size (fun k_ => some k_ ≠ (.slice Ao48 x6_1.length co48 : Value).ownBlock) v429 t428) := ⟨by subst hW_; exact kM_ (kG_ (kT_ HO_4.out BK445.out (by decide))) (fun _ hk => hk.1)⟩
  have n1_ : Aside0 (Kd.R Kd.string 9 w55 w.heap.size (fun k_ => some k_ ≠ (v429 : Value).ownBlock) (.slice Ao48 x6_1.length co48) x6_1) := ⟨by subst hW_; exact kM_ (kG_ (kT_ HO_6.out BK445.out (by decide))) (fun _ hk => hk.1)⟩
  have n2_ : Aside0 (Kd.R k76 76 w55 w.heap.size (fun _ => True) (.slice Ao51 t441.length co51) t441) := ⟨by subst hW_; exact kM_ (kG_ (kT_ HO443.out BK445.out (by decide))) (fun _ hk => trivial)⟩
  have n3_ : Aside0 (w55.heap[gb426]? = some (.cells #[.slice A0_0 l0_0.length c0_0] 30 (0, 0))) := ⟨by subst hW_; exact br_ NB426_445.out (BK426.out)⟩
  have n4_ : Aside0 (w55.heap[gb427]? = some (.cells #[.slice none 0 0] 36 (0, 0))) := ⟨by subst hW_; exact br_ NB427_445.out (BK427.out)⟩
  have n5_ : Aside0 (w55.heap[gb445]? = some (.cells #[.slice Ao51 t441.length co51] 36 (0, 0))) := ⟨by subst hW_; refine bP_ (cs := #[.slice none 0 0]) ?_ 0 _ rfl; exact BK445.out⟩
  have n6_ : Aside0 (Below w.heap.size w w55) := ⟨by subst hW_; repeat with_reducible first | exact HB.out | apply bA_ | apply bN_ | apply bD_ | refine bS_ ?_ (Aside0.out ‹_›)⟩
  (try clear HO_4)
  (try clear HO_6)
  (try clear HO443)
  (try clear BK426)
  (try clear BK427)
  (try clear BK445)
  (try clear HB)
  clear hW_
  have HO_4 := n0_
  have HO_6 := n1_
  have HO443 := n2_
  have BK426 := n3_
  have BK427 := n4_
  have BK445 := n5_
  have HB := n6_
  clear n0_ n1_ n2_ n3_ n4_ n5_ n6_
  have n0_ := aM_ (k3_ HO_4.out)
  have n1_ := aM_ (k3_ HO_6.out)
  have n2_ := aM_ (k3_ HO443.out)
  have n3_ := aM_ (b1_ BK426.out)
  have n4_ := aM_ (b1_ BK427.out)
  have n5_ := aM_ (b1_ BK445.out)
  have n6_ := aM_ (bD_ HB.out)
  clear HO_4
  clear HO_6
  clear HO443
  clear BK426
  clear BK427
  clear BK445
  clear HB
  have HO_4 := n0_
  have HO_6 := n1_
  have HO443 := n2_
  have BK426 := n3_
  have BK427 := n4_
  have BK445 := n5_
  have HB := n6_
  clear n0_ n1_ n2_ n3_ n4_ n5_ n6_
  refine start_ (n := 11) (S := fun w' => w'.cell? ⟨gb445, 0, none⟩ = some (.slice Ao51 t441.length co51) ∧ w'.cell? ⟨gb426, 0, none⟩ = some (.slice A0_0 l0_0.length c0_0)) (ds := []) #[fy, fy, fy, fy, fy, fy, fy, fy, fy, fy, fy] (by kernel_rfl) rfl rfl ⟨(bC_ BK445.out 0).trans rfl, (bC_ BK426.out 0).trans rfl⟩ (fun hHeld => ?_); refine with_tabW iF10.tab12 iF10.bits12 (fun HT_ HW_ => ?_)
  generalize w55.drew = w56 at HO_4 HO_6 HO443 BK426 BK427 BK445 HB hHeld ⊢
  refine pu_ HT_ 0 42 #[ty, fy, fy, fy, fy, fy, fy, fy, fy, fy, fy] ?_
  refine pu_ HT_ 1 43 #[ty, ty, fy, fy, fy, fy, fy, fy, fy, fy, fy] ?_
  refine pu_ HT_ 2 44 #[ty, ty, ty, fy, fy, fy, fy, fy, fy, fy, fy] ?_
  refine pu_ HT_ 6 48 #[ty, ty, ty, fy, fy, fy, ty, fy, fy, fy, fy] ?_
  refine tk_ HT_ HW_ 3 45 #[ty, ty, ty, ty, fy, fy, ty, fy, fy, fy, fy] hHeld ?_ (hr := by rintro w' ⟨s0, s1⟩; go_simp; with_reducible rfl)
  refine tk_ HT_ HW_ 7 49 #[ty, ty, ty, ty, fy, fy, ty, ty, fy, fy, fy] hHeld ?_ (hr := by rintro w' ⟨s0, s1⟩; go_simp; with_reducible rfl)
  refine one_ (i := 4) (N := some 46) #[ty, ty, ty, ty, ty, fy, ty, ty, fy, fy, fy] rfl rfl (one_of HT_.out (by kernel_rfl)) (by decide) (fun K hK => ?_)
  refine goes_ Tryz.func63 (by kernel_rfl) rfl #[.agg #[.slice Ao51 t441.length co51]] (by rfl) rfl rfl (by (try simp only [sD_, sE_, sF_]); rfl) ?_
  with_reducible refine (iF15.calls k1 _ _ t441 t446 _ ?side1 ?side2 A31.out).mono ?_
  (case side1 => repeat (first | exact (kR_ HO443.out).2.2 | with_reducible first | apply cA_ | apply cN_ | apply cD_))
  (case side2 => exact (kR_ HO443.out).2.1)
  rintro e w57 ⟨v447, rfl, ho0, hb⟩
  refine ⟨_, rfl, ?_⟩
  have n0_ := k9_ HO_4 hb
  have n1_ := k9_ HO_6 hb
  have n2_ := k9_ HO443 hb
  have n3_ := aM_ (k5_ ho0 (bZ_ HB.out))
  have n4_ := b5_ BK426 hb
  have n5_ := b5_ BK427 hb
  have n6_ := b5_ BK445 hb
  have n7_ := b4_ HB hb
  clear HO_4
  clear HO_6
  clear HO443
  clear BK426
  clear BK427
  clear BK445
  clear HB
  have HO_4 := n0_
  have HO_6 := n1_
  have HO443 := n2_
  have HO448 := n3_
  have BK426 := n4_
  have BK427 := n5_
  have BK445 := n6_
  have HB := n7_
  clear n0_ n1_ n2_ n3_ n4_ n5_ n6_ n7_
  (try clear hb)
  (try clear ho0)
  obtain ⟨Ao58, co58, eo58⟩ := kS_ HO448.out
  (subst eo58)
  refine hK.out _ _ ⟨(bC_ BK445.out 0).trans rfl, (bC_ BK426.out 0).trans rfl⟩ (fun hHeld => ?_)
  clear hK K
  refine norm_ (by show Act.put _ (some 46) _ = _; simp only [Act.put, sA_, sB_, sC_, i6_, i3_]; rfl) ?_
  refine pu_ HT_ 5 47 #[ty, ty, ty, ty, ty, ty, ty, ty, fy, fy, fy] ?_
  refine one_ (i := 8) (N := some 50) #[ty, ty, ty, ty, ty, ty, ty, ty, ty, fy, fy] rfl rfl (one_of HT_.out (by kernel_rfl)) (by decide) (fun K hK => ?_)
  refine goes_ Tryz.func62 (by kernel_rfl) rfl #[.slice Ao58 t446.length co58, .slice A0_0 l0_0.length c0_0] (by rfl) rfl rfl (by (try simp only [sD_, sE_, sF_]); rfl) ?_
  with_reducible refine (iF6.calls k1 _ _ t446 _ _ l0_0 false _ ?side1 ?side2 ?side3 ?side4 A32.out).mono ?_
  (case side1 => repeat (first | exact (kR_ HO448.out).2.2 | with_reducible first | apply cA_ | apply cN_ | apply cD_))
  (case side2 => exact (kR_ HO448.out).2.1)
  (case side3 => repeat (first | exact (k4_ HR0_0.out HB.out) | with_reducible first | apply cA_ | apply cN_ | apply cD_))
  (case side4 => exact HC0_0.out)
  rintro e w' ⟨rfl, ⟨nd, rfl⟩⟩
  refine ⟨_, rfl, ?_⟩
  refine hK.out _ _ ⟨(bC_ BK445.out 0).trans rfl, (bC_ BK426.out 0).trans rfl⟩ (fun hHeld => ?_)
  clear hK K
  refine norm_ (by show Act.put _ (some 50) _ = _; simp only [Act.put, sA_, sB_, sC_, i6_, i3_]; rfl) ?_
  refine pu_ HT_ 9 51 #[ty, ty, ty, ty, ty, ty, ty, ty, ty, ty, fy] ?_
  refine pu_ HT_ 10 52 #[ty, ty, ty, ty, ty, ty, ty, ty, ty, ty, ty] ?_
  refine done_ (done_of HT_.out (by kernel_rfl)) ?_
  have hnb59 := NB427_426.out
  have hnc59 := NB426_427.out
  have hcz60_0 := c0_ BK427
  have hfz60_0 := bF_ BK427.out 0
  try go_wp2
  refine bodyPost_ret (results_ct rfl _ _ gb427 36 #[.slice none 0 0] (0, 0) _ rfl (by refine bP_ (cs := #[.slice none 0 0]) ?_ 0 _ rfl; (with_reducible repeat (first | refine b2_ ?_ _ | refine b1_ ?_ | refine b3_ ?_ _)); exact BK427.out) Tryz.underlying36 rfl (by kernel_rfl)) rfl ?_
  exact ⟨_, by rfl, by exact Kd.R_nil _ _ _ _ _, by repeat with_reducible first | exact HB.out | apply bA_ | apply bN_ | apply bD_ | refine bS_ ?_ (Aside0.out ‹_›)⟩
end Go.Proofs.YtfhffcefpnkllaaGreatDoor.P
namespace Go.Proofs.YtfhffcefpnkllaaGreatDoor.P
open Go.RowKit Go.Proofs.YtfhffcefpnkllaaGreatDoorW.PrintWords Go.Proofs.YtfhffcefpnkllaaGreatDoorW.PrintLast Go.Proofs.YtfhffcefpnkllaaGreatDoorW.PrintMore
attribute [local go_sem] max2_int min2_int max_two min_two max_three min_three max_four min_four
def idxByS {α : Type} (p : α → Bool) : List α → Nat → Int
 | [], _ => -1
 | x :: r, k => if p x = true then (k : Int) else idxByS p r (k + 1)
theorem idxByS_hit {α : Type} (p : α → Bool) (z : α) : ∀ (xs : List α) (k j : Nat), j < xs.length → p (xs.getD j z) = true → (∀ i, i < j → p (xs.getD i z) = false) → idxByS p xs k = ((k + j : Nat) : Int)
 | [], _, _, h, _, _ => absurd h (by simp)
 | x :: r, k, 0, _, hp, _ => by
  have : p x = true := hp
  simp [idxByS, this]
 | x :: r, k, j + 1, h, hp, hn => by
  have h0 : p x = false := hn 0 (by omega)
  have := idxByS_hit p z r (k + 1) j (by simpa using h) (by simpa using hp) (fun i hi => by simpa using hn (i + 1) (by omega))
  simp only [idxByS, h0, Bool.false_eq_true, if_false, this]
  congr 1; omega
theorem idxByS_miss {α : Type} (p : α → Bool) (z : α) : ∀ (xs : List α) (k : Nat), (∀ i, i < xs.length → p (xs.getD i z) = false) → idxByS p xs k = -1
 | [], _, _ => rfl
 | x :: r, k, hn => by
  have h0 : p x = false := hn 0 (by simp)
  simp only [idxByS, h0, Bool.false_eq_true, if_false]
  exact idxByS_miss p z r (k + 1) (fun i hi => by simpa using hn (i + 1) (by simpa using hi))
theorem idxByS_any {α : Type} (p : α → Bool) : ∀ (xs : List α) (k : Nat), decide (idxByS p xs k ≥ 0) = xs.any p
 | [], _ => rfl
 | x :: r, k => by
  cases h : p x
  ·
   simp [idxByS, h, idxByS_any p r (k + 1)]
  simp [idxByS, h]
def PredBS (P : Program) (g : Nat) (lb : Array Value) {α : Type} (enc : α → Value) (p : α → Bool) (l : List α) (w : World) : Prop :=
 ∀ (W : World) (x : α), x ∈ l → Below w.heap.size w W → Calls P g (#[enc x] ++ lb) W fun e W' => e = .returned (.bool (p x)) ∧ Below W.heap.size W W'
set_option maxHeartbeats 2000000 in
theorem xF2.calls_n (p : ByteArray → Bool) (g : Nat) (lb : Array Value) (eg : ∀ args w, (callFunc g args).run Tryz.prog w = .ok (.enter g args) w) (A0 : Option Addr) (n c0 : Nat) (l0 : List ByteArray) (w : World) (hn : Aside0 (l0.length = n))
  (hr0 : Kd.C Kd.string w A0 l0.length l0) (hbig : n ≤ 9223372036854775807) (hp : PredBS Tryz.prog g lb Value.string p l0 w) :
  Calls Tryz.prog 94 #[.slice A0 n c0, .func (.func g) #[] lb] w fun e w' => e = .returned (.int .i64 (idxByS p l0 0)) ∧ Below w.heap.size w w' := by
 have HP := Aside0.mk hp
 have HR := Aside0.mk hr0
 clear hp hr0
 go_enter Tryz.func94, Tryz.ntmps94
 go_wp2
 go_loopg [5, 8] n (fun gg _ s8 wr => ∃ kk : Nat, kk ≤ n ∧ n - kk ≤ gg ∧ s8 = .int .i64 kk ∧ Aside0 (Below w.heap.size w wr) ∧ Aside0 (∀ j, j < kk → p (l0.getD j ByteArray.empty) = false))
 case atStart => exact ⟨0, Nat.zero_le _, by omega, rfl, ⟨Below.refl _ _⟩, ⟨fun j hj => absurd hj (Nat.not_lt_zero _)⟩⟩
 obtain ⟨kk, hkk, hg, rfl, HB, AS⟩ := hrel
 by_cases hlt : kk < n
 rotate_left
 ·
  have hltz : ¬ (kk : Int) < (n : Int) := by omega
  have : kk = n := by omega
  subst this
  go_wp2
  go_ret
  refine ⟨?_, HB.out⟩
  rw [idxByS_miss p ByteArray.empty l0 0 (by rw [hn.out]; exact AS.out)]
  rfl
 have hltz : (kk : Int) < (n : Int) := by omega
 obtain ⟨ad, e0, hx⟩ := Kd.at_string HR.out kk (by omega) (by have := hn.out; omega)
 cases e0
 have hxw := (HB.out.cell (World.block_lt_of_cell? w _ hx)).trans hx
 clear hx
 simp only [Int.toNat_natCast, rdOf] at hxw
 have hmem : l0.getD kk ByteArray.empty ∈ l0 := by
  rw [List.getD_eq_getElem?_getD, List.getElem?_eq_getElem (show kk < l0.length by have := hn.out; omega)]; exact List.getElem_mem _
 generalize hy : l0.getD kk ByteArray.empty = y at hxw hmem
 have BY : Aside0 (l0.getD kk ByteArray.empty = y) := ⟨hy⟩
 clear hy
 have hcall := HP.out wr y hmem HB.out
 clear hmem
 cases hq : p y with
 | true =>
  rw [hq] at hcall
  go_wp2_with fail
  refine hcall.mono ?_
  clear hcall
  rintro e w' ⟨rfl, hb0⟩
  have hb := Aside0.mk hb0
  clear hb0
  go_wp2_with fail
  go_ret
  refine ⟨?_, HB.out.trans (hb.out.mono HB.out.size)⟩
  rw [idxByS_hit p ByteArray.empty l0 0 kk (by have := hn.out; omega) (by rw [BY.out]; exact hq) AS.out]
  simp
 | false =>
  rw [hq] at hcall
  go_wp2_with fail
  refine hcall.mono ?_
  clear hcall
  rintro e w' ⟨rfl, hb0⟩
  have hb := Aside0.mk hb0
  clear hb0
  go_wp2_with fail
  go_roundg (n - (kk + 1))
  case measure => omega
  refine ⟨kk + 1, by omega, by omega, by go_num, ⟨HB.out.trans (hb.out.mono HB.out.size)⟩, ⟨fun j hj => ?_⟩⟩
  by_cases e : j = kk
  ·
   subst e
   rw [BY.out]; exact hq
  exact AS.out j (by omega)
theorem xF2.calls (p : ByteArray → Bool) (g : Nat) (lb : Array Value) (eg : ∀ args w, (callFunc g args).run Tryz.prog w = .ok (.enter g args) w) (A0 : Option Addr) (c0 : Nat) (l0 : List ByteArray) (w : World)
  (hr0 : Kd.C Kd.string w A0 l0.length l0) (hbig : l0.length ≤ 9223372036854775807) (hp : PredBS Tryz.prog g lb Value.string p l0 w) :
  Calls Tryz.prog 94 #[.slice A0 l0.length c0, .func (.func g) #[] lb] w fun e w' => e = .returned (.int .i64 (idxByS p l0 0)) ∧ Below w.heap.size w w' :=
 xF2.calls_n p g lb eg A0 l0.length c0 l0 w ⟨rfl⟩ hr0 hbig hp
end Go.Proofs.YtfhffcefpnkllaaGreatDoor.P
namespace Go.Proofs.YtfhffcefpnkllaaGreatDoor.P
open Go.RowKit Go.Proofs.YtfhffcefpnkllaaGreatDoorW.PrintWords Go.Proofs.YtfhffcefpnkllaaGreatDoorW.PrintLast Go.Proofs.YtfhffcefpnkllaaGreatDoorW.PrintMore
attribute [local go_sem] max2_int min2_int max_two min_two max_three min_three max_four min_four
namespace DF
theorem gd {α : Type} (l : List α) (z : α) {j : Nat} (h : j < l.length) : l.getD j z = l[j] := by rw [List.getD_eq_getElem?_getD, List.getElem?_eq_getElem h]; rfl
theorem idx_spec {α : Type} (p : α → Bool) (z : α) : ∀ (xs : List α) (k : Nat), (idxByS p xs k = -1 ∧ ∀ j, j < xs.length → p (xs.getD j z) = false) ∨ ∃ i, i < xs.length ∧ idxByS p xs k = ((k + i : Nat) : Int) ∧ p (xs.getD i z) = true ∧ ∀ j, j < i → p (xs.getD j z) = false
 | [], _ => .inl ⟨rfl, fun j hj => absurd hj (by simp)⟩
 | x :: r, k => by
  cases h : p x with
  | true => exact .inr ⟨0, by simp, by simp [idxByS, h], by simpa using h, fun j hj => absurd hj (Nat.not_lt_zero _)⟩
  | false =>
   rcases idx_spec p z r (k + 1) with ⟨e, ha⟩ | ⟨i, hi, e, ht, ha⟩
   ·
    refine .inl ⟨by simp [idxByS, h, e], fun j hj => ?_⟩
    cases j with
    | zero => simpa using h
    | succ j => simpa using ha j (by simpa using hj)
   refine .inr ⟨i + 1, by simpa using hi, by simp only [idxByS, h]; rw [show (if false = true then (k : Int) else idxByS p r (k + 1)) = idxByS p r (k + 1) from rfl, e]; congr 1; omega, by simpa using ht, fun j hj => ?_⟩
   cases j with
   | zero => simpa using h
   | succ j => simpa using ha j (by omega)
def keep {α : Type} (p : α → Bool) (zs : List α) : List α := zs.filter fun x => !p x
structure Inv {α : Type} (p : α → Bool) (zs : List α) (j i : Nat) (dk : List α) : Prop where
 size : dk.length = zs.length
 low : dk.take i = keep p (zs.take j)
 len : (keep p (zs.take j)).length = i
 lt : i < j
 high : dk.drop j = zs.drop j
theorem keep_self {α : Type} (p : α → Bool) (z : α) (zs : List α) (h : ∀ j, j < zs.length → p (zs.getD j z) = false) : keep p zs = zs := by
 unfold keep
 rw [List.filter_eq_self]
 intro x hx
 obtain ⟨j, hj, rfl⟩ := List.mem_iff_getElem.1 hx
 have := h j hj
 rw [gd _ _ hj] at this
 simp [this]
theorem keep_step {α : Type} (p : α → Bool) (z : α) (zs : List α) (j : Nat) (h : j < zs.length) : keep p (zs.take (j + 1)) = keep p (zs.take j) ++ (if p (zs.getD j z) = true then [] else [zs.getD j z]) := by
 unfold keep
 rw [List.take_succ_eq_append_getElem h, List.filter_append, gd _ _ h]
 congr 1
 cases hq : p zs[j] <;> simp [hq]
theorem Inv.start {α : Type} {p : α → Bool} (z : α) {zs : List α} {i : Nat} (hi : i < zs.length) (ht : p (zs.getD i z) = true) (ha : ∀ j, j < i → p (zs.getD j z) = false) : Inv p zs (i + 1) i zs := by
 have h1 : keep p (zs.take i) = zs.take i := keep_self p z _ (fun j hj => by
  have hj' : j < i := by simp at hj; omega
  have := ha j hj'
  rw [gd _ _ (by omega)] at this
  rw [gd _ _ hj, List.getElem_take]; exact this)
 have h2 : keep p (zs.take (i + 1)) = zs.take i := by rw [keep_step p z zs i hi, h1, if_pos ht, List.append_nil]
 exact ⟨rfl, h2.symm, by rw [h2, List.length_take]; omega, Nat.lt_succ_self _, rfl⟩
theorem Inv.skip {α : Type} {p : α → Bool} (z : α) {zs dk : List α} {j i : Nat} (h : Inv p zs j i dk) (hj : j < zs.length) (hq : p (zs.getD j z) = true) : Inv p zs (j + 1) i dk := by
 have h2 : keep p (zs.take (j + 1)) = keep p (zs.take j) := by rw [keep_step p z zs j hj, if_pos hq, List.append_nil]
 refine ⟨h.size, by rw [h2]; exact h.low, by rw [h2]; exact h.len, by have := h.lt; omega, ?_⟩
 rw [← List.tail_drop, ← List.tail_drop, h.high]
theorem Inv.put {α : Type} {p : α → Bool} (z : α) {zs dk : List α} {j i : Nat} (h : Inv p zs j i dk) (hj : j < zs.length) (hq : p (zs.getD j z) = false) : Inv p zs (j + 1) (i + 1) (dk.set i (zs.getD j z)) := by
 have h2 : keep p (zs.take (j + 1)) = keep p (zs.take j) ++ [zs.getD j z] := by rw [keep_step p z zs j hj, if_neg (by rw [hq]; exact Bool.false_ne_true)]
 have hs := h.size
 have hl := h.lt
 refine ⟨by simpa using h.size, ?_, by rw [h2]; simp [h.len], by omega, ?_⟩
 ·
  have hi : i < dk.length := by omega
  rw [h2, ← h.low]
  rw [List.take_set, List.take_succ_eq_append_getElem hi, List.set_append_right _ _ (by rw [List.length_take]; omega)]
  simp [Nat.min_eq_left (Nat.le_of_lt hi)]
 rw [List.drop_set_of_lt (by omega), ← List.tail_drop, ← List.tail_drop, h.high]
theorem Inv.at {α : Type} {p : α → Bool} (z : α) {zs dk : List α} {j i : Nat} (h : Inv p zs j i dk) (hj : j < zs.length) : dk[j]? = some (zs.getD j z) := by
 have := congrArg (·[0]?) h.high
 simp only [List.getElem?_drop, Nat.add_zero] at this
 rw [this, List.getElem?_eq_getElem hj, gd _ _ hj]
def Row (w : World) (base B c n : Nat) (dk : List ByteArray) : Prop := w.ownsRow base 9 1 (.slice (some ⟨B, 0, none⟩) n c) n (dk.map Value.string)
theorem Row.below {w W : World} {base B c n : Nat} {dk : List ByteArray} (h : Row w base B c n dk) (hb : Below w.heap.size w W) : Row W base B c n dk := by
 obtain ⟨h1, h2⟩ := h
 refine ⟨h1, ?_⟩
 rcases h2 with h2 | ⟨g, cap, cur, hv, hg, hh, r⟩
 ·
  exact .inl h2
 exact .inr ⟨g, cap, cur, hv, hg, (hb.block g (Array.getElem?_eq_some_iff.1 hh).1).trans hh, r⟩
theorem Row.base_le {w : World} {base B c n : Nat} {dk : List ByteArray} (h : Row w base B c n dk) : base ≤ B ∧ B < w.heap.size := by
 rcases h.2 with ⟨h2, _⟩ | ⟨g, cap, cur, hv, hg, hh, r⟩
 ·
  cases h2
 cases hv
 exact ⟨hg, (Array.getElem?_eq_some_iff.1 hh).1⟩
theorem Row.cut {w : World} {base B c n i : Nat} {dk : List ByteArray} (h : Row w base B c n dk) (hi : i < n) : Row (w.setCells B i (List.replicate (n - i) (.string ⟨#[]⟩))) base B c i (dk.take i) := by
 rcases h.2 with ⟨h2, _⟩ | ⟨g, cap, cur, hv, hg, hh, r1, r2, r3, r4⟩
 ·
  cases h2
 cases hv
 simp only [Nat.mul_one] at r3 r4
 obtain ⟨cur', h3, h4, h5⟩ := setCells_row (List.replicate (n - i) (.string ⟨#[]⟩)) i w cur hh (by simp; omega)
 have hl : (dk.map Value.string).length = n * 1 := h.1
 refine ⟨by simp at hl ⊢; omega, .inr ⟨B, c, cur', rfl, hg, h3, by omega, r2, by simp; omega, ?_⟩⟩
 rw [h5, Nat.mul_one, List.append_assoc, List.take_append_of_le_length (by simp; omega), List.take_take, Nat.min_self, List.map_take, ← r4, List.take_take, Nat.min_eq_left (by omega)]
theorem below_setCells {b B i : Nat} (vs : List Value) {w W : World} (h : Below b w W) (hb : b ≤ B) : Below b w (W.setCells B i vs) := by
 obtain ⟨h1, h2, h3, h4⟩ := setCells_same B vs i W
 exact h.trans ⟨h1, h2, h3, by omega, fun k hk => setCells_far vs i k (by omega)⟩
theorem infoS : (Tryz.prog.info? 9).map (fun i => (i.zero, i.size, i.bytes)) = some (some (.string ⟨#[]⟩), 1, 16) := by kernel_rfl
theorem zero_of {P : Program} {t : TypeId} {z : Value} {n b : Nat} (h : (P.info? t).map (fun i => (i.zero, i.size, i.bytes)) = some (some z, n, b)) : ∀ w, (zeroValue t).run P w = .ok z w := by
 obtain ⟨i0, hi, hz0, -, -⟩ := info_parts h
 intro w
 simp [zeroValue, typeInfo, hi, hz0]
theorem zero (w : World) : (zeroValue 9).run Tryz.prog w = .ok (.string ⟨#[]⟩) w := zero_of infoS w
end DF
set_option maxHeartbeats 4000000 in
theorem xF1.calls_n (p : ByteArray → Bool) (g : Nat) (lb : Array Value) (eg : ∀ args w, (callFunc g args).run Tryz.prog w = .ok (.enter g args) w) (ok : Nat → Prop) (base B c n : Nat) (zs : List ByteArray) (w : World) (hn : Aside0 (zs.length = n))
  (hr : Kd.R Kd.string 9 w base ok (.slice (some ⟨B, 0, none⟩) zs.length c) zs) (hbig : zs.length ≤ 9223372036854775807)
  (hp : ∀ W x, x ∈ zs → Kept w W (· = B) → Calls Tryz.prog g (#[.string x] ++ lb) W fun e W' => e = .returned (.bool (p x)) ∧ Below W.heap.size W W') :
  Calls Tryz.prog 80 #[.slice (some ⟨B, 0, none⟩) n c, .func (.func g) #[] lb] w fun e w' => ∃ v, e = .returned v ∧ w'.ownsRow base 9 1 v (DF.keep p zs).length ((DF.keep p zs).map Value.string) ∧ (∀ b, b ≤ base → b ≤ w.heap.size → Below b w w') := by
 have hrow : DF.Row w base B c n zs := by
  have := Kd.own_of_R hr
  rw [hn.out] at this
  exact this
 have hcap : n ≤ c := by
  rcases hrow.2 with ⟨h2, _⟩ | ⟨g, cap, cur, hv, hg, hh, r1, r2, r3, r4⟩
  ·
   cases h2
  cases hv; exact r1
 have hC : Kd.C Kd.string w (some ⟨B, 0, none⟩) zs.length zs := (Kd.R_reads' hr).2.2
 have HI := Aside0.mk (xF2.calls p g lb eg (some ⟨B, 0, none⟩) c zs w hC hbig (fun W x hm hb => hp W x hm (Kept.of_below hb _)))
 have HBB := Aside0.mk hrow.base_le
 have HP := Aside0.mk hp
 rw [hn.out] at HI
 have hn9 : n ≤ 9223372036854775807 := by have := hn.out; omega
 rcases DF.idx_spec p ByteArray.empty zs 0 with ⟨e1, hall⟩ | ⟨k0, hk0, e1, ht, hall⟩
 ·
  rw [e1] at HI
  have HK := Aside0.mk (DF.keep_self p ByteArray.empty zs hall)
  have HROW := Aside0.mk hrow
  clear hp hr hC e1 hall hrow
  go_enter Tryz.func80, Tryz.ntmps80
  go_wp2_with (go_at_call 94; refine HI.out.mono ?_; rintro e w' ⟨rfl, hb0⟩; have hb := Aside0.mk hb0; clear hb0)
  go_ret
  refine ⟨_, rfl, ?_, fun b _ h2 => hb.out.mono h2⟩
  rw [HK.out, hn.out]
  exact HROW.out.below hb.out
 have hk0' : k0 < n := by have := hn.out; omega
 simp only [Nat.zero_add] at e1
 rw [e1] at HI
 have hne1 : ((k0 : Int) == -1) = false := beq_eq_false_iff_ne.2 (by omega)
 have HS := Aside0.mk (DF.Inv.start (p := p) ByteArray.empty hk0 ht hall)
 have HROW := Aside0.mk hrow
 clear hp hr hC e1 ht hall hrow hk0
 go_enter Tryz.func80, Tryz.ntmps80
 go_wp2_with (go_at_call 94; refine HI.out.mono ?_; rintro e w1 ⟨rfl, hb0⟩; have hb := Aside0.mk hb0; clear hb0)
 go_loopg [5, 6, 7] n (fun gg s5 s6 _ wr => ∃ (i j : Nat) (dk : List ByteArray), s5 = .int .i64 i ∧ s6 = .int .i64 j ∧ i < j ∧ j ≤ n ∧ n - j ≤ gg ∧ Aside0 (DF.Row wr base B c n dk) ∧ Aside0 (DF.Inv p zs j i dk) ∧ Aside0 (Kept w wr (· = B)) ∧ Aside0 (∀ b, b ≤ base → b ≤ w.heap.size → Below b w wr))
 case atStart => exact ⟨k0, k0 + 1, zs, rfl, by go_num, by omega, by omega, by omega, ⟨HROW.out.below hb.out⟩, HS, ⟨Kept.of_below hb.out _⟩, ⟨fun b _ h2 => hb.out.mono h2⟩⟩
 obtain ⟨i, j, dk, rfl, rfl, hij, hjn, hgg, RW, IV, KP, BL⟩ := hrel
 by_cases hlt : j < n
 rotate_left
 ·
  have hltz : ¬ (j : Int) < (n : Int) := by omega
  obtain rfl : j = n := by omega
  have hcl : ∀ ty, (Builtin.clear_ #[49] ty #[.slice (some ⟨B, i, none⟩) (j - i) (c - i)]).run Tryz.prog wr = .ok (.tuple #[]) (wr.setCells B i (List.replicate (j - i) (.string ⟨#[]⟩))) :=
   fun ty => Lib.run_clear_slice wr _ _ ty _ Tryz.underlying49 (DF.zero) rfl rfl B i _ _ (by omega) (fun t ht => by
    have h := RW.out.cellAt (i + t) (by omega)
    rw [h, List.getElem?_eq_getElem (by have := IV.out.size; have := hn.out; simp; omega)]; rfl) (fun t ht => RW.out.frozenAt (i + t))
  have RC := Aside0.mk (RW.out.cut hij)
  go_wp2
  go_ret
  refine ⟨_, rfl, ?_, fun b h1 h2 => DF.below_setCells _ (BL.out b h1 h2) (Nat.le_trans h1 HBB.out.1)⟩
  have h1 := IV.out.low
  have h2 := IV.out.len
  rw [show zs.take j = zs from List.take_of_length_le (by have := hn.out; omega)] at h1 h2
  rw [h2, ← h1]
  exact RC.out
 have hltz : (j : Int) < (n : Int) := by omega
 have hinL : (i : Int) < (n : Int) := by omega
 have hjz : j < zs.length := by have := hn.out; omega
 have cj := (RW.out.cellAt j (by omega)).trans (show (dk.map Value.string)[j]? = some (.string (zs.getD j ByteArray.empty)) from by rw [List.getElem?_map, IV.out.at ByteArray.empty hjz]; rfl)
 have hmem : zs.getD j ByteArray.empty ∈ zs := by rw [DF.gd _ _ hjz]; exact List.getElem_mem _
 generalize hu : zs.getD j ByteArray.empty = u at cj hmem
 have C := Aside0.mk hu
 have HZ := Aside0.mk hjz
 clear hu hjz
 have hcall := HP.out wr u hmem KP.out
 clear hmem
 cases hq : p u with
 | false =>
  rw [hq] at hcall
  go_wp2_with fail
  refine hcall.mono ?_
  clear hcall
  rintro e w2 ⟨rfl, hb2⟩
  have RW2 := Aside0.mk (RW.out.below hb2)
  have KP2 := Aside0.mk (KP.out.below hb2)
  have BL2 := Aside0.mk (show ∀ b, b ≤ base → b ≤ w.heap.size → Below b w w2 from fun b h1 h2 => (BL.out b h1 h2).trans (hb2.mono (Nat.le_trans h2 KP.out.1)))
  clear cj hb2
  obtain ⟨old, ho⟩ : ∃ old, dk[i]? = some old := ⟨_, List.getElem?_eq_getElem (by have := IV.out.size; have := hn.out; omega)⟩
  have ci := (RW2.out.cellAt i (by omega)).trans (show (dk.map Value.string)[i]? = some (.string old) from by rw [List.getElem?_map, ho]; rfl)
  have fi := RW2.out.frozenAt i
  have ST := Aside0.mk (RW2.out.stored i (.string u)).1
  clear ho
  go_wp2_with fail
  go_roundg (n - (j + 1))
  case measure => omega
  refine ⟨i + 1, j + 1, dk.set i u, by go_num, by go_num, by omega, by omega, by omega, ⟨?_⟩, ⟨?_⟩, ⟨?_⟩, ⟨?_⟩⟩
  ·
   have := ST.out
   unfold DF.Row
   rw [List.map_set]; exact this
  ·
   have := IV.out.put ByteArray.empty HZ.out (by rw [C.out]; exact hq)
   rwa [C.out] at this
  ·
   exact KP2.out.setCell (.inl rfl) _
  exact fun b h1 h2 => (BL2.out b h1 h2).setCell (Nat.le_trans h1 HBB.out.1) _
 | true =>
  rw [hq] at hcall
  go_wp2_with fail
  refine hcall.mono ?_
  clear hcall
  rintro e w2 ⟨rfl, hb2⟩
  have RW2 := Aside0.mk (RW.out.below hb2)
  have KP2 := Aside0.mk (KP.out.below hb2)
  have BL2 := Aside0.mk (show ∀ b, b ≤ base → b ≤ w.heap.size → Below b w w2 from fun b h1 h2 => (BL.out b h1 h2).trans (hb2.mono (Nat.le_trans h2 KP.out.1)))
  clear cj hb2
  go_wp2_with fail
  go_roundg (n - (j + 1))
  case measure => omega
  case rel => exact ⟨i, j + 1, dk, rfl, by go_num, by omega, by omega, by omega, RW2, ⟨IV.out.skip ByteArray.empty HZ.out (by rw [C.out]; exact hq)⟩, KP2, BL2⟩
set_option maxHeartbeats 1000000 in
theorem xF2.calls_nil (g : Nat) (lb : Array Value) (w : World) :
  Calls Tryz.prog 94 #[.slice none 0 0, .func (.func g) #[] lb] w fun e w' => e = .returned (.int .i64 (-1)) ∧ Below w.heap.size w w' := by
 have HB := Aside0.mk (Below.refl w.heap.size w)
 go_enter Tryz.func94, Tryz.ntmps94
 go_wp2
 go_loopg [5, 8] 0 (fun gg _ s8 wr => s8 = .int .i64 0 ∧ Aside0 (Below w.heap.size w wr))
 case atStart => exact ⟨rfl, HB⟩
 obtain ⟨rfl, HB2⟩ := hrel
 go_wp2
 go_ret
 exact ⟨rfl, HB2.out⟩
set_option maxHeartbeats 1000000 in
theorem xF1.calls_nil (p : ByteArray → Bool) (g : Nat) (lb : Array Value) (eg : ∀ args w, (callFunc g args).run Tryz.prog w = .ok (.enter g args) w) (base : Nat) (w : World) :
  Calls Tryz.prog 80 #[.slice none 0 0, .func (.func g) #[] lb] w fun e w' => ∃ v, e = .returned v ∧ w'.ownsRow base 9 1 v 0 [] ∧ Below w.heap.size w w' := by
 have HI := Aside0.mk (xF2.calls_nil g lb w)
 go_enter Tryz.func80, Tryz.ntmps80
 go_wp2_with fail
 refine HI.out.mono ?_
 rintro e w1 ⟨rfl, hb0⟩
 have hb := Aside0.mk hb0
 clear hb0
 go_wp2_with fail
 go_ret
 exact ⟨_, rfl, World.ownsRow_nil _ _ _ _, hb.out⟩
theorem xF1.calls (p : ByteArray → Bool) (g : Nat) (lb : Array Value) (eg : ∀ args w, (callFunc g args).run Tryz.prog w = .ok (.enter g args) w) (ok : Nat → Prop) (base : Nat) (A : Option Addr) (c : Nat) (zs : List ByteArray) (w : World) (hbw : base ≤ w.heap.size)
  (hr : Kd.R Kd.string 9 w base ok (.slice A zs.length c) zs) (hbig : zs.length ≤ 9223372036854775807)
  (hp : ∀ W x, x ∈ zs → Kept w W (fun k => base ≤ k) → Calls Tryz.prog g (#[.string x] ++ lb) W fun e W' => e = .returned (.bool (p x)) ∧ Below W.heap.size W W') :
  Calls Tryz.prog 80 #[.slice A zs.length c, .func (.func g) #[] lb] w fun e w' => ∃ v, e = .returned v ∧ Kd.R Kd.string 9 w' base (fun _ => True) v (DF.keep p zs) ∧ Below base w w' := by
 rcases (Kd.own_of_R hr).2 with ⟨hv, hz⟩ | ⟨B, cap, cur, hv, hg, hh, r⟩
 ·
  have hzs : zs = [] := List.eq_nil_of_length_eq_zero hz
  subst hzs
  cases hv
  refine (xF1.calls_nil p g lb eg base w).mono ?_
  rintro e w' ⟨v, rfl, hrow, hb⟩
  exact ⟨v, rfl, Kd.R_of_own (h1 := fun _ => rfl) hrow (fun _ _ => trivial), hb.mono hbw⟩
 injection hv with h1 h2 h3
 subst h1
 refine (xF1.calls_n p g lb eg ok base B c zs.length zs w ⟨rfl⟩ hr hbig (fun W x hm hk => hp W x hm (hk.mono (fun k e => e ▸ hg)))).mono ?_
 rintro e w' ⟨v, rfl, hrow, hb⟩
 exact ⟨v, rfl, Kd.R_of_own (h1 := fun _ => rfl) hrow (fun _ _ => trivial), hb base (Nat.le_refl _) hbw⟩
end Go.Proofs.YtfhffcefpnkllaaGreatDoor.P
namespace Go.Proofs.YtfhffcefpnkllaaGreatDoor.P
open Go.RowKit Go.Proofs.YtfhffcefpnkllaaGreatDoorW.PrintWords Go.Proofs.YtfhffcefpnkllaaGreatDoorW.PrintLast Go.Proofs.YtfhffcefpnkllaaGreatDoorW.PrintMore
attribute [local go_sem] max2_int min2_int max_two min_two max_three min_three max_four min_four
def filt {α : Type} (f : α → Option Bool) (zs : List α) : Option (List α) := if zs.all (fun x => (f x).isSome) = true then some (zs.filter fun x => (f x).getD false) else none
theorem filt_some {α : Type} {f : α → Option Bool} {zs ys : List α} (h : filt f zs = some ys) : ∃ q : α → Bool, (∀ x, x ∈ zs → f x = some (q x)) ∧ ys = zs.filter q := by
 unfold filt at h
 by_cases c : zs.all (fun x => (f x).isSome) = true
 ·
  rw [if_pos c] at h
  cases h
  refine ⟨fun x => (f x).getD false, fun x hx => ?_, rfl⟩
  have := List.all_eq_true.1 c x hx
  obtain ⟨b, hb⟩ := Option.isSome_iff_exists.1 this
  simp [hb]
 rw [if_neg c] at h; cases h
theorem filt_of {α : Type} {f : α → Option Bool} {zs : List α} (q : α → Bool) (h : ∀ x, x ∈ zs → f x = some (q x)) : filt f zs = some (zs.filter q) := by
 unfold filt
 rw [if_pos (List.all_eq_true.2 fun x hx => by rw [h x hx]; rfl)]
 congr 1
 exact List.filter_congr fun x hx => by rw [h x hx]; rfl
theorem filt_mono {α : Type} {f g : α → Option Bool} (zs : List α) (h : ∀ x, LeO (f x) (g x)) : LeO (filt f zs) (filt g zs) := by
 intro ys hy
 obtain ⟨q, hq, rfl⟩ := filt_some hy
 exact filt_of q fun x hx => h x _ (hq x hx)
def anyf {α : Type} (f : α → Option Bool) (zs : List α) : Option Bool := if zs.all (fun x => (f x).isSome) = true then some (zs.any fun x => (f x).getD false) else none
theorem anyf_some {α : Type} {f : α → Option Bool} {zs : List α} {b : Bool} (h : anyf f zs = some b) : ∃ q : α → Bool, (∀ x, x ∈ zs → f x = some (q x)) ∧ b = zs.any q := by
 unfold anyf at h
 by_cases c : zs.all (fun x => (f x).isSome) = true
 ·
  rw [if_pos c] at h
  cases h
  refine ⟨fun x => (f x).getD false, fun x hx => ?_, rfl⟩
  have := List.all_eq_true.1 c x hx
  obtain ⟨b, hb⟩ := Option.isSome_iff_exists.1 this
  simp [hb]
 rw [if_neg c] at h; cases h
theorem anyf_of {α : Type} {f : α → Option Bool} {zs : List α} (q : α → Bool) (h : ∀ x, x ∈ zs → f x = some (q x)) : anyf f zs = some (zs.any q) := by
 unfold anyf
 rw [if_pos (List.all_eq_true.2 fun x hx => by rw [h x hx]; rfl)]
 congr 1
 rw [Bool.eq_iff_iff, List.any_eq_true, List.any_eq_true]
 exact ⟨fun ⟨x, hx, e⟩ => ⟨x, hx, by rw [h x hx] at e; exact e⟩, fun ⟨x, hx, e⟩ => ⟨x, hx, by rw [h x hx]; exact e⟩⟩
theorem anyf_mono {α : Type} {f g : α → Option Bool} (zs : List α) (h : ∀ x, LeO (f x) (g x)) : LeO (anyf f zs) (anyf g zs) := by
 intro ys hy
 obtain ⟨q, hq, rfl⟩ := anyf_some hy
 exact anyf_of q fun x hx => h x _ (hq x hx)
def sumf {α : Type} (f : α → Option Int) : List α → Int → Option Int
 | [], a => some a
 | x :: r, a => (f x).bind fun v => sumf f r (wrap64 (a + v))
theorem sumf_mono {α : Type} {f g : α → Option Int} (h : ∀ x, LeO (f x) (g x)) : ∀ (zs : List α) (a : Int), LeO (sumf f zs a) (sumf g zs a)
 | [], _ => LeO.refl _
 | x :: r, a => LeO.bind (h x) fun v => sumf_mono h r _
end Go.Proofs.YtfhffcefpnkllaaGreatDoor.P
namespace Go.Proofs.YtfhffcefpnkllaaGreatDoor.P
open Go.RowKit Go.Proofs.YtfhffcefpnkllaaGreatDoorW.PrintWords Go.Proofs.YtfhffcefpnkllaaGreatDoorW.PrintLast Go.Proofs.YtfhffcefpnkllaaGreatDoorW.PrintMore
open Go.Proofs.YtfhffcefpnkllaaGreatDoorW.PrintWords renaming blk_frozen → bF_, blk_cell → bC_, below_set → bS_, blk_below → bB_, below_step → bT_, pw_below_drewN → bN_, below_size → bZ_, below_drew1 → bD_, below_alloc → bA_, blk_far → bR_, gate_callee → gC_, gate_dst → gD_, box_event → bE_, blk_drew → b1_, blk_put → bP_, blk_drewN → b2_, blk_alloc → b3_, blk_lt → bL_, cell_far → cF_
open Go.Proofs.YtfhffcefpnkllaaGreatDoorW.PrintLast renaming any_of → aO_, i64_w → i6_, i32_w → i3_, take_ofW → tW_
open Go.Proofs.YtfhffcefpnkllaaGreatDoorW.PrintWords.Kd renaming R_below → kB_, R_mono → kM_, R_far → kF_, R_reads' → kR_, R_types → kT_, R_slice → kS_, R_celln → kC_, R_alloc → k1_, R_drewN → k2_, R_drew → k3_, C_below → k4_, R_lower → k5_, R_ne → k6_, own_blk → k7_
open Go.Proofs.YtfhffcefpnkllaaGreatDoorW.PrintWords.LeO renaming none → l0_, bind → l1_, ite → l2_, refl → l3_
open World renaming block_lt_of_cell? → wB_
open _root_.Option renaming bind_eq_some_iff → oB_
open _root_.ByteArray renaming empty → eB_
open List renaming setIfInBounds_toArray → sA_, set_cons_zero → sB_, set_cons_succ → sC_, map_toArray → sD_, map_cons → sE_, map_nil → sF_, length_drop → sG_, length_take → sH_
open Bool renaming true → ty, false → fy
open Aside0 renaming mk → aM_
attribute [local go_sem] max2_int min2_int max_two min_two max_three min_three max_four min_four
def xF46.l0 : Nat → List ByteArray → ByteArray → Int → Int → Option (Int)
 | 0, _, _, _, _ => none
 | k + 1, x0, x1, x7, x8 => if x8 < x7 then (if 0 ≤ x8 then (if x8 < (x0.length : Int) then (if x1.toList = (rdOf eB_ x0 x8).toList then (some x8) else (xF46.l0 k x0 x1 x7 (wrap64 (x8 + 1)))) else (none)) else (none)) else (some (-1))
def xF46.f (k : Nat) (l0 : List ByteArray) (a1 : ByteArray) : Option (Int) := xF46.l0 k l0 a1 (l0.length : Int) 0
theorem xF46.mono_l : ∀ k, (∀ y0 y1 y2 y3, LeO (xF46.l0 k y0 y1 y2 y3) (xF46.l0 (k + 1) y0 y1 y2 y3))
 | 0 => fun _ _ _ _ r h => by simp [xF46.l0] at h
 | k + 1 => by
  have ih0 := xF46.mono_l k
  intro y0 y1 y2 y3
  unfold xF46.l0
  repeat' with_reducible first | exact ih0 _ _ _ _ | exact l3_ _ | exact l0_ _ | refine l2_ ?_ ?_ | refine l1_ ?_ (fun _ => ?_)
theorem xF46.mono : ∀ a0 a1 k, LeO (xF46.f k a0 a1) (xF46.f (k + 1) a0 a1) := by
 intro a0 a1 k
 have ih0 := xF46.mono_l k
 unfold xF46.f
 repeat' with_reducible first | exact ih0 _ _ _ _ | exact l3_ _ | exact l0_ _ | refine l2_ ?_ ?_ | refine l1_ ?_ (fun _ => ?_)
theorem xF46.calls (k : Nat) (A0 : Option Addr) (c0 : Nat) (l0 : List ByteArray) (a1 : ByteArray) (r : Int) (w : World) (hr0 : Kd.C Kd.string w A0 l0.length l0) (hc0 : l0.length ≤ c0) (h : xF46.f k l0 a1 = some r) :
  Calls Tryz.prog 37 #[.slice A0 l0.length c0, .string a1] w fun e w' => e = .returned (.int .i64 r) ∧ Drawn0 w w' := by
 have HR0 := aM_ hr0
 have HC0 := aM_ hc0
 clear hr0 hc0
 have H : (xF46.l0 k l0 a1 (l0.length : Int) 0) = some r := h
 clear h
 have H' := aM_ H
 clear H
 go_enter Tryz.func37, Tryz.ntmps37
 go_wp2
 go_loopg [8] k (fun kq v8 w' => ∃ (x8_1 : Int), v8 = .int .i64 x8_1 ∧ Aside0 (xF46.l0 kq l0 a1 (l0.length : Int) x8_1 = some r) ∧ Aside0 (kq ≤ k) ∧ Drawn0 w w')
 case atStart => exact ⟨(0), (by rfl), H', ⟨Nat.le_refl _⟩, by repeat (first | exact Drawn0.refl _ | apply Drawn0.step)⟩
 clear H'
 try clear p2
 obtain ⟨x8_1, rfl, HA, HK1, ⟨m1, rfl⟩⟩ := hrel
 cases gk with
 | zero => exact absurd HA.out (by simp [xF46.l0])
 | succ k1 =>
  have H := HA.out
  clear HA
  simp only [xF46.l0] at H
  by_cases c3 : x8_1 < (l0.length : Int)
  rotate_left
  ·
   rw [if_neg c3] at H
   have c3b0 := dF_ c3
   clear c3
   obtain rfl := Option.some.inj H
   go_wp2
   go_ret
   exact ⟨by rfl, by repeat (first | exact Drawn0.refl _ | apply Drawn0.step)⟩
  rw [if_pos c3] at H
  have c3b0 := dT_ c3
  clear c3
  by_cases c4 : 0 ≤ x8_1
  rotate_left
  ·
   rw [if_neg c4] at H
   exact absurd H (by simp)
  rw [if_pos c4] at H
  have c4b0 := dT_ c4
  clear c4
  by_cases c5 : x8_1 < (l0.length : Int)
  rotate_left
  ·
   rw [if_neg c5] at H
   exact absurd H (by simp)
  rw [if_pos c5] at H
  have c5b0 := dT_ c5
  clear c5
  by_cases c6 : a1.toList = (rdOf eB_ l0 x8_1).toList
  ·
   rw [if_pos c6] at H
   have c6b0 : (a1.toList == (rdOf eB_ l0 x8_1).toList) = true := beq_iff_eq.mpr c6
   have c6b1 : (a1.toList != (rdOf eB_ l0 x8_1).toList) = false := bne_eq_false_iff_eq.mpr c6
   clear c6
   obtain rfl := Option.some.inj H
   have p450 : 0 ≤ (x8_1 : Int) := oD_ ‹_›
   have q450 : x8_1 < (l0.length : Int) := oD_ ‹_›
   obtain ⟨ad450, e450, hx450_0⟩ := Kd.at_string HR0.out x8_1 p450 q450
   cases e450
   replace p450 := eq_true p450
   replace q450 := eq_true q450
   go_wp2
   go_ret
   exact ⟨by rfl, by repeat (first | exact Drawn0.refl _ | apply Drawn0.step)⟩
  rw [if_neg c6] at H
  have c6b0 : (a1.toList == (rdOf eB_ l0 x8_1).toList) = false := beq_eq_false_iff_ne.mpr c6
  have c6b1 : (a1.toList != (rdOf eB_ l0 x8_1).toList) = true := bne_iff_ne.mpr c6
  have H' := aM_ H
  clear H
  have p450 : 0 ≤ (x8_1 : Int) := oD_ ‹_›
  have q450 : x8_1 < (l0.length : Int) := oD_ ‹_›
  obtain ⟨ad450, e450, hx450_0⟩ := Kd.at_string HR0.out x8_1 p450 q450
  cases e450
  replace p450 := eq_true p450
  replace q450 := eq_true q450
  go_wp2
  go_roundg k1
  case measure => have := HK1.out; omega
  case rel => exact ⟨(wrap64 (x8_1 + 1)), (by rfl), H', ⟨by have := HK1.out; omega⟩, by repeat (first | exact Drawn0.refl _ | apply Drawn0.step)⟩
def xF45.f (k : Nat) (l0 : List ByteArray) (a1 : ByteArray) : Option (Bool) := (xF46.f k l0 a1).bind fun t451 => (some (decide (t451 ≥ 0)))
theorem xF45.mono : ∀ a0 a1 k, LeO (xF45.f k a0 a1) (xF45.f (k + 1) a0 a1) := by
 intro a0 a1 k
 unfold xF45.f
 repeat' with_reducible first | exact xF46.mono _ _ _ | exact l3_ _ | exact l0_ _ | refine l2_ ?_ ?_ | refine l1_ ?_ (fun _ => ?_)
theorem xF45.calls (k : Nat) (A0 : Option Addr) (c0 : Nat) (l0 : List ByteArray) (a1 : ByteArray) (r : Bool) (w : World) (hr0 : Kd.C Kd.string w A0 l0.length l0) (hc0 : l0.length ≤ c0) (h : xF45.f k l0 a1 = some r) :
  Calls Tryz.prog 65 #[.slice A0 l0.length c0, .string a1] w fun e w' => e = .returned (.bool r) ∧ Drawn0 w w' := by
 have HR0 := aM_ hr0
 have HC0 := aM_ hc0
 clear hr0 hc0
 have H : ((xF46.f k l0 a1).bind fun t451 => (some (decide (t451 ≥ 0)))) = some r := h
 clear h
 replace H := oB_.mp H
 obtain ⟨t451, A30, H⟩ := H
 try dsimp only at H
 have A3 := aM_ A30
 clear A30
 obtain rfl := Option.some.inj H
 go_enter Tryz.func65, Tryz.ntmps65
 go_wp2_with (first | (refine gs_ 7 Tryz.func37 #[.slice A0 l0.length c0, .string a1] ?_; (with_reducible refine (xF46.calls k _ _ l0 a1 t451 _ ?side1 HC0.out A3.out).mono ?_); (case side1 => repeat (first | exact HR0.out | with_reducible first | apply cA_ | apply cN_ | apply cD_)); rintro e w' ⟨rfl, ⟨nd, rfl⟩⟩; refine ⟨_, rfl, ?_⟩))
 go_ret
 exact ⟨by rfl, by repeat (first | exact Drawn0.refl _ | apply Drawn0.step)⟩
def iF17.l0 : Nat → List ByteArray → List ByteArray → List (S76) → Int → Int → Option (List ByteArray)
 | 0, _, _, _, _, _ => none
 | k + 1, x3, x5, x15, x16, x17 => if x17 < x16 then (if 0 ≤ x17 then (if x17 < (x15.length : Int) then (if (rd_T76 x15 x17).f2 = true then (if x17 < (x3.length : Int) then (if x5.length < 8796093022208 then (iF17.l0 k x3 (x5 ++ [rdOf eB_ x3 x17]) x15 x16 (wrap64 (x17 + 1))) else (none)) else (none)) else (iF17.l0 k x3 x5 x15 x16 (wrap64 (x17 + 1)))) else (none)) else (none)) else (some x5)
def iF17.f (k : Nat) (l0_0 : List (S76)) : Option (List ByteArray) := (iF14.f k l0_0).bind fun bt453 => (iF17.l0 k bt453.1 (([] : List ByteArray)) l0_0 (l0_0.length : Int) 0)
theorem iF17.mono_l : ∀ k, (∀ y0 y1 y2 y3 y4, LeO (iF17.l0 k y0 y1 y2 y3 y4) (iF17.l0 (k + 1) y0 y1 y2 y3 y4))
 | 0 => fun _ _ _ _ _ r h => by simp [iF17.l0] at h
 | k + 1 => by
  have ih0 := iF17.mono_l k
  intro y0 y1 y2 y3 y4
  unfold iF17.l0
  repeat' with_reducible first | exact ih0 _ _ _ _ _ | exact iF14.mono _ _ | exact l3_ _ | exact l0_ _ | refine l2_ ?_ ?_ | refine l1_ ?_ (fun _ => ?_)
theorem iF17.mono : ∀ a0 k, LeO (iF17.f k a0) (iF17.f (k + 1) a0) := by
 intro a0 k
 have ih0 := iF17.mono_l k
 unfold iF17.f
 repeat' with_reducible first | exact ih0 _ _ _ _ _ | exact iF14.mono _ _ | exact l3_ _ | exact l0_ _ | refine l2_ ?_ ?_ | refine l1_ ?_ (fun _ => ?_)
theorem iF17.calls (k : Nat) (A0_0 : Option Addr) (c0_0 : Nat) (l0_0 : List (S76)) (r : List ByteArray) (w : World) (hr0_0 : Kd.C k76 w A0_0 l0_0.length l0_0) (hc0_0 : l0_0.length ≤ c0_0) (h : iF17.f k l0_0 = some r) :
  Calls Tryz.prog 66 #[.agg #[.slice A0_0 l0_0.length c0_0]] w fun e w' => ∃ v0_ : Value, e = .returned (v0_) ∧ Kd.R Kd.string 9 w' w.heap.size (fun _ => True) v0_ r ∧ Below w.heap.size w w' := by
 have hu36 := Tryz.underlying36
 have hu76 := Tryz.underlying76
 have HR0_0 := aM_ hr0_0
 have HC0_0 := aM_ hc0_0
 clear hr0_0 hc0_0
 have HB := aM_ (Below.refl w.heap.size w)
 have H : ((iF14.f k l0_0).bind fun bt453 => (iF17.l0 k bt453.1 (([] : List ByteArray)) l0_0 (l0_0.length : Int) 0)) = some r := h
 clear h
 replace H := oB_.mp H
 obtain ⟨⟨t453, t456⟩, A20, H⟩ := H
 try dsimp only at H
 have A2 := aM_ A20
 clear A20
 obtain ⟨y457, hy457⟩ : ∃ y_ : List ByteArray, y_ = (([] : List ByteArray)) := ⟨_, rfl⟩
 replace H : (iF17.l0 k t453 y457 l0_0 (l0_0.length : Int) 0) = some r := by (try rw [hy457]); first | with_reducible exact H | with_reducible exact oS_ H | exact H
 have Ny457 := aM_ hy457
 clear hy457
 have H' := aM_ H
 clear H
 go_enter Tryz.func66, Tryz.ntmps66
 go_wp2_with (first | (refine bx_ 1 #[.slice A0_0 l0_0.length c0_0] 36 ?_; intro gb452 hg w3 hbox hb; have BK452 := aM_ (hbox); have GW452 := gw_ hg HB; replace HB := b4_ HB hb; clear hb hbox hg; have hcz4_0 := c0_ BK452; have hfz4_0 := bF_ BK452.out 0) | (refine gs_ 10 Tryz.func83 #[.agg #[.slice A0_0 l0_0.length c0_0]] ?_; (with_reducible refine (iF14.calls k _ _ l0_0 t453 t456 _ ?side1 HC0_0.out A2.out).mono ?_); (case side1 => repeat (first | exact (k4_ HR0_0.out HB.out) | with_reducible first | apply cA_ | apply cN_ | apply cD_)); rintro e w5 ⟨v454, rfl, ho0, hb⟩; refine ⟨_, rfl, ?_⟩; have HO455 := aM_ (k5_ ho0 (bZ_ HB.out)); replace BK452 := b5_ BK452 hb; replace HB := b4_ HB hb; (try clear hb); (try clear ho0)) | ((with_reducible refine gD_ (N := 13) rfl ?_); refine Kd.R_lit Kd.string _ 9 ?hg (N := 13) ?hd (xs := ([] : List ByteArray)) (inner := []) (ok := fun _ => True) (okp := fun _ => True) ?hr ?hp (fun _ hk => hk) trivial (Below.refl _ _) (Nat.le_refl _) (by simp) ?_; (case hd => rfl); (case hg => rfl); (case hr => (go_simp; done)); (case hp => exact (Reps.none _ _)); intro v458 w6 ho7 hb hg_ hnew_; clear hg_ hnew_; (rw [← Ny457.out] at ho7); have HO459 := aM_ (k5_ (Kd.R_new' ho7 (Kd.R_lt HO455.out)) (bZ_ HB.out)); replace HO455 := aM_ (Kd.R_elder' HO455.out (Kd.R_base ho7) hb); replace BK452 := b5_ BK452 hb; replace HB := b4_ HB hb; clear hb ho7; have hcz8_0 := c0_ BK452; have hfz8_0 := bF_ BK452.out 0))
 go_loopg [5, 17] k (fun kq v5 v17 w' => ∃ (x5_1 : List ByteArray) (x17_1 : Int), v17 = .int .i64 x17_1 ∧ Aside0 (iF17.l0 kq t453 x5_1 l0_0 (l0_0.length : Int) x17_1 = some r) ∧ Aside0 (kq ≤ k) ∧ Aside0 (Kd.R Kd.string 9 w' w.heap.size (fun k_ => some k_ ≠ (v5 : Value).ownBlock) v454 t453) ∧ Aside0 (Kd.R Kd.string 9 w' w.heap.size (fun k_ => some k_ ≠ (v454 : Value).ownBlock) v5 x5_1) ∧ Aside0 (w'.heap[gb452]? = some (.cells #[(.slice A0_0 l0_0.length c0_0)] 36 (0, 0))) ∧ Aside0 (Below w.heap.size w w'))
 case atStart => exact ⟨(y457), (0), (by rfl), H', ⟨Nat.le_refl _⟩, ⟨by exact kM_ HO455.out (fun _ hk => hk.2)⟩, ⟨by exact kM_ HO459.out (fun _ hk => hk.2)⟩, ⟨BK452.out⟩, ⟨HB.out⟩⟩
 clear H'
 try clear p2
 try clear hcz4_0
 try clear hcz8_0
 try clear hfz4_0
 try clear hfz8_0
 obtain ⟨x5_1, x17_1, rfl, HA, HK1, HO_3, HO_5, BK452, HB⟩ := hrel
 cases gk with
 | zero => exact absurd HA.out (by simp [iF17.l0])
 | succ k1 =>
  have H := HA.out
  clear HA
  simp only [iF17.l0] at H
  by_cases c9 : x17_1 < (l0_0.length : Int)
  rotate_left
  ·
   rw [if_neg c9] at H
   have c9b0 := dF_ c9
   clear c9
   obtain rfl := Option.some.inj H
   go_wp2
   go_ret
   exact ⟨_, by rfl, by exact kM_ HO_5.out (fun _ hk => trivial), by exact HB.out⟩
  rw [if_pos c9] at H
  have c9b0 := dT_ c9
  clear c9
  by_cases c10 : 0 ≤ x17_1
  rotate_left
  ·
   rw [if_neg c10] at H
   exact absurd H (by simp)
  rw [if_pos c10] at H
  have c10b0 := dT_ c10
  clear c10
  by_cases c11 : x17_1 < (l0_0.length : Int)
  rotate_left
  ·
   rw [if_neg c11] at H
   exact absurd H (by simp)
  rw [if_pos c11] at H
  have c11b0 := dT_ c11
  clear c11
  obtain ⟨bq12, hbq12⟩ : ∃ b_ : Bool, b_ = ((rd_T76 l0_0 x17_1).f2) := ⟨_, rfl⟩
  replace H : (if bq12 = true then (if x17_1 < (t453.length : Int) then (if x5_1.length < 8796093022208 then (iF17.l0 k1 t453 (x5_1 ++ [rdOf eB_ t453 x17_1]) l0_0 (l0_0.length : Int) (wrap64 (x17_1 + 1))) else (none)) else (none)) else (iF17.l0 k1 t453 x5_1 l0_0 (l0_0.length : Int) (wrap64 (x17_1 + 1)))) = some r := by rw [← hbq12] at H; exact H
  have Nbq12 := aM_ hbq12
  clear hbq12
  by_cases c13 : bq12 = true
  rotate_left
  ·
   replace c13 := Bool.eq_false_iff.mpr c13
   subst c13
   replace H : (iF17.l0 k1 t453 x5_1 l0_0 (l0_0.length : Int) (wrap64 (x17_1 + 1))) = some r := by rw [if_neg (show ¬ (false = true) by decide)] at H; exact H
   have H' := aM_ H
   clear H
   have p460 : 0 ≤ (x17_1 : Int) := oD_ ‹_›
   have q460 : x17_1 < (l0_0.length : Int) := oD_ ‹_›
   obtain ⟨ad460, e460, hx460_0, hx460_1, hx460_2⟩ := at_T76 HR0_0.out x17_1 p460 q460
   (try rw [← Nbq12.out] at hx460_2)
   cases e460
   replace hx460_0 := cb_ HB hx460_0
   replace hx460_1 := cb_ HB hx460_1
   replace hx460_2 := cb_ HB hx460_2
   replace p460 := eq_true p460
   replace q460 := eq_true q460
   go_wp2_with (first | (refine bx_ 7 #[.int .i64 0, .int .i64 0, .bool false] 76 ?_; intro gb461 hg w21 hbox hb; replace HO_3 := k9_ HO_3 hb; replace HO_5 := k9_ HO_5 hb; have BK461 := aM_ (hbox); have GW461 := gw_ hg HB; replace HB := b4_ HB hb; have NB452_461 := nb_ hg BK452; have NB461_452 := ns_ NB452_461; replace BK452 := b5_ BK452 hb; clear hb hbox hg; have hnb22 := NB461_452.out; have hnc22 := NB452_461.out; have hcz23_0 := c0_ BK461; have hcz23_1 := c1_ BK461; have hcz23_2 := c2_ BK461; have hfz23_0 := bF_ BK461.out 0; have hfz23_1 := bF_ BK461.out 1; have hfz23_2 := bF_ BK461.out 2))
   go_roundg k1
   case measure => have := HK1.out; omega
   case rel => exact ⟨(x5_1), (wrap64 (x17_1 + 1)), (by rfl), H', ⟨by have := HK1.out; omega⟩, ⟨by exact kM_ (kG_ (kG_ (kG_ (kT_ HO_3.out BK461.out (by decide))))) (fun _ hk => hk.1)⟩, ⟨by exact kM_ (kG_ (kG_ (kG_ (kT_ HO_5.out BK461.out (by decide))))) (fun _ hk => hk.1)⟩, ⟨by exact br_ NB452_461.out (br_ NB452_461.out (br_ NB452_461.out (BK452.out)))⟩, ⟨by repeat with_reducible first | exact HB.out | apply bA_ | apply bN_ | apply bD_ | refine bS_ ?_ (Aside0.out ‹_›)⟩⟩
  subst c13
  rw [if_pos rfl] at H
  by_cases c14 : x17_1 < (t453.length : Int)
  rotate_left
  ·
   rw [if_neg c14] at H
   exact absurd H (by simp)
  rw [if_pos c14] at H
  have c14b0 := dT_ c14
  clear c14
  by_cases c15 : x5_1.length < 8796093022208
  rotate_left
  ·
   rw [if_neg c15] at H
   exact absurd H (by simp)
  rw [if_pos c15] at H
  have LMc15 := aM_ c15
  clear c15
  obtain ⟨y463, hy463⟩ : ∃ y_ : List ByteArray, y_ = (x5_1 ++ [rdOf eB_ t453 x17_1]) := ⟨_, rfl⟩
  replace H : (iF17.l0 k1 t453 y463 l0_0 (l0_0.length : Int) (wrap64 (x17_1 + 1))) = some r := by (try rw [hy463]); first | with_reducible exact H | with_reducible exact oS_ H | exact H
  have Ny463 := aM_ hy463
  clear hy463
  have H' := aM_ H
  clear H
  have p460 : 0 ≤ (x17_1 : Int) := oD_ ‹_›
  have q460 : x17_1 < (l0_0.length : Int) := oD_ ‹_›
  obtain ⟨ad460, e460, hx460_0, hx460_1, hx460_2⟩ := at_T76 HR0_0.out x17_1 p460 q460
  (try rw [← Nbq12.out] at hx460_2)
  cases e460
  replace hx460_0 := cb_ HB hx460_0
  replace hx460_1 := cb_ HB hx460_1
  replace hx460_2 := cb_ HB hx460_2
  replace p460 := eq_true p460
  replace q460 := eq_true q460
  go_wp2_with (first | (refine bx_ 7 #[.int .i64 0, .int .i64 0, .bool false] 76 ?_; intro gb461 hg w16 hbox hb; replace HO_3 := k9_ HO_3 hb; replace HO_5 := k9_ HO_5 hb; have BK461 := aM_ (hbox); have GW461 := gw_ hg HB; replace HB := b4_ HB hb; have NB452_461 := nb_ hg BK452; have NB461_452 := ns_ NB452_461; replace BK452 := b5_ BK452 hb; clear hb hbox hg; have hnb17 := NB461_452.out; have hnc17 := NB452_461.out; have hcz18_0 := c0_ BK461; have hcz18_1 := c1_ BK461; have hcz18_2 := c2_ BK461; have hfz18_0 := bF_ BK461.out 0; have hfz18_1 := bF_ BK461.out 1; have hfz18_2 := bF_ BK461.out 2; obtain ⟨Ao19, co19, eo19⟩ := kS_ HO_3.out; subst eo19; have p462 : 0 ≤ (x17_1 : Int) := oD_ ‹_›; have q462 : x17_1 < (t453.length : Int) := oD_ ‹_›; obtain ⟨ad462, e462, hx462_0⟩ := Kd.at_string (kR_ HO_3.out).2.2 x17_1 p462 q462; cases e462; have hn462_0 : ad462.block ≠ gb461 := k7_ (k6_ HO_3.out BK461.out (by decide)); have hn462_1 : ad462.block ≠ gb461 := k7_ (k6_ HO_3.out BK461.out (by decide)); have hn462_2 : ad462.block ≠ gb461 := k7_ (k6_ HO_3.out BK461.out (by decide)); replace hx462_0 := (cF_ (p := ⟨gb461, 0, none⟩) (by (rw [add_block]; exact hn462_0)) (.int .i64 ((rd_T76 l0_0 x17_1).f0))).trans hx462_0; replace hx462_0 := (cF_ (p := ⟨gb461, 1, none⟩) (by (rw [add_block]; exact hn462_1)) (.int .i64 ((rd_T76 l0_0 x17_1).f1))).trans hx462_0; replace hx462_0 := (cF_ (p := ⟨gb461, 2, none⟩) (by (rw [add_block]; exact hn462_2)) (.bool true)).trans hx462_0; clear hn462_0; clear hn462_1; clear hn462_2; replace p462 := eq_true p462; replace q462 := eq_true q462) | ((with_reducible refine gate_builtin (b := .append) (xs := #[.tmp 24, .tmp 29]) rfl ?_); at_builtin; refine Kd.R_append Kd.string (w0 := w) w.heap.size rfl (.tmp 24) (.tmp 29) 49 9 (.string ⟨#[]⟩) 16 rfl Tryz.underlying49 info9 rfl (by decide) (by omega) u5 x5_1 (rdOf eB_ t453 x17_1) [.string (rdOf eB_ t453 x17_1)] (fun k_ => some k_ ≠ (.slice (some ad462) t453.length co19 : Value).ownBlock) (fun _ => False) rfl (by (go_simp; done)) ?aP (fun _ hk => hk.elim) ?aF ?aO ?aB ?aS ?aL ?_; (case aP => exact rfl); (case aB => exact (by repeat with_reducible first | exact HB.out | apply bA_ | apply bN_ | apply bD_ | refine bS_ ?_ (Aside0.out ‹_›))); (case aF => exact (fun k_ hk => Kd.fresh' (Kd.R_lt (by exact (kM_ (kG_ (kG_ (kG_ (kT_ HO_3.out BK461.out (by decide))))) (fun _ h_ => h_.1)))) k_ hk)); (case aO => exact (by exact kM_ (kG_ (kG_ (kG_ (kT_ HO_5.out BK461.out (by decide))))) (fun _ hk => hk.1))); (case aS => exact (bZ_ (by repeat with_reducible first | exact HB.out | apply bA_ | apply bN_ | apply bD_ | refine bS_ ?_ (Aside0.out ‹_›)))); (case aL => have := LMc15.out; omega); intro v464 w20 ho hb hg hat; rw [← Ny463.out] at ho; have n0_ := aM_ (Kd.R_after (ok := (fun _ => True)) (by exact kM_ (kG_ (kG_ (kG_ (kT_ HO_3.out BK461.out (by decide))))) (fun _ hk => ⟨trivial, hk.1⟩)) hg hat); have n1_ := aM_ (blk_grown (g := gb452) (o := .cells #[.slice (some ad460) l0_0.length c0_0] 36 (0, 0)) (by exact br_ NB452_461.out (br_ NB452_461.out (br_ NB452_461.out (BK452.out)))) hg (k6_ HO_5.out BK452.out (by decide))); have n2_ := aM_ (blk_grown (g := gb461) (o := .cells #[.int .i64 ((rd_T76 l0_0 x17_1).f0), .int .i64 ((rd_T76 l0_0 x17_1).f1), .bool true] 76 (0, 0)) (by refine bP_ (cs := #[.int .i64 ((rd_T76 l0_0 x17_1).f0), .int .i64 ((rd_T76 l0_0 x17_1).f1), .bool false]) ?_ 2 _ rfl; refine bP_ (cs := #[.int .i64 ((rd_T76 l0_0 x17_1).f0), .int .i64 0, .bool false]) ?_ 1 _ rfl; refine bP_ (cs := #[.int .i64 0, .int .i64 0, .bool false]) ?_ 0 _ rfl; exact BK461.out) hg (k6_ HO_5.out BK461.out (by decide))); have n3_ := aM_ (hb); have n4_ := aM_ (ho); clear HO_3; clear BK452; clear BK461; clear HB; clear HO_5; have HO_3 := n0_; have BK452 := n1_; have BK461 := n2_; have HB := n3_; have HO465 := n4_; clear n0_ n1_ n2_ n3_ n4_; clear ho hb hg hat))
  go_roundg k1
  case measure => have := HK1.out; omega
  case rel => exact ⟨(y463), (wrap64 (x17_1 + 1)), (by rfl), H', ⟨by have := HK1.out; omega⟩, ⟨by exact kM_ HO_3.out (fun _ hk => hk.2)⟩, ⟨HO465.out⟩, ⟨BK452.out⟩, ⟨HB.out⟩⟩
def iF12.f (k : Nat) (l0_0 : List (S76)) (a1 : ByteArray) : Option (Bool) := (iF17.f k l0_0).bind fun t467 => ((xF45.f k t467 a1).bind fun t470 => (some t470))
theorem iF12.mono : ∀ a0 a1 k, LeO (iF12.f k a0 a1) (iF12.f (k + 1) a0 a1) := by
 intro a0 a1 k
 unfold iF12.f
 repeat' with_reducible first | exact iF17.mono _ _ | exact xF45.mono _ _ _ | exact l3_ _ | exact l0_ _ | refine l2_ ?_ ?_ | refine l1_ ?_ (fun _ => ?_)
theorem iF12.calls (k : Nat) (A0_0 : Option Addr) (c0_0 : Nat) (l0_0 : List (S76)) (a1 : ByteArray) (r : Bool) (w : World) (hr0_0 : Kd.C k76 w A0_0 l0_0.length l0_0) (hc0_0 : l0_0.length ≤ c0_0) (h : iF12.f k l0_0 a1 = some r) :
  Calls Tryz.prog 35 #[.agg #[.slice A0_0 l0_0.length c0_0], .string a1] w fun e w' => e = .returned (.bool r) ∧ Below w.heap.size w w' := by
 have hu36 := Tryz.underlying36
 have HR0_0 := aM_ hr0_0
 have HC0_0 := aM_ hc0_0
 clear hr0_0 hc0_0
 have HB := aM_ (Below.refl w.heap.size w)
 have H : ((iF17.f k l0_0).bind fun t467 => ((xF45.f k t467 a1).bind fun t470 => (some t470))) = some r := h
 clear h
 replace H := oB_.mp H
 obtain ⟨t467, A30, H⟩ := H
 try dsimp only at H
 have A3 := aM_ A30
 clear A30
 replace H := oB_.mp H
 obtain ⟨t470, A40, H⟩ := H
 try dsimp only at H
 have A4 := aM_ A40
 clear A40
 obtain rfl := Option.some.inj H
 go_enter Tryz.func35, Tryz.ntmps35
 go_wp2_with (first | (refine bx_ 2 #[.slice A0_0 l0_0.length c0_0] 36 ?_; intro gb466 hg w5 hbox hb; have BK466 := aM_ (hbox); have GW466 := gw_ hg HB; replace HB := b4_ HB hb; clear hb hbox hg; have hcz6_0 := c0_ BK466; have hfz6_0 := bF_ BK466.out 0) | (refine gs_ 6 Tryz.func66 #[.agg #[.slice A0_0 l0_0.length c0_0]] ?_; (with_reducible refine (iF17.calls k _ _ l0_0 t467 _ ?side1 HC0_0.out A3.out).mono ?_); (case side1 => repeat (first | exact (k4_ HR0_0.out HB.out) | with_reducible first | apply cA_ | apply cN_ | apply cD_)); rintro e w7 ⟨v468, rfl, ho0, hb⟩; refine ⟨_, rfl, ?_⟩; have HO469 := aM_ (k5_ ho0 (bZ_ HB.out)); replace BK466 := b5_ BK466 hb; replace HB := b4_ HB hb; (try clear hb); (try clear ho0); obtain ⟨Ao8, co8, eo8⟩ := kS_ HO469.out; subst eo8) | (refine gs_ 8 Tryz.func65 #[.slice Ao8 t467.length co8, .string a1] ?_; (with_reducible refine (xF45.calls k _ _ t467 a1 t470 _ ?side1 ?side2 A4.out).mono ?_); (case side1 => repeat (first | exact (kR_ HO469.out).2.2 | with_reducible first | apply cA_ | apply cN_ | apply cD_)); (case side2 => exact (kR_ HO469.out).2.1); rintro e w' ⟨rfl, ⟨nd, rfl⟩⟩; refine ⟨_, rfl, ?_⟩))
 go_ret
 exact ⟨by rfl, by repeat with_reducible first | exact HB.out | apply bA_ | apply bN_ | apply bD_ | refine bS_ ?_ GW466.out⟩
end Go.Proofs.YtfhffcefpnkllaaGreatDoor.P
namespace Go.Proofs.YtfhffcefpnkllaaGreatDoor.P
open Go.RowKit Go.Proofs.YtfhffcefpnkllaaGreatDoorW.PrintWords Go.Proofs.YtfhffcefpnkllaaGreatDoorW.PrintLast Go.Proofs.YtfhffcefpnkllaaGreatDoorW.PrintMore
attribute [local go_sem] max2_int min2_int max_two min_two max_three min_three max_four min_four
set_option maxHeartbeats 2000000 in
theorem xF0.calls (p : ByteArray → Bool) (g : Nat) (lb : Array Value) (eg : ∀ args w, (callFunc g args).run Tryz.prog w = .ok (.enter g args) w) (A0 : Option Addr) (c0 : Nat) (l0 : List ByteArray) (w : World)
  (hr0 : Kd.C Kd.string w A0 l0.length l0) (hbig : l0.length ≤ 9223372036854775807) (hp : PredBS Tryz.prog g lb Value.string p l0 w) :
  Calls Tryz.prog 109 #[.slice A0 l0.length c0, .func (.func g) #[] lb] w fun e w' => e = .returned (.bool (l0.any p)) ∧ Below w.heap.size w w' := by
 have HC := Aside0.mk (xF2.calls p g lb eg A0 c0 l0 w hr0 hbig hp)
 clear hp hr0
 go_enter Tryz.func109, Tryz.ntmps109
 go_wp2_with (go_at_call 94; refine HC.out.mono ?_; rintro e w' ⟨rfl, hb0⟩; have hb := Aside0.mk hb0; clear hb0)
 go_ret
 exact ⟨by rw [← idxByS_any p l0 0]; rfl, hb.out⟩
def iF23.p (x : ByteArray) : Bool := decide ((x.size : Int) > 12)
def iF23.f (l0 : List ByteArray) : Option Bool := some (l0.any iF23.p)
set_option maxHeartbeats 1000000 in
theorem iF23.lit (l0 : List ByteArray) (w : World) : PredBS Tryz.prog 110 #[] Value.string iF23.p l0 w := by
 intro W x _ _
 show Calls Tryz.prog 110 #[.string x] W _
 go_enter Tryz.func110, Tryz.ntmps110
 go_wp2
 go_ret
 exact ⟨rfl, Below.refl _ _⟩
theorem iF23.calls (A0 : Option Addr) (c0 : Nat) (l0 : List ByteArray) (r : Bool) (w : World) (hr0 : Kd.C Kd.string w A0 l0.length l0) (hc0 : l0.length ≤ c0) (h : iF23.f l0 = some r) :
  Calls Tryz.prog 109 #[.slice A0 l0.length c0, .func (.func 110) #[] #[]] w fun e w' => e = .returned (.bool r) ∧ Below w.heap.size w w' := by
 obtain rfl := Option.some.inj h
 exact xF0.calls iF23.p 110 #[] (Go.Proofs.enters_of Tryz.func110 (by kernel_rfl) rfl) A0 c0 l0 w hr0 hr0.2.1 (iF23.lit l0 w)
end Go.Proofs.YtfhffcefpnkllaaGreatDoor.P
namespace Go.Proofs.YtfhffcefpnkllaaGreatDoor.P
open Go.RowKit Go.Proofs.YtfhffcefpnkllaaGreatDoorW.PrintWords Go.Proofs.YtfhffcefpnkllaaGreatDoorW.PrintLast Go.Proofs.YtfhffcefpnkllaaGreatDoorW.PrintMore
open Go.Proofs.YtfhffcefpnkllaaGreatDoorW.PrintWords renaming blk_frozen → bF_, blk_cell → bC_, below_set → bS_, blk_below → bB_, below_step → bT_, pw_below_drewN → bN_, below_size → bZ_, below_drew1 → bD_, below_alloc → bA_, blk_far → bR_, gate_callee → gC_, gate_dst → gD_, box_event → bE_, blk_drew → b1_, blk_put → bP_, blk_drewN → b2_, blk_alloc → b3_, blk_lt → bL_, cell_far → cF_
open Go.Proofs.YtfhffcefpnkllaaGreatDoorW.PrintLast renaming any_of → aO_, i64_w → i6_, i32_w → i3_, take_ofW → tW_
open Go.Proofs.YtfhffcefpnkllaaGreatDoorW.PrintWords.Kd renaming R_below → kB_, R_mono → kM_, R_far → kF_, R_reads' → kR_, R_types → kT_, R_slice → kS_, R_celln → kC_, R_alloc → k1_, R_drewN → k2_, R_drew → k3_, C_below → k4_, R_lower → k5_, R_ne → k6_, own_blk → k7_
open Go.Proofs.YtfhffcefpnkllaaGreatDoorW.PrintWords.LeO renaming none → l0_, bind → l1_, ite → l2_, refl → l3_
open World renaming block_lt_of_cell? → wB_
open _root_.Option renaming bind_eq_some_iff → oB_
open _root_.ByteArray renaming empty → eB_
open List renaming setIfInBounds_toArray → sA_, set_cons_zero → sB_, set_cons_succ → sC_, map_toArray → sD_, map_cons → sE_, map_nil → sF_, length_drop → sG_, length_take → sH_
open Bool renaming true → ty, false → fy
open Aside0 renaming mk → aM_
attribute [local go_sem] max2_int min2_int max_two min_two max_three min_three max_four min_four
def xF47.l0 : Nat → List ByteArray → Int → Option (Bool)
 | 0, _, _ => none
 | k + 1, x0, x3 => if x3 > 0 then (if 0 ≤ x3 then (if x3 < (x0.length : Int) then (if 0 ≤ (wrap64 (x3 - 1)) then (if (wrap64 (x3 - 1)) < (x0.length : Int) then ((xF4.f (rdOf eB_ x0 x3) (rdOf eB_ x0 (wrap64 (x3 - 1)))).bind fun t691 => (if t691 = true then (some false) else (xF47.l0 k x0 (wrap64 (x3 - 1))))) else (none)) else (none)) else (none)) else (none)) else (some true)
def xF47.f (k : Nat) (l0 : List ByteArray) : Option (Bool) := xF47.l0 k l0 (wrap64 ((l0.length : Int) - 1))
theorem xF47.mono_l : ∀ k, (∀ y0 y1, LeO (xF47.l0 k y0 y1) (xF47.l0 (k + 1) y0 y1))
 | 0 => fun _ _ r h => by simp [xF47.l0] at h
 | k + 1 => by
  have ih0 := xF47.mono_l k
  intro y0 y1
  unfold xF47.l0
  repeat' with_reducible first | exact ih0 _ _ | exact l3_ _ | exact l0_ _ | refine l2_ ?_ ?_ | refine l1_ ?_ (fun _ => ?_)
theorem xF47.mono : ∀ a0 k, LeO (xF47.f k a0) (xF47.f (k + 1) a0) := by
 intro a0 k
 have ih0 := xF47.mono_l k
 unfold xF47.f
 repeat' with_reducible first | exact ih0 _ _ | exact l3_ _ | exact l0_ _ | refine l2_ ?_ ?_ | refine l1_ ?_ (fun _ => ?_)
theorem xF47.calls (k : Nat) (A0 : Option Addr) (c0 : Nat) (l0 : List ByteArray) (r : Bool) (w : World) (hr0 : Kd.C Kd.string w A0 l0.length l0) (hc0 : l0.length ≤ c0) (h : xF47.f k l0 = some r) :
  Calls Tryz.prog 111 #[.slice A0 l0.length c0] w fun e w' => e = .returned (.bool r) ∧ Drawn0 w w' := by
 have HR0 := aM_ hr0
 have HC0 := aM_ hc0
 clear hr0 hc0
 have H : (xF47.l0 k l0 (wrap64 ((l0.length : Int) - 1))) = some r := h
 clear h
 have H' := aM_ H
 clear H
 go_enter Tryz.func111, Tryz.ntmps111
 go_wp2
 repeat (go_quiet (fail); try go_wp2)
 go_loopg [3] k (fun kq v3 w' => ∃ (x3_1 : Int), v3 = .int .i64 x3_1 ∧ Aside0 (xF47.l0 kq l0 x3_1 = some r) ∧ Aside0 (kq ≤ k) ∧ Drawn0 w w')
 case atStart => exact ⟨(wrap64 ((l0.length : Int) - 1)), (by rfl), H', ⟨Nat.le_refl _⟩, by repeat (first | exact Drawn0.refl _ | apply Drawn0.step)⟩
 clear H'
 obtain ⟨x3_1, rfl, HA, HK1, ⟨m1, rfl⟩⟩ := hrel
 cases gk with
 | zero => exact absurd HA.out (by simp [xF47.l0])
 | succ k1 =>
  have H := HA.out
  clear HA
  simp only [xF47.l0] at H
  by_cases c2 : x3_1 > 0
  rotate_left
  ·
   rw [if_neg c2] at H
   have c2b0 := dF_ c2
   clear c2
   obtain rfl := Option.some.inj H
   go_wp2
   repeat (go_quiet (fail); try go_wp2)
   go_ret
   exact ⟨by rfl, by repeat (first | exact Drawn0.refl _ | apply Drawn0.step)⟩
  rw [if_pos c2] at H
  have c2b0 := dT_ c2
  clear c2
  by_cases c3 : 0 ≤ x3_1
  rotate_left
  ·
   rw [if_neg c3] at H
   exact absurd H (by simp)
  rw [if_pos c3] at H
  have c3b0 := dT_ c3
  clear c3
  by_cases c4 : x3_1 < (l0.length : Int)
  rotate_left
  ·
   rw [if_neg c4] at H
   exact absurd H (by simp)
  rw [if_pos c4] at H
  have c4b0 := dT_ c4
  clear c4
  obtain ⟨ji5, hji5⟩ : ∃ j_ : Int, (wrap64 (x3_1 - 1)) = j_ := ⟨_, rfl⟩
  replace H : (if 0 ≤ (ji5) then (if (ji5) < (l0.length : Int) then ((xF4.f (rdOf eB_ l0 x3_1) (rdOf eB_ l0 (ji5))).bind fun t691 => (if t691 = true then (some false) else (xF47.l0 k1 l0 ji5))) else (none)) else (none)) = some r := by first | (rw [hji5] at H; exact H) | (simp only [hji5] at H ⊢; exact H)
  have hji5w : (IntKind.i64.wrap (x3_1 - 1)) = ji5 := (i6_ _).trans hji5
  by_cases c6 : 0 ≤ (ji5)
  rotate_left
  ·
   rw [if_neg c6] at H
   exact absurd H (by simp)
  rw [if_pos c6] at H
  have c6b0 := dT_ c6
  clear c6
  by_cases c7 : (ji5) < (l0.length : Int)
  rotate_left
  ·
   rw [if_neg c7] at H
   exact absurd H (by simp)
  rw [if_pos c7] at H
  have c7b0 := dT_ c7
  clear c7
  replace H := oB_.mp H
  obtain ⟨t691, A80, H⟩ := H
  try dsimp only at H
  have A8 := aM_ A80
  clear A80
  by_cases c9 : t691 = true
  ·
   subst c9
   rw [if_pos rfl] at H
   obtain rfl := Option.some.inj H
   have p689 : 0 ≤ (x3_1 : Int) := oD_ ‹_›
   have q689 : x3_1 < (l0.length : Int) := oD_ ‹_›
   obtain ⟨ad689, e689, hx689_0⟩ := Kd.at_string HR0.out x3_1 p689 q689
   cases e689
   replace p689 := eq_true p689
   replace q689 := eq_true q689
   have p690 : 0 ≤ ((ji5) : Int) := oD_ ‹_›
   have q690 : (ji5) < (l0.length : Int) := oD_ ‹_›
   obtain ⟨ad690, e690, hx690_0⟩ := Kd.at_string HR0.out (ji5) p690 q690
   obtain rfl : ad689 = ad690 := (by injection e690)
   replace p690 := eq_true p690
   replace q690 := eq_true q690
   go_wp2_with (first | (go_at_call 113; (with_reducible refine (xF4.calls (rdOf eB_ l0 x3_1) (rdOf eB_ l0 (ji5)) true _ A8.out).mono ?_); rintro e w' ⟨rfl, ⟨nd, rfl⟩⟩; (try first | exact ⟨rfl, _, World.drewN_drewN _ _ _⟩ | exact ⟨rfl, _, Eq.trans (World.drewN_drewN _ _ _) (congrArg (World.drewN _) (Nat.add_assoc _ _ _))⟩)))
   repeat (go_quiet (first | (go_at_call 113; (with_reducible refine (xF4.calls (rdOf eB_ l0 x3_1) (rdOf eB_ l0 (ji5)) true _ A8.out).mono ?_); rintro e w' ⟨rfl, ⟨nd, rfl⟩⟩; (try exact ⟨rfl, _, Eq.trans (World.drewN_drewN _ _ _) (congrArg (World.drewN _) (Nat.add_assoc _ _ _))⟩))); try go_wp2_with (first | (go_at_call 113; (with_reducible refine (xF4.calls (rdOf eB_ l0 x3_1) (rdOf eB_ l0 (ji5)) true _ A8.out).mono ?_); rintro e w' ⟨rfl, ⟨nd, rfl⟩⟩; (try first | exact ⟨rfl, _, World.drewN_drewN _ _ _⟩ | exact ⟨rfl, _, Eq.trans (World.drewN_drewN _ _ _) (congrArg (World.drewN _) (Nat.add_assoc _ _ _))⟩))))
   go_ret
   exact ⟨by rfl, by repeat (first | exact Drawn0.refl _ | apply Drawn0.step)⟩
  replace c9 := Bool.eq_false_iff.mpr c9
  subst c9
  replace H : (xF47.l0 k1 l0 ji5) = some r := by rw [if_neg (show ¬ (false = true) by decide)] at H; exact H
  have H' := aM_ H
  clear H
  have p689 : 0 ≤ (x3_1 : Int) := oD_ ‹_›
  have q689 : x3_1 < (l0.length : Int) := oD_ ‹_›
  obtain ⟨ad689, e689, hx689_0⟩ := Kd.at_string HR0.out x3_1 p689 q689
  cases e689
  replace p689 := eq_true p689
  replace q689 := eq_true q689
  have p690 : 0 ≤ ((ji5) : Int) := oD_ ‹_›
  have q690 : (ji5) < (l0.length : Int) := oD_ ‹_›
  obtain ⟨ad690, e690, hx690_0⟩ := Kd.at_string HR0.out (ji5) p690 q690
  obtain rfl : ad689 = ad690 := (by injection e690)
  replace p690 := eq_true p690
  replace q690 := eq_true q690
  go_wp2_with (first | (go_at_call 113; (with_reducible refine (xF4.calls (rdOf eB_ l0 x3_1) (rdOf eB_ l0 (ji5)) false _ A8.out).mono ?_); rintro e w' ⟨rfl, ⟨nd, rfl⟩⟩; (try first | exact ⟨rfl, _, World.drewN_drewN _ _ _⟩ | exact ⟨rfl, _, Eq.trans (World.drewN_drewN _ _ _) (congrArg (World.drewN _) (Nat.add_assoc _ _ _))⟩)))
  repeat (go_quiet (first | (go_at_call 113; (with_reducible refine (xF4.calls (rdOf eB_ l0 x3_1) (rdOf eB_ l0 (ji5)) false _ A8.out).mono ?_); rintro e w' ⟨rfl, ⟨nd, rfl⟩⟩; (try exact ⟨rfl, _, Eq.trans (World.drewN_drewN _ _ _) (congrArg (World.drewN _) (Nat.add_assoc _ _ _))⟩))); try go_wp2_with (first | (go_at_call 113; (with_reducible refine (xF4.calls (rdOf eB_ l0 x3_1) (rdOf eB_ l0 (ji5)) false _ A8.out).mono ?_); rintro e w' ⟨rfl, ⟨nd, rfl⟩⟩; (try first | exact ⟨rfl, _, World.drewN_drewN _ _ _⟩ | exact ⟨rfl, _, Eq.trans (World.drewN_drewN _ _ _) (congrArg (World.drewN _) (Nat.add_assoc _ _ _))⟩))))
  go_roundg k1
  case measure => have := HK1.out; omega
  case rel => exact ⟨(ji5), (by rfl), H', ⟨by have := HK1.out; omega⟩, by repeat (first | exact Drawn0.refl _ | apply Drawn0.step)⟩
end Go.Proofs.YtfhffcefpnkllaaGreatDoor.P
namespace Go.Proofs.YtfhffcefpnkllaaGreatDoor.P
open Go.RowKit Go.Proofs.YtfhffcefpnkllaaGreatDoorW.PrintWords Go.Proofs.YtfhffcefpnkllaaGreatDoorW.PrintLast Go.Proofs.YtfhffcefpnkllaaGreatDoorW.PrintMore
open Go.Proofs.YtfhffcefpnkllaaGreatDoorW.PrintWords renaming blk_frozen → bF_, blk_cell → bC_, below_set → bS_, blk_below → bB_, below_step → bT_, pw_below_drewN → bN_, below_size → bZ_, below_drew1 → bD_, below_alloc → bA_, blk_far → bR_, gate_callee → gC_, gate_dst → gD_, box_event → bE_, blk_drew → b1_, blk_put → bP_, blk_drewN → b2_, blk_alloc → b3_, blk_lt → bL_, cell_far → cF_
open Go.Proofs.YtfhffcefpnkllaaGreatDoorW.PrintLast renaming any_of → aO_, i64_w → i6_, i32_w → i3_, take_ofW → tW_
open Go.Proofs.YtfhffcefpnkllaaGreatDoorW.PrintWords.Kd renaming R_below → kB_, R_mono → kM_, R_far → kF_, R_reads' → kR_, R_types → kT_, R_slice → kS_, R_celln → kC_, R_alloc → k1_, R_drewN → k2_, R_drew → k3_, C_below → k4_, R_lower → k5_, R_ne → k6_, own_blk → k7_
open Go.Proofs.YtfhffcefpnkllaaGreatDoorW.PrintWords.LeO renaming none → l0_, bind → l1_, ite → l2_, refl → l3_
open World renaming block_lt_of_cell? → wB_
open _root_.Option renaming bind_eq_some_iff → oB_
open _root_.ByteArray renaming empty → eB_
open List renaming setIfInBounds_toArray → sA_, set_cons_zero → sB_, set_cons_succ → sC_, map_toArray → sD_, map_cons → sE_, map_nil → sF_, length_drop → sG_, length_take → sH_
open Bool renaming true → ty, false → fy
open Aside0 renaming mk → aM_
attribute [local go_sem] max2_int min2_int max_two min_two max_three min_three max_four min_four
attribute [local go_sem high] eqA76
def iF9.l0 : Nat → List (S76) → List (S76) → Int → Int → Option (Bool)
 | 0, _, _, _, _ => none
 | k + 1, x0, x1, x12, x13 => if x13 < x12 then (if 0 ≤ x13 then (if x13 < (x0.length : Int) then (if x13 < (x1.length : Int) then (if (!(((rd_T76 x0 x13).f0) == ((rd_T76 x1 x13).f0)) || (!(((rd_T76 x0 x13).f1) == ((rd_T76 x1 x13).f1)) || (!(((rd_T76 x0 x13).f2) == ((rd_T76 x1 x13).f2))))) = true then (some false) else (iF9.l0 k x0 x1 x12 (wrap64 (x13 + 1)))) else (none)) else (none)) else (none)) else (some true)
def iF9.f (k : Nat) (l0 : List (S76)) (l1 : List (S76)) : Option (Bool) := if (l0.length : Int) = (l1.length : Int) then (iF9.l0 k l0 l1 (l0.length : Int) 0) else (some false)
theorem iF9.mono_l : ∀ k, (∀ y0 y1 y2 y3, LeO (iF9.l0 k y0 y1 y2 y3) (iF9.l0 (k + 1) y0 y1 y2 y3))
 | 0 => fun _ _ _ _ r h => by simp [iF9.l0] at h
 | k + 1 => by
  have ih0 := iF9.mono_l k
  intro y0 y1 y2 y3
  unfold iF9.l0
  repeat' with_reducible first | exact ih0 _ _ _ _ | exact l3_ _ | exact l0_ _ | refine l2_ ?_ ?_ | refine l1_ ?_ (fun _ => ?_)
theorem iF9.mono : ∀ a0 a1 k, LeO (iF9.f k a0 a1) (iF9.f (k + 1) a0 a1) := by
 intro a0 a1 k
 have ih0 := iF9.mono_l k
 unfold iF9.f
 repeat' with_reducible first | exact ih0 _ _ _ _ | exact l3_ _ | exact l0_ _ | refine l2_ ?_ ?_ | refine l1_ ?_ (fun _ => ?_)
theorem iF9.calls (k : Nat) (A0 : Option Addr) (c0 : Nat) (l0 : List (S76)) (A1 : Option Addr) (c1 : Nat) (l1 : List (S76)) (r : Bool) (w : World) (hr0 : Kd.C k76 w A0 l0.length l0) (hc0 : l0.length ≤ c0) (hr1 : Kd.C k76 w A1 l1.length l1) (hc1 : l1.length ≤ c1) (h : iF9.f k l0 l1 = some r) :
  Calls Tryz.prog 112 #[.slice A0 l0.length c0, .slice A1 l1.length c1] w fun e w' => e = .returned (.bool r) ∧ Drawn0 w w' := by
 have hu76 := Tryz.underlying76
 have HR0 := aM_ hr0
 have HC0 := aM_ hc0
 clear hr0 hc0
 have HR1 := aM_ hr1
 have HC1 := aM_ hc1
 clear hr1 hc1
 have H : (if (l0.length : Int) = (l1.length : Int) then (iF9.l0 k l0 l1 (l0.length : Int) 0) else (some false)) = some r := h
 clear h
 by_cases c3 : (l0.length : Int) = (l1.length : Int)
 rotate_left
 ·
  rw [if_neg c3] at H
  have c3b0 : ((l0.length : Int) == (l1.length : Int)) = false := beq_eq_false_iff_ne.mpr c3
  have c3b1 : ((l0.length : Int) != (l1.length : Int)) = true := bne_iff_ne.mpr c3
  have c3b2 : (l0.length == l1.length) = false := by first | simpa using c3 | (simp at c3 ⊢; omega)
  obtain rfl := Option.some.inj H
  go_enter Tryz.func112, Tryz.ntmps112
  go_wp2
  repeat (go_quiet (fail); try go_wp2)
  go_ret
  exact ⟨by rfl, by repeat (first | exact Drawn0.refl _ | apply Drawn0.step)⟩
 rw [if_pos c3] at H
 have c3b0 : ((l0.length : Int) == (l1.length : Int)) = true := beq_iff_eq.mpr c3
 have c3b1 : ((l0.length : Int) != (l1.length : Int)) = false := bne_eq_false_iff_eq.mpr c3
 have c3b2 : (l0.length == l1.length) = true := by first | simpa using c3 | (simp at c3 ⊢; omega)
 clear c3
 have H' := aM_ H
 clear H
 go_enter Tryz.func112, Tryz.ntmps112
 go_wp2
 repeat (go_quiet (fail); try go_wp2)
 go_loopg [13] k (fun kq v13 w' => ∃ (x13_1 : Int), v13 = .int .i64 x13_1 ∧ Aside0 (iF9.l0 kq l0 l1 (l0.length : Int) x13_1 = some r) ∧ Aside0 (kq ≤ k) ∧ Drawn0 w w')
 case atStart => exact ⟨(0), (by rfl), H', ⟨Nat.le_refl _⟩, by repeat (first | exact Drawn0.refl _ | apply Drawn0.step)⟩
 clear H'
 try clear p2
 try clear c3b0
 try clear c3b1
 try clear c3b2
 obtain ⟨x13_1, rfl, HA, HK1, ⟨m1, rfl⟩⟩ := hrel
 cases gk with
 | zero => exact absurd HA.out (by simp [iF9.l0])
 | succ k1 =>
  have H := HA.out
  clear HA
  simp only [iF9.l0] at H
  by_cases c4 : x13_1 < (l0.length : Int)
  rotate_left
  ·
   rw [if_neg c4] at H
   have c4b0 := dF_ c4
   clear c4
   obtain rfl := Option.some.inj H
   go_wp2
   repeat (go_quiet (fail); try go_wp2)
   go_ret
   exact ⟨by rfl, by repeat (first | exact Drawn0.refl _ | apply Drawn0.step)⟩
  rw [if_pos c4] at H
  have c4b0 := dT_ c4
  clear c4
  by_cases c5 : 0 ≤ x13_1
  rotate_left
  ·
   rw [if_neg c5] at H
   exact absurd H (by simp)
  rw [if_pos c5] at H
  have c5b0 := dT_ c5
  clear c5
  by_cases c6 : x13_1 < (l0.length : Int)
  rotate_left
  ·
   rw [if_neg c6] at H
   exact absurd H (by simp)
  rw [if_pos c6] at H
  have c6b0 := dT_ c6
  clear c6
  by_cases c7 : x13_1 < (l1.length : Int)
  rotate_left
  ·
   rw [if_neg c7] at H
   exact absurd H (by simp)
  rw [if_pos c7] at H
  have c7b0 := dT_ c7
  clear c7
  by_cases c8 : (!(((rd_T76 l0 x13_1).f0) == ((rd_T76 l1 x13_1).f0)) || (!(((rd_T76 l0 x13_1).f1) == ((rd_T76 l1 x13_1).f1)) || (!(((rd_T76 l0 x13_1).f2) == ((rd_T76 l1 x13_1).f2))))) = true
  ·
   rw [if_pos c8] at H
   have c8b0 : (!(((rd_T76 l0 x13_1).f0) == ((rd_T76 l1 x13_1).f0)) || (!(((rd_T76 l0 x13_1).f1) == ((rd_T76 l1 x13_1).f1)) || (!(((rd_T76 l0 x13_1).f2) == ((rd_T76 l1 x13_1).f2))))) = true := c8
   clear c8
   obtain rfl := Option.some.inj H
   have p692 : 0 ≤ (x13_1 : Int) := oD_ ‹_›
   have q692 : x13_1 < (l0.length : Int) := oD_ ‹_›
   obtain ⟨ad692, e692, hx692_0, hx692_1, hx692_2⟩ := at_T76 HR0.out x13_1 p692 q692
   cases e692
   replace p692 := eq_true p692
   replace q692 := eq_true q692
   have p693 : 0 ≤ (x13_1 : Int) := oD_ ‹_›
   have q693 : x13_1 < (l1.length : Int) := oD_ ‹_›
   obtain ⟨ad693, e693, hx693_0, hx693_1, hx693_2⟩ := at_T76 HR1.out x13_1 p693 q693
   cases e693
   replace p693 := eq_true p693
   replace q693 := eq_true q693
   go_wp2
   repeat (go_quiet (fail); try go_wp2)
   go_ret
   exact ⟨by rfl, by repeat (first | exact Drawn0.refl _ | apply Drawn0.step)⟩
  rw [if_neg c8] at H
  have c8b0 : (!(((rd_T76 l0 x13_1).f0) == ((rd_T76 l1 x13_1).f0)) || (!(((rd_T76 l0 x13_1).f1) == ((rd_T76 l1 x13_1).f1)) || (!(((rd_T76 l0 x13_1).f2) == ((rd_T76 l1 x13_1).f2))))) = false := by simpa using c8
  clear c8
  have H' := aM_ H
  clear H
  have p692 : 0 ≤ (x13_1 : Int) := oD_ ‹_›
  have q692 : x13_1 < (l0.length : Int) := oD_ ‹_›
  obtain ⟨ad692, e692, hx692_0, hx692_1, hx692_2⟩ := at_T76 HR0.out x13_1 p692 q692
  cases e692
  replace p692 := eq_true p692
  replace q692 := eq_true q692
  have p693 : 0 ≤ (x13_1 : Int) := oD_ ‹_›
  have q693 : x13_1 < (l1.length : Int) := oD_ ‹_›
  obtain ⟨ad693, e693, hx693_0, hx693_1, hx693_2⟩ := at_T76 HR1.out x13_1 p693 q693
  cases e693
  replace p693 := eq_true p693
  replace q693 := eq_true q693
  go_wp2
  repeat (go_quiet (fail); try go_wp2)
  go_roundg k1
  case measure => have := HK1.out; omega
  case rel => exact ⟨(wrap64 (x13_1 + 1)), (by rfl), H', ⟨by have := HK1.out; omega⟩, by repeat (first | exact Drawn0.refl _ | apply Drawn0.step)⟩
end Go.Proofs.YtfhffcefpnkllaaGreatDoor.P
namespace Go.Proofs.YtfhffcefpnkllaaGreatDoor.P
open Go.RowKit Go.Proofs.YtfhffcefpnkllaaGreatDoorW.PrintWords Go.Proofs.YtfhffcefpnkllaaGreatDoorW.PrintLast Go.Proofs.YtfhffcefpnkllaaGreatDoorW.PrintMore
open Go.Proofs.YtfhffcefpnkllaaGreatDoorW.PrintWords renaming blk_frozen → bF_, blk_cell → bC_, below_set → bS_, blk_below → bB_, below_step → bT_, pw_below_drewN → bN_, below_size → bZ_, below_drew1 → bD_, below_alloc → bA_, blk_far → bR_, gate_callee → gC_, gate_dst → gD_, box_event → bE_, blk_drew → b1_, blk_put → bP_, blk_drewN → b2_, blk_alloc → b3_, blk_lt → bL_, cell_far → cF_
open Go.Proofs.YtfhffcefpnkllaaGreatDoorW.PrintLast renaming any_of → aO_, i64_w → i6_, i32_w → i3_, take_ofW → tW_
open Go.Proofs.YtfhffcefpnkllaaGreatDoorW.PrintWords.Kd renaming R_below → kB_, R_mono → kM_, R_far → kF_, R_reads' → kR_, R_types → kT_, R_slice → kS_, R_celln → kC_, R_alloc → k1_, R_drewN → k2_, R_drew → k3_, C_below → k4_, R_lower → k5_, R_ne → k6_, own_blk → k7_
open Go.Proofs.YtfhffcefpnkllaaGreatDoorW.PrintWords.LeO renaming none → l0_, bind → l1_, ite → l2_, refl → l3_
open World renaming block_lt_of_cell? → wB_
open _root_.Option renaming bind_eq_some_iff → oB_
open _root_.ByteArray renaming empty → eB_
open List renaming setIfInBounds_toArray → sA_, set_cons_zero → sB_, set_cons_succ → sC_, map_toArray → sD_, map_cons → sE_, map_nil → sF_, length_drop → sG_, length_take → sH_
open Bool renaming true → ty, false → fy
open Aside0 renaming mk → aM_
attribute [local go_sem] max2_int min2_int max_two min_two max_three min_three max_four min_four
def iF22.j0 : Nat → Bool → List (S76) → Option (Bool)
 | 0, _, _ => none
 | k + 1, x16, x695000 => if x16 = true then (some false) else ((iF17.f k x695000).bind fun t700 => (if (t700.length : Int) ≤ 40 then ((xF47.f k t700).bind fun t703 => (if t703 = true then ((iF28.f k t700).bind fun t704 => ((iF9.f k t704 x695000).bind fun t707 => (some t707))) else (some false))) else (some false)))
def iF22.f (k : Nat) (l0_0 : List (S76)) : Option (Bool) := (iF14.f k l0_0).bind fun bt695 => (if bt695.2 = true then ((iF23.f bt695.1).bind fun t699 => (iF22.j0 k t699 l0_0)) else (iF22.j0 k true l0_0))
theorem iF22.mono_l : ∀ k, (∀ y0 y1, LeO (iF22.j0 k y0 y1) (iF22.j0 (k + 1) y0 y1))
 | 0 => fun _ _ r h => by simp [iF22.j0] at h
 | k + 1 => by
  have ih0 := iF22.mono_l k
  intro y0 y1
  unfold iF22.j0
  repeat' with_reducible first | exact ih0 _ _ | exact iF9.mono _ _ _ | exact iF14.mono _ _ | exact iF17.mono _ _ | exact iF28.mono _ _ | exact xF47.mono _ _ | exact l3_ _ | exact l0_ _ | refine l2_ ?_ ?_ | refine l1_ ?_ (fun _ => ?_)
theorem iF22.mono : ∀ a0 k, LeO (iF22.f k a0) (iF22.f (k + 1) a0) := by
 intro a0 k
 have ih0 := iF22.mono_l k
 unfold iF22.f
 repeat' with_reducible first | exact ih0 _ _ | exact iF9.mono _ _ _ | exact iF14.mono _ _ | exact iF17.mono _ _ | exact iF28.mono _ _ | exact xF47.mono _ _ | exact l3_ _ | exact l0_ _ | refine l2_ ?_ ?_ | refine l1_ ?_ (fun _ => ?_)
def iF22.T5 : Bool × List (List Nat × List Nat) := (true, [([], []), ([0], [0]), ([1], [1]), ([2], [2]), ([3], [3]), ([4, 3, 3], [3, 4]), ([3, 5], [3, 5]), ([6, 5], [6]), ([7], [7]), ([8, 7, 7], [7, 8]), ([9, 7], [7, 9]), ([7], [7]), ([11, 7], [7, 11]), ([10, 12, 9, 7], [7, 10, 12]), ([7, 13], [7, 13]), ([14, 13, 0, 1, 2, 3, 4, 5, 6, 7, 8, 9, 10, 11, 12, 13, 14], [14])])
def iF22.B5 : List Nat := [0, 1, 3, 7, 15, 31, 63, 127, 255, 511, 1023, 255, 2303, 8191, 16383, 32767]
theorem iF22.tab5 : rtab .any (opsOf Tryz.f92 5) = iF22.T5 := by kernel_rfl
theorem iF22.bits5 : waitsOk iF22.T5.2 iF22.B5 = true := by kernel_rfl
theorem iF22.calls (k : Nat) (A0_0 : Option Addr) (c0_0 : Nat) (l0_0 : List (S76)) (r : Bool) (w : World) (hr0_0 : Kd.C k76 w A0_0 l0_0.length l0_0) (hc0_0 : l0_0.length ≤ c0_0) (h : iF22.f k l0_0 = some r) :
  Calls Tryz.prog 92 #[.agg #[.slice A0_0 l0_0.length c0_0]] w fun e w' => e = .returned (.bool r) ∧ Below w.heap.size w w' := by
 have hu36 := Tryz.underlying36
 have hfd : ∀ (a_ : Option Addr) (n_ c_ : Nat) (W_ : World), (Instr.field 36 (.agg #[.slice a_ n_ c_]) 0).run Tryz.prog W_ = .ok (.slice a_ n_ c_) W_ := fun a_ n_ c_ W_ => by first | rfl | kernel_rfl
 have HR0_0 := aM_ hr0_0
 have HC0_0 := aM_ hc0_0
 clear hr0_0 hc0_0
 have HB := aM_ (Below.refl w.heap.size w)
 have H : ((iF14.f k l0_0).bind fun bt695 => (if bt695.2 = true then ((iF23.f bt695.1).bind fun t699 => (iF22.j0 k t699 l0_0)) else (iF22.j0 k true l0_0))) = some r := h
 clear h
 replace H := oB_.mp H
 obtain ⟨⟨t695, t698⟩, A20, H⟩ := H
 try dsimp only at H
 have A2 := aM_ A20
 clear A20
 have HC3 := aM_ H
 clear H
 go_enter Tryz.func92, Tryz.ntmps92
 go_upto_region 2 with (first | (refine bx_ 1 #[.slice A0_0 l0_0.length c0_0] 36 ?_; intro gb694 hg w4 hbox hb; have BK694 := aM_ (hbox); have GW694 := gw_ hg HB; replace HB := b4_ HB hb; clear hb hbox hg; have hcz5_0 := c0_ BK694; have hfz5_0 := bF_ BK694.out 0) | (refine gs_ 8 Tryz.func83 #[.agg #[.slice A0_0 l0_0.length c0_0]] ?_; (with_reducible refine (iF14.calls k _ _ l0_0 t695 t698 _ ?side1 HC0_0.out A2.out).mono ?_); (case side1 => repeat (first | exact (k4_ HR0_0.out HB.out) | with_reducible first | apply cA_ | apply cN_ | apply cD_)); rintro e w6 ⟨v696, rfl, ho0, hb⟩; refine ⟨_, rfl, ?_⟩; have HO697 := aM_ (k5_ ho0 (bZ_ HB.out)); replace BK694 := b5_ BK694 hb; replace HB := b4_ HB hb; (try clear hb); (try clear ho0)))
 (try simp only [Act.put, sA_, sB_, sC_])
 go_cut [16] (fun v16 wc => ∃ (kq : Nat) (x16_2 : Bool), v16 = .bool x16_2 ∧ Aside0 (iF22.j0 kq x16_2 l0_0 = some r) ∧ Aside0 (kq ≤ k) ∧ Aside0 (wc.heap[gb694]? = some (.cells #[(.slice A0_0 l0_0.length c0_0)] 36 (0, 0))) ∧ Aside0 (Below w.heap.size w wc))
 case first =>
  have H := HC3.out
  clear HC3
  by_cases c7 : t698 = true
  ·
   subst c7
   rw [if_pos rfl] at H
   replace H := oB_.mp H
   obtain ⟨t699, A80, H⟩ := H
   try dsimp only at H
   have A8 := aM_ A80
   clear A80
   have H' := aM_ H
   clear H
   obtain ⟨Ao9, co9, eo9⟩ := kS_ HO697.out
   subst eo9
   go_wp2_with (first | (go_at_call 109; (with_reducible refine (iF23.calls _ _ t695 t699 _ ?side1 ?side2 A8.out).mono ?_); (case side1 => repeat (first | exact (kR_ HO697.out).2.2 | with_reducible first | apply cA_ | apply cN_ | apply cD_)); (case side2 => exact (kR_ HO697.out).2.1); rintro e w10 ⟨rfl, hb⟩; replace HO697 := k9_ HO697 hb; replace BK694 := b5_ BK694 hb; replace HB := b4_ HB hb; (try clear hb)))
   go_meet
   case rel => exact ⟨_, (t699), (by rfl), H', ⟨by omega⟩, ⟨BK694.out⟩, ⟨HB.out⟩⟩
  replace c7 := Bool.eq_false_iff.mpr c7
  subst c7
  replace H : (iF22.j0 k true l0_0) = some r := by rw [if_neg (show ¬ (false = true) by decide)] at H; exact H
  have H' := aM_ H
  clear H
  go_wp2
  go_meet
  case rel => exact ⟨_, (true), (by rfl), H', ⟨by omega⟩, ⟨BK694.out⟩, ⟨HB.out⟩⟩
 clear HC3
 try clear p2
 try clear hcz5_0
 try clear hfz5_0
 obtain ⟨kq, x16_2, rfl, HA, HJ2, BK694, HB⟩ := hcut
 cases kq with
 | zero => exact absurd HA.out (by simp [iF22.j0])
 | succ kj2 =>
  have H := HA.out
  clear HA
  simp only [iF22.j0] at H
  by_cases c11 : x16_2 = true
  ·
   subst c11
   rw [if_pos rfl] at H
   obtain rfl := Option.some.inj H
   go_wp2
   go_ret
   exact ⟨by rfl, by exact HB.out⟩
  replace c11 := Bool.eq_false_iff.mpr c11
  subst c11
  replace H : ((iF17.f kj2 l0_0).bind fun t700 => (if (t700.length : Int) ≤ 40 then ((xF47.f kj2 t700).bind fun t703 => (if t703 = true then ((iF28.f kj2 t700).bind fun t704 => ((iF9.f kj2 t704 l0_0).bind fun t707 => (some t707))) else (some false))) else (some false))) = some r := by rw [if_neg (show ¬ (false = true) by decide)] at H; exact H
  replace H := oB_.mp H
  obtain ⟨t700, A120, H⟩ := H
  try dsimp only at H
  have A12 := aM_ A120
  clear A120
  by_cases c13 : (t700.length : Int) ≤ 40
  rotate_left
  ·
   rw [if_neg c13] at H
   have c13b0 := dF_ c13
   have c13b1 : decide (t700.length ≤ 40) = false := dF_ (by omega)
   clear c13
   obtain rfl := Option.some.inj H
   have hcz28_0 := c0_ BK694
   have hfz28_0 := bF_ BK694.out 0
   try go_wp2_with (first | (refine gs_ 18 Tryz.func66 #[.agg #[.slice A0_0 l0_0.length c0_0]] ?_; (with_reducible refine (iF17.calls kj2 _ _ l0_0 t700 _ ?side1 HC0_0.out A12.out).mono ?_); (case side1 => repeat (first | exact (k4_ HR0_0.out HB.out) | with_reducible first | apply cA_ | apply cN_ | apply cD_)); rintro e w29 ⟨v701, rfl, ho0, hb⟩; refine ⟨_, rfl, ?_⟩; have HO702 := aM_ (k5_ ho0 (bZ_ HB.out)); replace BK694 := b5_ BK694 hb; replace HB := b4_ HB hb; (try clear hb); (try clear ho0)))
   have n0_ := aM_ (k3_ HO702.out)
   have n1_ := aM_ (b1_ BK694.out)
   have n2_ := aM_ (bD_ HB.out)
   clear HO702
   clear BK694
   clear HB
   have HO702 := n0_
   have BK694 := n1_
   have HB := n2_
   clear n0_ n1_ n2_
   obtain ⟨Ao31, co31, eo31⟩ := kS_ HO702.out
   (subst eo31)
   refine start_ (n := 16) (S := fun w' => True) (ds := []) #[fy, fy, fy, fy, fy, fy, fy, fy, fy, fy, fy, fy, fy, fy, fy, fy] (by kernel_rfl) rfl rfl trivial (fun hHeld => ?_); refine with_tabW iF22.tab5 iF22.bits5 (fun HT_ HW_ => ?_)
   generalize w29.drew = w30 at HO702 BK694 HB hHeld ⊢
   refine pu_ HT_ 0 19 #[ty, fy, fy, fy, fy, fy, fy, fy, fy, fy, fy, fy, fy, fy, fy, fy] ?_
   refine pu_ HT_ 1 20 #[ty, ty, fy, fy, fy, fy, fy, fy, fy, fy, fy, fy, fy, fy, fy, fy] ?_
   refine pu_ HT_ 2 21 #[ty, ty, ty, fy, fy, fy, fy, fy, fy, fy, fy, fy, fy, fy, fy, fy] ?_
   refine pu_ HT_ 3 22 #[ty, ty, ty, ty, fy, fy, fy, fy, fy, fy, fy, fy, fy, fy, fy, fy] ?_
   refine pure_ (i := 4) (N := some 23) (v := undef) (a' := ?_) #[ty, ty, ty, ty, ty, fy, fy, fy, fy, fy, fy, fy, fy, fy, fy, fy] rfl rfl (aO_ HT_.out (by kernel_rfl)) (fun _ _ _ h => h) (Or.inr ⟨by rfl, rfl⟩) ?_ ?_
   rotate_left
   ·
    simp only [Act.put, sA_, sB_, sC_, i6_, i3_]
    rfl
   refine pure_ (i := 5) (N := some 24) (v := undef) (a' := ?_) #[ty, ty, ty, ty, ty, ty, fy, fy, fy, fy, fy, fy, fy, fy, fy, fy] rfl rfl (aO_ HT_.out (by kernel_rfl)) (fun _ _ _ h => h) (Or.inr ⟨by rfl, rfl⟩) ?_ ?_
   rotate_left
   ·
    simp only [Act.put, sA_, sB_, sC_, i6_, i3_]
    rfl
   refine pu_ HT_ 6 25 #[ty, ty, ty, ty, ty, ty, ty, fy, fy, fy, fy, fy, fy, fy, fy, fy] ?_
   refine pu_ HT_ 7 26 #[ty, ty, ty, ty, ty, ty, ty, ty, fy, fy, fy, fy, fy, fy, fy, fy] ?_
   refine pure_ (i := 8) (N := some 27) (v := undef) (a' := ?_) #[ty, ty, ty, ty, ty, ty, ty, ty, ty, fy, fy, fy, fy, fy, fy, fy] rfl rfl (aO_ HT_.out (by kernel_rfl)) (fun _ _ _ h => h) (Or.inr ⟨by rfl, rfl⟩) ?_ ?_
   rotate_left
   ·
    simp only [Act.put, sA_, sB_, sC_, i6_, i3_]
    rfl
   refine pure_ (i := 9) (N := some 28) (v := undef) (a' := ?_) #[ty, ty, ty, ty, ty, ty, ty, ty, ty, ty, fy, fy, fy, fy, fy, fy] rfl rfl (aO_ HT_.out (by kernel_rfl)) (fun _ _ _ h => h) (Or.inr ⟨by rfl, rfl⟩) ?_ ?_
   rotate_left
   ·
    simp only [Act.put, sA_, sB_, sC_, i6_, i3_]
    rfl
   refine pure_ (i := 10) (N := some 29) (v := undef) (a' := ?_) #[ty, ty, ty, ty, ty, ty, ty, ty, ty, ty, ty, fy, fy, fy, fy, fy] rfl rfl (aO_ HT_.out (by kernel_rfl)) (fun _ _ _ h => h) (Or.inr ⟨by rfl, rfl⟩) ?_ ?_
   rotate_left
   ·
    simp only [Act.put, sA_, sB_, sC_, i6_, i3_]
    rfl
   refine pure_ (i := 11) (N := some 30) (v := undef) (a' := ?_) #[ty, ty, ty, ty, ty, ty, ty, ty, ty, ty, ty, ty, fy, fy, fy, fy] rfl rfl (aO_ HT_.out (by kernel_rfl)) (fun _ _ _ h => h) (Or.inr ⟨by rfl, rfl⟩) ?_ ?_
   rotate_left
   ·
    simp only [Act.put, sA_, sB_, sC_, i6_, i3_]
    rfl
   refine pure_ (i := 12) (N := some 31) (v := undef) (a' := ?_) #[ty, ty, ty, ty, ty, ty, ty, ty, ty, ty, ty, ty, ty, fy, fy, fy] rfl rfl (aO_ HT_.out (by kernel_rfl)) (fun _ _ _ h => h) (Or.inr ⟨by rfl, rfl⟩) ?_ ?_
   rotate_left
   ·
    simp only [Act.put, sA_, sB_, sC_, i6_, i3_]
    rfl
   refine pure_ (i := 13) (N := some 32) (v := undef) (a' := ?_) #[ty, ty, ty, ty, ty, ty, ty, ty, ty, ty, ty, ty, ty, ty, fy, fy] rfl rfl (aO_ HT_.out (by kernel_rfl)) (fun _ _ _ h => h) (Or.inr ⟨by rfl, rfl⟩) ?_ ?_
   rotate_left
   ·
    simp only [Act.put, sA_, sB_, sC_, i6_, i3_]
    rfl
   refine pu_ HT_ 14 33 #[ty, ty, ty, ty, ty, ty, ty, ty, ty, ty, ty, ty, ty, ty, ty, fy] ?_
   refine pu_ HT_ 15 2 #[ty, ty, ty, ty, ty, ty, ty, ty, ty, ty, ty, ty, ty, ty, ty, ty] ?_
   refine done_ (done_of HT_.out (by kernel_rfl)) ?_
   try go_wp2
   go_ret
   exact ⟨by rfl, by exact HB.out⟩
  rw [if_pos c13] at H
  have c13b0 := dT_ c13
  have c13b1 : decide (t700.length ≤ 40) = true := dT_ (by omega)
  clear c13
  replace H := oB_.mp H
  obtain ⟨t703, A140, H⟩ := H
  try dsimp only at H
  have A14 := aM_ A140
  clear A140
  by_cases c15 : t703 = true
  rotate_left
  ·
   replace c15 := Bool.eq_false_iff.mpr c15
   subst c15
   replace H : (some false) = some r := by rw [if_neg (show ¬ (false = true) by decide)] at H; exact H
   obtain rfl := Option.some.inj H
   have hcz24_0 := c0_ BK694
   have hfz24_0 := bF_ BK694.out 0
   try go_wp2_with (first | (refine gs_ 18 Tryz.func66 #[.agg #[.slice A0_0 l0_0.length c0_0]] ?_; (with_reducible refine (iF17.calls kj2 _ _ l0_0 t700 _ ?side1 HC0_0.out A12.out).mono ?_); (case side1 => repeat (first | exact (k4_ HR0_0.out HB.out) | with_reducible first | apply cA_ | apply cN_ | apply cD_)); rintro e w25 ⟨v701, rfl, ho0, hb⟩; refine ⟨_, rfl, ?_⟩; have HO702 := aM_ (k5_ ho0 (bZ_ HB.out)); replace BK694 := b5_ BK694 hb; replace HB := b4_ HB hb; (try clear hb); (try clear ho0)))
   have n0_ := aM_ (k3_ HO702.out)
   have n1_ := aM_ (b1_ BK694.out)
   have n2_ := aM_ (bD_ HB.out)
   clear HO702
   clear BK694
   clear HB
   have HO702 := n0_
   have BK694 := n1_
   have HB := n2_
   clear n0_ n1_ n2_
   obtain ⟨Ao27, co27, eo27⟩ := kS_ HO702.out
   (subst eo27)
   refine start_ (n := 16) (S := fun w' => True) (ds := []) #[fy, fy, fy, fy, fy, fy, fy, fy, fy, fy, fy, fy, fy, fy, fy, fy] (by kernel_rfl) rfl rfl trivial (fun hHeld => ?_); refine with_tabW iF22.tab5 iF22.bits5 (fun HT_ HW_ => ?_)
   generalize w25.drew = w26 at HO702 BK694 HB hHeld ⊢
   refine pu_ HT_ 0 19 #[ty, fy, fy, fy, fy, fy, fy, fy, fy, fy, fy, fy, fy, fy, fy, fy] ?_
   refine pu_ HT_ 1 20 #[ty, ty, fy, fy, fy, fy, fy, fy, fy, fy, fy, fy, fy, fy, fy, fy] ?_
   refine pu_ HT_ 2 21 #[ty, ty, ty, fy, fy, fy, fy, fy, fy, fy, fy, fy, fy, fy, fy, fy] ?_
   refine pu_ HT_ 3 22 #[ty, ty, ty, ty, fy, fy, fy, fy, fy, fy, fy, fy, fy, fy, fy, fy] ?_
   refine pu_ HT_ 4 23 #[ty, ty, ty, ty, ty, fy, fy, fy, fy, fy, fy, fy, fy, fy, fy, fy] ?_
   refine one_ (i := 5) (N := some 24) #[ty, ty, ty, ty, ty, ty, fy, fy, fy, fy, fy, fy, fy, fy, fy, fy] rfl rfl (one_of HT_.out (by kernel_rfl)) (by decide) (fun K hK => ?_)
   refine goes_ Tryz.func111 (by kernel_rfl) rfl #[.slice Ao27 t700.length co27] (by rfl) rfl rfl (by (try simp only [sD_, sE_, sF_]); rfl) ?_
   with_reducible refine (xF47.calls kj2 _ _ t700 false _ ?side1 ?side2 A14.out).mono ?_
   (case side1 => repeat (first | exact (kR_ HO702.out).2.2 | with_reducible first | apply cA_ | apply cN_ | apply cD_))
   (case side2 => exact (kR_ HO702.out).2.1)
   rintro e w' ⟨rfl, ⟨nd, rfl⟩⟩
   refine ⟨_, rfl, ?_⟩
   refine hK.out _ _ trivial (fun hHeld => ?_)
   clear hK K
   refine norm_ (by show Act.put _ (some 24) _ = _; simp only [Act.put, sA_, sB_, sC_, i6_, i3_]; rfl) ?_
   refine pu_ HT_ 6 25 #[ty, ty, ty, ty, ty, ty, ty, fy, fy, fy, fy, fy, fy, fy, fy, fy] ?_
   refine pu_ HT_ 7 26 #[ty, ty, ty, ty, ty, ty, ty, ty, fy, fy, fy, fy, fy, fy, fy, fy] ?_
   refine pure_ (i := 8) (N := some 27) (v := undef) (a' := ?_) #[ty, ty, ty, ty, ty, ty, ty, ty, ty, fy, fy, fy, fy, fy, fy, fy] rfl rfl (aO_ HT_.out (by kernel_rfl)) (fun _ _ _ h => h) (Or.inr ⟨by rfl, rfl⟩) ?_ ?_
   rotate_left
   ·
    simp only [Act.put, sA_, sB_, sC_, i6_, i3_]
    rfl
   refine pure_ (i := 9) (N := some 28) (v := undef) (a' := ?_) #[ty, ty, ty, ty, ty, ty, ty, ty, ty, ty, fy, fy, fy, fy, fy, fy] rfl rfl (aO_ HT_.out (by kernel_rfl)) (fun _ _ _ h => h) (Or.inr ⟨by rfl, rfl⟩) ?_ ?_
   rotate_left
   ·
    simp only [Act.put, sA_, sB_, sC_, i6_, i3_]
    rfl
   refine pure_ (i := 10) (N := some 29) (v := undef) (a' := ?_) #[ty, ty, ty, ty, ty, ty, ty, ty, ty, ty, ty, fy, fy, fy, fy, fy] rfl rfl (aO_ HT_.out (by kernel_rfl)) (fun _ _ _ h => h) (Or.inr ⟨by rfl, rfl⟩) ?_ ?_
   rotate_left
   ·
    simp only [Act.put, sA_, sB_, sC_, i6_, i3_]
    rfl
   refine pure_ (i := 11) (N := some 30) (v := undef) (a' := ?_) #[ty, ty, ty, ty, ty, ty, ty, ty, ty, ty, ty, ty, fy, fy, fy, fy] rfl rfl (aO_ HT_.out (by kernel_rfl)) (fun _ _ _ h => h) (Or.inr ⟨by rfl, rfl⟩) ?_ ?_
   rotate_left
   ·
    simp only [Act.put, sA_, sB_, sC_, i6_, i3_]
    rfl
   refine pure_ (i := 12) (N := some 31) (v := undef) (a' := ?_) #[ty, ty, ty, ty, ty, ty, ty, ty, ty, ty, ty, ty, ty, fy, fy, fy] rfl rfl (aO_ HT_.out (by kernel_rfl)) (fun _ _ _ h => h) (Or.inr ⟨by rfl, rfl⟩) ?_ ?_
   rotate_left
   ·
    simp only [Act.put, sA_, sB_, sC_, i6_, i3_]
    rfl
   refine pure_ (i := 13) (N := some 32) (v := undef) (a' := ?_) #[ty, ty, ty, ty, ty, ty, ty, ty, ty, ty, ty, ty, ty, ty, fy, fy] rfl rfl (aO_ HT_.out (by kernel_rfl)) (fun _ _ _ h => h) (Or.inr ⟨by rfl, rfl⟩) ?_ ?_
   rotate_left
   ·
    simp only [Act.put, sA_, sB_, sC_, i6_, i3_]
    rfl
   refine pu_ HT_ 14 33 #[ty, ty, ty, ty, ty, ty, ty, ty, ty, ty, ty, ty, ty, ty, ty, fy] ?_
   refine pu_ HT_ 15 2 #[ty, ty, ty, ty, ty, ty, ty, ty, ty, ty, ty, ty, ty, ty, ty, ty] ?_
   refine done_ (done_of HT_.out (by kernel_rfl)) ?_
   try go_wp2
   go_ret
   exact ⟨by rfl, by repeat with_reducible first | exact HB.out | apply bA_ | apply bN_ | apply bD_ | refine bS_ ?_ GW694.out⟩
  subst c15
  rw [if_pos rfl] at H
  replace H := oB_.mp H
  obtain ⟨t704, A160, H⟩ := H
  try dsimp only at H
  have A16 := aM_ A160
  clear A160
  replace H := oB_.mp H
  obtain ⟨t707, A170, H⟩ := H
  try dsimp only at H
  have A17 := aM_ A170
  clear A170
  obtain rfl := Option.some.inj H
  have hcz18_0 := c0_ BK694
  have hfz18_0 := bF_ BK694.out 0
  try go_wp2_with (first | (refine gs_ 18 Tryz.func66 #[.agg #[.slice A0_0 l0_0.length c0_0]] ?_; (with_reducible refine (iF17.calls kj2 _ _ l0_0 t700 _ ?side1 HC0_0.out A12.out).mono ?_); (case side1 => repeat (first | exact (k4_ HR0_0.out HB.out) | with_reducible first | apply cA_ | apply cN_ | apply cD_)); rintro e w19 ⟨v701, rfl, ho0, hb⟩; refine ⟨_, rfl, ?_⟩; have HO702 := aM_ (k5_ ho0 (bZ_ HB.out)); replace BK694 := b5_ BK694 hb; replace HB := b4_ HB hb; (try clear hb); (try clear ho0)))
  have n0_ := aM_ (k3_ HO702.out)
  have n1_ := aM_ (b1_ BK694.out)
  have n2_ := aM_ (bD_ HB.out)
  clear HO702
  clear BK694
  clear HB
  have HO702 := n0_
  have BK694 := n1_
  have HB := n2_
  clear n0_ n1_ n2_
  obtain ⟨Ao21, co21, eo21⟩ := kS_ HO702.out
  (subst eo21)
  refine start_ (n := 16) (S := fun w' => w'.cell? ⟨gb694, 0, none⟩ = some (.slice A0_0 l0_0.length c0_0)) (ds := []) #[fy, fy, fy, fy, fy, fy, fy, fy, fy, fy, fy, fy, fy, fy, fy, fy] (by kernel_rfl) rfl rfl ((bC_ BK694.out 0).trans rfl) (fun hHeld => ?_); refine with_tabW iF22.tab5 iF22.bits5 (fun HT_ HW_ => ?_)
  generalize w19.drew = w20 at HO702 BK694 HB hHeld ⊢
  refine pu_ HT_ 0 19 #[ty, fy, fy, fy, fy, fy, fy, fy, fy, fy, fy, fy, fy, fy, fy, fy] ?_
  refine pu_ HT_ 1 20 #[ty, ty, fy, fy, fy, fy, fy, fy, fy, fy, fy, fy, fy, fy, fy, fy] ?_
  refine pu_ HT_ 2 21 #[ty, ty, ty, fy, fy, fy, fy, fy, fy, fy, fy, fy, fy, fy, fy, fy] ?_
  refine pu_ HT_ 3 22 #[ty, ty, ty, ty, fy, fy, fy, fy, fy, fy, fy, fy, fy, fy, fy, fy] ?_
  refine pu_ HT_ 4 23 #[ty, ty, ty, ty, ty, fy, fy, fy, fy, fy, fy, fy, fy, fy, fy, fy] ?_
  refine one_ (i := 5) (N := some 24) #[ty, ty, ty, ty, ty, ty, fy, fy, fy, fy, fy, fy, fy, fy, fy, fy] rfl rfl (one_of HT_.out (by kernel_rfl)) (by decide) (fun K hK => ?_)
  refine goes_ Tryz.func111 (by kernel_rfl) rfl #[.slice Ao21 t700.length co21] (by rfl) rfl rfl (by (try simp only [sD_, sE_, sF_]); rfl) ?_
  with_reducible refine (xF47.calls kj2 _ _ t700 true _ ?side1 ?side2 A14.out).mono ?_
  (case side1 => repeat (first | exact (kR_ HO702.out).2.2 | with_reducible first | apply cA_ | apply cN_ | apply cD_))
  (case side2 => exact (kR_ HO702.out).2.1)
  rintro e w' ⟨rfl, ⟨nd, rfl⟩⟩
  refine ⟨_, rfl, ?_⟩
  refine hK.out _ _ ((bC_ BK694.out 0).trans rfl) (fun hHeld => ?_)
  clear hK K
  refine norm_ (by show Act.put _ (some 24) _ = _; simp only [Act.put, sA_, sB_, sC_, i6_, i3_]; rfl) ?_
  refine pu_ HT_ 6 25 #[ty, ty, ty, ty, ty, ty, ty, fy, fy, fy, fy, fy, fy, fy, fy, fy] ?_
  refine pu_ HT_ 7 26 #[ty, ty, ty, ty, ty, ty, ty, ty, fy, fy, fy, fy, fy, fy, fy, fy] ?_
  refine pu_ HT_ 8 27 #[ty, ty, ty, ty, ty, ty, ty, ty, ty, fy, fy, fy, fy, fy, fy, fy] ?_
  refine pu_ HT_ 11 30 #[ty, ty, ty, ty, ty, ty, ty, ty, ty, fy, fy, ty, fy, fy, fy, fy] ?_
  refine take_ (i := 12) (N := some 31) (v := ?_) (a' := ?_) #[ty, ty, ty, ty, ty, ty, ty, ty, ty, fy, fy, ty, ty, fy, fy, fy] rfl rfl (tW_ HT_.out HW_.out (by kernel_rfl)) (fun _ _ _ h => h) (Or.inl ⟨by rfl, ?_⟩) hHeld ?_ ?_; rotate_left; (intro w' s0; go_simp; with_reducible rfl); rotate_left; (simp only [Act.put, sA_, sB_, sC_, i6_, i3_]; rfl)
  refine one_ (i := 9) (N := some 28) #[ty, ty, ty, ty, ty, ty, ty, ty, ty, ty, fy, ty, ty, fy, fy, fy] rfl rfl (one_of HT_.out (by kernel_rfl)) (by decide) (fun K hK => ?_)
  refine goes_ Tryz.func79 (by kernel_rfl) rfl #[.slice Ao21 t700.length co21] (by rfl) rfl rfl (by (try simp only [sD_, sE_, sF_]); rfl) ?_
  with_reducible refine (iF28.calls kj2 _ _ t700 t704 _ ?side1 ?side2 A16.out).mono ?_
  (case side1 => repeat (first | exact (kR_ HO702.out).2.2 | with_reducible first | apply cA_ | apply cN_ | apply cD_))
  (case side2 => exact (kR_ HO702.out).2.1)
  rintro e w22 ⟨v705, rfl, ho0, hb⟩
  refine ⟨_, rfl, ?_⟩
  have n0_ := aM_ (kB_ (by (with_reducible repeat (first | apply k1_ | apply k2_ | apply k3_)); exact HO702.out) hb)
  have n1_ := aM_ (k5_ ho0 (bZ_ (by repeat with_reducible first | exact HB.out | apply bA_ | apply bN_ | apply bD_ | refine bS_ ?_ GW694.out)))
  have n2_ := aM_ (bB_ (g := gb694) (o := .cells #[.slice A0_0 l0_0.length c0_0] 36 (0, 0)) (by (with_reducible repeat (first | refine b2_ ?_ _ | refine b1_ ?_ | refine b3_ ?_ _)); exact BK694.out) hb)
  have n3_ := aM_ (bT_ (by repeat with_reducible first | exact HB.out | apply bA_ | apply bN_ | apply bD_ | refine bS_ ?_ GW694.out) hb)
  clear HO702
  clear BK694
  clear HB
  have HO702 := n0_
  have HO706 := n1_
  have BK694 := n2_
  have HB := n3_
  clear n0_ n1_ n2_ n3_
  (try clear hb)
  (try clear ho0)
  obtain ⟨Ao23, co23, eo23⟩ := kS_ HO706.out
  (subst eo23)
  refine hK.out _ _ ((bC_ BK694.out 0).trans rfl) (fun hHeld => ?_)
  clear hK K
  refine norm_ (by show Act.put _ (some 28) _ = _; simp only [Act.put, sA_, sB_, sC_, i6_, i3_]; rfl) ?_
  refine pu_ HT_ 10 29 #[ty, ty, ty, ty, ty, ty, ty, ty, ty, ty, ty, ty, ty, fy, fy, fy] ?_
  refine one_ (i := 13) (N := some 32) #[ty, ty, ty, ty, ty, ty, ty, ty, ty, ty, ty, ty, ty, ty, fy, fy] rfl rfl (one_of HT_.out (by kernel_rfl)) (by decide) (fun K hK => ?_)
  refine goes_ Tryz.func112 (by kernel_rfl) rfl #[.slice Ao23 t704.length co23, .slice A0_0 l0_0.length c0_0] (by rfl) rfl rfl (by (try simp only [sD_, sE_, sF_]); rfl) ?_
  with_reducible refine (iF9.calls kj2 _ _ t704 _ _ l0_0 t707 _ ?side1 ?side2 ?side3 ?side4 A17.out).mono ?_
  (case side1 => repeat (first | exact (kR_ HO706.out).2.2 | with_reducible first | apply cA_ | apply cN_ | apply cD_))
  (case side2 => exact (kR_ HO706.out).2.1)
  (case side3 => repeat (first | exact (k4_ HR0_0.out HB.out) | with_reducible first | apply cA_ | apply cN_ | apply cD_))
  (case side4 => exact HC0_0.out)
  rintro e w' ⟨rfl, ⟨nd, rfl⟩⟩
  refine ⟨_, rfl, ?_⟩
  refine hK.out _ _ ((bC_ BK694.out 0).trans rfl) (fun hHeld => ?_)
  clear hK K
  refine norm_ (by show Act.put _ (some 32) _ = _; simp only [Act.put, sA_, sB_, sC_, i6_, i3_]; rfl) ?_
  refine pu_ HT_ 14 33 #[ty, ty, ty, ty, ty, ty, ty, ty, ty, ty, ty, ty, ty, ty, ty, fy] ?_
  refine pu_ HT_ 15 2 #[ty, ty, ty, ty, ty, ty, ty, ty, ty, ty, ty, ty, ty, ty, ty, ty] ?_
  refine done_ (done_of HT_.out (by kernel_rfl)) ?_
  try go_wp2
  go_ret
  exact ⟨by rfl, by repeat with_reducible first | exact HB.out | apply bA_ | apply bN_ | apply bD_ | refine bS_ ?_ GW694.out⟩
def iF18.f (k : Nat) (l0_0 : List (S76)) (a1 : ByteArray) : Option (Bool) := (iF22.f k l0_0).bind fun t709 => (if t709 = true then ((iF24.f a1).bind fun t710 => (some t710)) else (some false))
theorem iF18.mono : ∀ a0 a1 k, LeO (iF18.f k a0 a1) (iF18.f (k + 1) a0 a1) := by
 intro a0 a1 k
 unfold iF18.f
 repeat' with_reducible first | exact iF22.mono _ _ | exact l3_ _ | exact l0_ _ | refine l2_ ?_ ?_ | refine l1_ ?_ (fun _ => ?_)
theorem iF18.calls (k : Nat) (A0_0 : Option Addr) (c0_0 : Nat) (l0_0 : List (S76)) (a1 : ByteArray) (r : Bool) (w : World) (hr0_0 : Kd.C k76 w A0_0 l0_0.length l0_0) (hc0_0 : l0_0.length ≤ c0_0) (h : iF18.f k l0_0 a1 = some r) :
  Calls Tryz.prog 76 #[.agg #[.slice A0_0 l0_0.length c0_0], .string a1] w fun e w' => e = .returned (.bool r) ∧ Below w.heap.size w w' := by
 have hu36 := Tryz.underlying36
 have HR0_0 := aM_ hr0_0
 have HC0_0 := aM_ hc0_0
 clear hr0_0 hc0_0
 have HB := aM_ (Below.refl w.heap.size w)
 have H : ((iF22.f k l0_0).bind fun t709 => (if t709 = true then ((iF24.f a1).bind fun t710 => (some t710)) else (some false))) = some r := h
 clear h
 replace H := oB_.mp H
 obtain ⟨t709, A30, H⟩ := H
 try dsimp only at H
 have A3 := aM_ A30
 clear A30
 by_cases c4 : t709 = true
 ·
  subst c4
  rw [if_pos rfl] at H
  replace H := oB_.mp H
  obtain ⟨t710, A50, H⟩ := H
  try dsimp only at H
  have A5 := aM_ A50
  clear A50
  obtain rfl := Option.some.inj H
  go_enter Tryz.func76, Tryz.ntmps76
  go_wp2_with (first | (refine bx_ 2 #[.slice A0_0 l0_0.length c0_0] 36 ?_; intro gb708 hg w6 hbox hb; have BK708 := aM_ (hbox); have GW708 := gw_ hg HB; replace HB := b4_ HB hb; clear hb hbox hg; have hcz7_0 := c0_ BK708; have hfz7_0 := bF_ BK708.out 0) | (refine gs_ 6 Tryz.func92 #[.agg #[.slice A0_0 l0_0.length c0_0]] ?_; (with_reducible refine (iF22.calls k _ _ l0_0 true _ ?side1 HC0_0.out A3.out).mono ?_); (case side1 => repeat (first | exact (k4_ HR0_0.out HB.out) | with_reducible first | apply cA_ | apply cN_ | apply cD_)); rintro e w8 ⟨rfl, hb⟩; refine ⟨_, rfl, ?_⟩; replace BK708 := b5_ BK708 hb; replace HB := b4_ HB hb; (try clear hb)) | (go_at_call 34; (with_reducible refine (iF24.calls a1 t710 _ A5.out).mono ?_); rintro e w9 ⟨rfl, hb⟩; replace BK708 := b5_ BK708 hb; replace HB := b4_ HB hb; (try clear hb)))
  go_ret
  exact ⟨by rfl, by exact HB.out⟩
 replace c4 := Bool.eq_false_iff.mpr c4
 subst c4
 replace H : (some false) = some r := by rw [if_neg (show ¬ (false = true) by decide)] at H; exact H
 obtain rfl := Option.some.inj H
 go_enter Tryz.func76, Tryz.ntmps76
 go_wp2_with (first | (refine bx_ 2 #[.slice A0_0 l0_0.length c0_0] 36 ?_; intro gb708 hg w10 hbox hb; have BK708 := aM_ (hbox); have GW708 := gw_ hg HB; replace HB := b4_ HB hb; clear hb hbox hg; have hcz11_0 := c0_ BK708; have hfz11_0 := bF_ BK708.out 0) | (refine gs_ 6 Tryz.func92 #[.agg #[.slice A0_0 l0_0.length c0_0]] ?_; (with_reducible refine (iF22.calls k _ _ l0_0 false _ ?side1 HC0_0.out A3.out).mono ?_); (case side1 => repeat (first | exact (k4_ HR0_0.out HB.out) | with_reducible first | apply cA_ | apply cN_ | apply cD_)); rintro e w12 ⟨rfl, hb⟩; refine ⟨_, rfl, ?_⟩; replace BK708 := b5_ BK708 hb; replace HB := b4_ HB hb; (try clear hb)))
 go_ret
 exact ⟨by rfl, by exact HB.out⟩
def iF8.p (a1 x : ByteArray) : Bool := x.toList == a1.toList
def iF8.f (k : Nat) (l0_0 : List S76) (a1 : ByteArray) : Option (List S76 × Bool) := (iF18.f k l0_0 a1).bind fun t => if t = true then (iF12.f k l0_0 a1).bind fun b => (if b = true then (iF17.f k l0_0).bind fun ws => (if ws.length ≤ 9223372036854775807 then (iF28.f k (ws.filter fun x => !iF8.p a1 x)).bind fun N => some (N, true) else none) else some ([], false)) else some ([], false)
theorem iF8.mono : ∀ a0 a1 k, LeO (iF8.f k a0 a1) (iF8.f (k + 1) a0 a1) := by
 intro a0 a1 k
 exact l1_ (iF18.mono _ _ _) fun t => l2_ (l1_ (iF12.mono _ _ _) fun b => l2_ (l1_ (iF17.mono _ _) fun ws => l2_ (l1_ (iF28.mono _ _) fun N => l3_ _) (l3_ _)) (l3_ _)) (l3_ _)
set_option maxHeartbeats 1000000 in
theorem iF8.lit (a1 x : ByteArray) (B : Nat) (W : World) (hc : W.cell? ⟨B, 0, none⟩ = some (.string a1)) :
  Calls Tryz.prog 81 (#[.string x] ++ #[.pointer (some ⟨B, 0, none⟩)]) W fun e W' => e = .returned (.bool (iF8.p a1 x)) ∧ Below W.heap.size W W' := by
 show Calls Tryz.prog 81 #[.string x, .pointer (some ⟨B, 0, none⟩)] W _
 by_cases hx : x.toList = a1.toList
 ·
  have e0 : (x.toList == a1.toList) = true := beq_iff_eq.mpr hx
  have e1 : iF8.p a1 x = true := e0
  rw [e1]
  clear e1
  go_enter Tryz.func81, Tryz.ntmps81
  go_wp2_with fail
  go_ret
  exact ⟨rfl, Below.refl _ _⟩
 have e0 : (x.toList == a1.toList) = false := beq_eq_false_iff_ne.mpr hx
 have e1 : iF8.p a1 x = false := e0
 rw [e1]
 clear e1
 go_enter Tryz.func81, Tryz.ntmps81
 go_wp2_with fail
 go_ret
 exact ⟨rfl, Below.refl _ _⟩
set_option maxHeartbeats 4000000 in
theorem iF8.calls (k : Nat) (A0_0 : Option Addr) (c0_0 : Nat) (l0_0 : List S76) (a1 : ByteArray) (r1 : List S76) (r2 : Bool) (w : World) (hr0_0 : Kd.C k76 w A0_0 l0_0.length l0_0) (hc0_0 : l0_0.length ≤ c0_0) (h : iF8.f k l0_0 a1 = some (r1, r2)) :
  Calls Tryz.prog 52 #[.agg #[.slice A0_0 l0_0.length c0_0], .string a1] w fun e w' => ∃ v0_ : Value, e = .returned (.tuple #[.agg #[v0_], .bool r2]) ∧ Kd.R k76 76 w' w.heap.size (fun _ => True) v0_ r1 ∧ Below w.heap.size w w' := by
 obtain ⟨V, hV⟩ : ∃ V, V = ((w.alloc (.cells #[.slice A0_0 l0_0.length c0_0] 36)).alloc (.cells #[.string a1] 9)).alloc (.cells #[.slice none 0 0] 36) := ⟨_, rfl⟩
 have HW1 := aM_ ((Below.refl w.heap.size w).alloc (Nat.le_refl _) (.cells #[.slice A0_0 l0_0.length c0_0] 36))
 have HW2 := aM_ (HW1.out.alloc (by simp) (.cells #[.string a1] 9))
 have HW3 := HW2.out.alloc (by simp; omega) (.cells #[.slice none 0 0] 36)
 rw [← hV] at HW3
 have HV := aM_ HW3
 have HVS := aM_ (show V.heap.size = w.heap.size + 3 from by rw [hV]; simp)
 have c0 := aM_ (show V.cell? ⟨w.heap.size, 0, none⟩ = some (.slice A0_0 l0_0.length c0_0) from (bC_ (show V.heap[w.heap.size]? = some (.cells #[.slice A0_0 l0_0.length c0_0] 36 (0, 0)) from by rw [hV]; show (((w.heap.push _).push _).push _)[w.heap.size]? = _; rw [Array.getElem?_push, if_neg (by simp <;> omega)]; rw [Array.getElem?_push, if_neg (by simp <;> omega)]; rw [Array.getElem?_push, if_pos (by simp)]) 0).trans rfl)
 have c1 := aM_ (show V.cell? ⟨w.heap.size + 1, 0, none⟩ = some (.string a1) from (bC_ (show V.heap[w.heap.size + 1]? = some (.cells #[.string a1] 9 (0, 0)) from by rw [hV]; show (((w.heap.push _).push _).push _)[w.heap.size + 1]? = _; rw [Array.getElem?_push, if_neg (by simp <;> omega)]; rw [Array.getElem?_push, if_pos (by simp)]) 0).trans rfl)
 have b2 := aM_ (show V.heap[w.heap.size + 2]? = some (.cells #[.slice none 0 0] 36 (0, 0)) from by rw [hV]; show (((w.heap.push _).push _).push _)[w.heap.size + 2]? = _; rw [Array.getElem?_push, if_pos (by simp)])
 have HCC := aM_ (fun (W : World) (hb : Below V.heap.size V W) => k4_ (k4_ hr0_0 HW3) hb)
 have HC0 := aM_ hc0_0
 unfold iF8.f at h
 obtain ⟨t, ht, h⟩ := oB_.1 h
 have HT := aM_ (iF18.calls k A0_0 c0_0 l0_0 a1 t V (k4_ hr0_0 HW3) hc0_0 ht)
 clear HW3 hr0_0 hc0_0 ht
 have none : ∀ w1, Below V.heap.size V w1 → w1.heap[w.heap.size + 2]? = some (.cells #[.slice none 0 0] 36 (0, 0)) := fun w1 hb => bB_ b2.out hb
 have HNO := aM_ none
 clear none
 cases t with
 | false =>
  simp only [Bool.false_eq_true, if_false, Option.some.injEq, Prod.mk.injEq] at h
  obtain ⟨rfl, rfl⟩ := h
  go_enter Tryz.func52, Tryz.ntmps52
  go_wp2_with fail
  rw [← hV]
  clear hV
  refine HT.out.mono ?_
  clear HT
  rintro e w1 ⟨rfl, hb⟩
  have B3 := HNO.out w1 hb
  have hk0 : w1.cell? ⟨w.heap.size + 2, 0, none⟩ = some (.slice none 0 0) := (bC_ B3 0).trans rfl
  have hf0 := bF_ B3 0
  have HB3 := aM_ B3
  have HB := aM_ (HV.out.trans (hb.mono HV.out.size))
  clear B3 hb
  go_wp2_with fail
  refine bodyPost_ret (results_ct rfl _ _ (w.heap.size + 2) 36 #[.slice none 0 0] (0, 0) _ rfl (by refine bP_ (cs := #[.slice none 0 0]) ?_ 0 _ rfl; exact HB3.out) Tryz.underlying36 rfl (by kernel_rfl)) rfl ?_
  exact ⟨_, rfl, Kd.R_nil _ _ _ _ _, by repeat (first | exact HB.out | refine bS_ ?_ (show w.heap.size ≤ w.heap.size + 2 from by omega))⟩
 | true =>
  simp only [if_true] at h
  obtain ⟨b, hb0, h⟩ := oB_.1 h
  have HHS := aM_ (fun (W : World) (hb : Below V.heap.size V W) => iF12.calls k A0_0 c0_0 l0_0 a1 b W (HCC.out W hb) HC0.out hb0)
  clear hb0
  cases b with
  | false =>
   simp only [Bool.false_eq_true, if_false, Option.some.injEq, Prod.mk.injEq] at h
   obtain ⟨rfl, rfl⟩ := h
   go_enter Tryz.func52, Tryz.ntmps52
   go_wp2_with fail
   rw [← hV]
   clear hV
   refine HT.out.mono ?_
   clear HT
   rintro e w1 ⟨rfl, hb⟩
   have d0 := (hb.cell (p := ⟨w.heap.size, 0, none⟩) (by have := HVS.out; simp; omega)).trans c0.out
   have d1 := (hb.cell (p := ⟨w.heap.size + 1, 0, none⟩) (by have := HVS.out; simp; omega)).trans c1.out
   have HB1 := aM_ hb
   clear hb
   go_wp2_with fail
   refine (HHS.out w1 HB1.out).mono ?_
   clear HHS d0 d1
   rintro e w2 ⟨rfl, hd⟩
   have hb2 := HB1.out.trans (hd.mono HB1.out.size)
   have B3 := HNO.out w2 hb2
   have hk0 : w2.cell? ⟨w.heap.size + 2, 0, none⟩ = some (.slice none 0 0) := (bC_ B3 0).trans rfl
   have hf0 := bF_ B3 0
   have HB3 := aM_ B3
   have HB := aM_ (HV.out.trans (hb2.mono HV.out.size))
   clear B3 hb2 hd
   go_wp2_with fail
   refine bodyPost_ret (results_ct rfl _ _ (w.heap.size + 2) 36 #[.slice none 0 0] (0, 0) _ rfl (by refine bP_ (cs := #[.slice none 0 0]) ?_ 0 _ rfl; exact HB3.out) Tryz.underlying36 rfl (by kernel_rfl)) rfl ?_
   exact ⟨_, rfl, Kd.R_nil _ _ _ _ _, by repeat (first | exact HB.out | refine bS_ ?_ (show w.heap.size ≤ w.heap.size + 2 from by omega))⟩
  | true =>
   simp only [if_true] at h
   obtain ⟨ws, hw, h⟩ := oB_.1 h
   by_cases hl : ws.length ≤ 9223372036854775807
   rotate_left
   ·
    rw [if_neg hl] at h; cases h
   rw [if_pos hl] at h
   obtain ⟨N, hN, h⟩ := oB_.1 h
   simp only [Option.some.injEq, Prod.mk.injEq] at h
   obtain ⟨rfl, rfl⟩ := h
   have HWS := aM_ (fun (W : World) (hb : Below V.heap.size V W) => iF17.calls k A0_0 c0_0 l0_0 ws W (HCC.out W hb) HC0.out hw)
   have HG := aM_ hl
   have HTN := aM_ hN
   clear hw hl hN
   go_enter Tryz.func52, Tryz.ntmps52
   go_wp2_with fail
   rw [← hV]
   clear hV
   refine HT.out.mono ?_
   clear HT
   rintro e w1 ⟨rfl, hb⟩
   have d0 := (hb.cell (p := ⟨w.heap.size, 0, none⟩) (by have := HVS.out; simp; omega)).trans c0.out
   have d1 := (hb.cell (p := ⟨w.heap.size + 1, 0, none⟩) (by have := HVS.out; simp; omega)).trans c1.out
   have HB1 := aM_ hb
   clear hb
   go_wp2_with fail
   refine (HHS.out w1 HB1.out).mono ?_
   clear HHS d0 d1
   rintro e w2 ⟨rfl, hd⟩
   have HB2 := aM_ (HB1.out.trans (hd.mono HB1.out.size))
   have d0 := (HB2.out.cell (p := ⟨w.heap.size, 0, none⟩) (by have := HVS.out; simp; omega)).trans c0.out
   clear hd
   go_wp2_with fail
   refine (HWS.out w2 HB2.out).mono ?_
   clear HWS d0
   rintro e w3 ⟨v3, rfl, hr3, hb3⟩
   obtain ⟨A3, c3, hv3⟩ := kS_ hr3
   subst hv3
   have HB3 := aM_ (HB2.out.trans (hb3.mono HB2.out.size))
   have C1 := aM_ ((HB3.out.cell (p := ⟨w.heap.size + 1, 0, none⟩) (by have := HVS.out; simp; omega)).trans c1.out)
   have HD := aM_ (xF1.calls (iF8.p a1) 81 #[.pointer (some ⟨w.heap.size + 1, 0, none⟩)] (Go.Proofs.enters_of Tryz.func81 (by kernel_rfl) rfl) (fun _ => True) w2.heap.size A3 c3 ws w3 hb3.size hr3 HG.out
    (fun W x hm hk => iF8.lit a1 x (w.heap.size + 1) W (Go.Proofs.YtfhffcefpnkllaaGreatDoorW.PrintWords.cell_kept C1.out hk (by have := HVS.out; have := HB2.out.size; simp; omega))))
   clear hr3 hb3
   go_wp2_with fail
   refine HD.out.mono ?_
   clear HD
   rintro e w4 ⟨v4, rfl, hr4, hb4⟩
   obtain ⟨A4, c4, hv4⟩ := kS_ hr4
   subst hv4
   have HB4 := aM_ (HB3.out.trans (hb4.mono HB2.out.size))
   have HX := aM_ (iF28.calls k A4 c4 (DF.keep (iF8.p a1) ws) N w4 (kR_ hr4).2.2 (kR_ hr4).2.1 HTN.out)
   clear hr4 hb4
   go_wp2_with fail
   refine HX.out.mono ?_
   clear HX
   rintro e w5 ⟨v5, rfl, hr5, hb5⟩
   have HB5 := aM_ (HB4.out.trans (hb5.mono HB4.out.size))
   have HR5 := aM_ hr5
   have B2 := bB_ b2.out HB5.out
   have hk0 : w5.cell? ⟨w.heap.size + 2, 0, none⟩ = some (.slice none 0 0) := (bC_ B2 0).trans rfl
   have hf0 := bF_ B2 0
   have HBK := aM_ B2
   obtain ⟨A5, c5, hv5⟩ := kS_ hr5
   subst hv5
   clear B2 hr5 hb5
   go_wp2_with fail
   refine bodyPost_ret (results_ct rfl _ _ (w.heap.size + 2) 36 #[.slice A5 N.length c5] (0, 0) _ rfl (by refine bP_ (cs := #[.slice none 0 0]) ?_ 0 _ rfl; exact HBK.out) Tryz.underlying36 rfl (by kernel_rfl)) rfl ?_
   refine ⟨_, rfl, ?_, by repeat (first | exact HV.out.trans (HB5.out.mono HV.out.size) | refine bS_ ?_ (show w.heap.size ≤ w.heap.size + 2 from by omega))⟩
   have hsz := HB4.out.size
   have hvs := HVS.out
   refine kM_ (kF_ (p := ⟨w.heap.size + 2, 0, none⟩) (k5_ (Kd.R_bound HR5.out) (show w.heap.size ≤ w4.heap.size from by omega)) (fun k_ hk => by have h_ := hk.2.1; dsimp only at *; omega) _) (fun _ _ => trivial)
def iF20.f (k : Nat) (l0_0 : List (S60)) (a1 : ByteArray) : Option ((List (S60)) × Int × Bool) := (iF10.f k l0_0).bind fun bt838 => (if bt838.2 = true then ((iF8.f k bt838.1 a1).bind fun bt843 => (if bt843.2 = true then ((iF15.f k bt843.1).bind fun t847 => (some (t847, wrap64 ((t847.length : Int) - (l0_0.length : Int)), true))) else (some (([] : List (S60)), 0, false)))) else (some (([] : List (S60)), 0, false)))
theorem iF20.mono : ∀ a0 a1 k, LeO (iF20.f k a0 a1) (iF20.f (k + 1) a0 a1) := by
 intro a0 a1 k
 unfold iF20.f
 repeat' with_reducible first | exact iF8.mono _ _ _ | exact iF10.mono _ _ | exact iF15.mono _ _ | exact l3_ _ | exact l0_ _ | refine l2_ ?_ ?_ | refine l1_ ?_ (fun _ => ?_)
def iF20.T8 : Bool × List (List Nat × List Nat) := (true, [([], []), ([], []), ([1], [1]), ([2], [2]), ([], []), ([4], [4]), ([5], [5]), ([3, 6], [3, 6]), ([0, 0], [0]), ([7, 8, 0, 1, 2, 3, 4, 5, 6, 7, 8], [7]), ([9, 0, 1, 2, 3, 4, 5, 6, 7, 8, 9], [])])
def iF20.B8 : List Nat := [0, 0, 2, 6, 0, 16, 48, 126, 1, 511, 1023]
theorem iF20.tab8 : rtab .any (opsOf Tryz.f48 8) = iF20.T8 := by kernel_rfl
theorem iF20.bits8 : waitsOk iF20.T8.2 iF20.B8 = true := by kernel_rfl
theorem iF20.calls (k : Nat) (A0_0 : Option Addr) (c0_0 : Nat) (l0_0 : List (S60)) (a1 : ByteArray) (r1 : List (S60)) (r2 : Int) (r3 : Bool) (w : World) (hr0_0 : Kd.C k60 w A0_0 l0_0.length l0_0) (hc0_0 : l0_0.length ≤ c0_0) (h : iF20.f k l0_0 a1 = some (r1, r2, r3)) :
  Calls Tryz.prog 48 #[.agg #[.slice A0_0 l0_0.length c0_0], .string a1, .func (.func 52) #[] #[]] w fun e w' => ∃ v0_ : Value, e = .returned (.tuple #[.agg #[v0_], .int .i64 r2, .bool r3]) ∧ Kd.R k60 60 w' w.heap.size (fun _ => True) v0_ r1 ∧ Below w.heap.size w w' := by
 have hu30 := Tryz.underlying30
 have hu36 := Tryz.underlying36
 have HR0_0 := aM_ hr0_0
 have HC0_0 := aM_ hc0_0
 clear hr0_0 hc0_0
 have HB := aM_ (Below.refl w.heap.size w)
 have H : ((iF10.f k l0_0).bind fun bt838 => (if bt838.2 = true then ((iF8.f k bt838.1 a1).bind fun bt843 => (if bt843.2 = true then ((iF15.f k bt843.1).bind fun t847 => (some (t847, wrap64 ((t847.length : Int) - (l0_0.length : Int)), true))) else (some (([] : List (S60)), 0, false)))) else (some (([] : List (S60)), 0, false)))) = some (r1, r2, r3) := h
 clear h
 replace H := oB_.mp H
 obtain ⟨⟨t838, t841⟩, A30, H⟩ := H
 try dsimp only at H
 have A3 := aM_ A30
 clear A30
 by_cases c4 : t841 = true
 rotate_left
 ·
  replace c4 := Bool.eq_false_iff.mpr c4
  subst c4
  replace H : (some (([] : List (S60)), 0, false)) = some (r1, r2, r3) := by rw [if_neg (show ¬ (false = true) by decide)] at H; exact H
  simp only [Option.some.injEq, Prod.mk.injEq] at H
  obtain ⟨rfl, rfl, rfl⟩ := H
  go_enter Tryz.func48, Tryz.ntmps48
  go_wp2_with (first | (refine bx_ 3 #[.slice A0_0 l0_0.length c0_0] 30 ?_; intro gb836 hg w45 hbox hb; have BK836 := aM_ (hbox); have GW836 := gw_ hg HB; replace HB := b4_ HB hb; clear hb hbox hg) | (refine bx_ 6 #[.slice none 0 0] 30 ?_; intro gb837 hg w46 hbox hb; have BK837 := aM_ (hbox); have GW837 := gw_ hg HB; replace HB := b4_ HB hb; have NB836_837 := nb_ hg BK836; have NB837_836 := ns_ NB836_837; replace BK836 := b5_ BK836 hb; clear hb hbox hg; have hnb47 := NB836_837.out; have hnc47 := NB837_836.out; have hcz48_0 := c0_ BK836; have hfz48_0 := bF_ BK836.out 0) | (refine gs_ 14 Tryz.func33 #[.agg #[.slice A0_0 l0_0.length c0_0]] ?_; (with_reducible refine (iF10.calls k _ _ l0_0 t838 false _ ?side1 HC0_0.out A3.out).mono ?_); (case side1 => repeat (first | exact (k4_ HR0_0.out HB.out) | with_reducible first | apply cA_ | apply cN_ | apply cD_)); rintro e w49 ⟨v839, rfl, ho0, hb⟩; refine ⟨_, rfl, ?_⟩; have HO840 := aM_ (k5_ ho0 (bZ_ HB.out)); replace BK836 := b5_ BK836 hb; replace BK837 := b5_ BK837 hb; replace HB := b4_ HB hb; (try clear hb); (try clear ho0)) | (refine bx_ 9 #[.slice none 0 0] 36 ?_; intro gb842 hg w50 hbox hb; replace HO840 := k9_ HO840 hb; have BK842 := aM_ (hbox); have GW842 := gw_ hg HB; replace HB := b4_ HB hb; have NB836_842 := nb_ hg BK836; have NB842_836 := ns_ NB836_842; replace BK836 := b5_ BK836 hb; have NB837_842 := nb_ hg BK837; have NB842_837 := ns_ NB837_842; replace BK837 := b5_ BK837 hb; clear hb hbox hg; obtain ⟨Ao51, co51, eo51⟩ := kS_ HO840.out; subst eo51; have hnb52 := NB842_836.out; have hnc52 := NB836_842.out; have hnb53 := NB842_837.out; have hnc53 := NB837_842.out; have hcz54_0 := c0_ BK842; have hfz54_0 := bF_ BK842.out 0; have hcz55_0 := c0_ BK837; have hfz55_0 := bF_ BK837.out 0))
  refine bodyPost_ret (results_ctt rfl _ _ gb837 30 #[.slice none 0 0] (0, 0) _ rfl (by refine bP_ (cs := #[.slice none 0 0]) ?_ 0 _ rfl; exact br_ NB837_842.out (BK837.out)) Tryz.underlying30 rfl (by kernel_rfl)) rfl ?_
  exact ⟨_, by rfl, by exact Kd.R_nil _ _ _ _ _, by repeat with_reducible first | exact HB.out | apply bA_ | apply bN_ | apply bD_ | refine bS_ ?_ (Aside0.out ‹_›)⟩
 subst c4
 rw [if_pos rfl] at H
 replace H := oB_.mp H
 obtain ⟨⟨t843, t846⟩, A50, H⟩ := H
 try dsimp only at H
 have A5 := aM_ A50
 clear A50
 by_cases c6 : t846 = true
 rotate_left
 ·
  replace c6 := Bool.eq_false_iff.mpr c6
  subst c6
  replace H : (some (([] : List (S60)), 0, false)) = some (r1, r2, r3) := by rw [if_neg (show ¬ (false = true) by decide)] at H; exact H
  simp only [Option.some.injEq, Prod.mk.injEq] at H
  obtain ⟨rfl, rfl, rfl⟩ := H
  go_enter Tryz.func48, Tryz.ntmps48
  go_wp2_with (first | (refine bx_ 3 #[.slice A0_0 l0_0.length c0_0] 30 ?_; intro gb836 hg w31 hbox hb; have BK836 := aM_ (hbox); have GW836 := gw_ hg HB; replace HB := b4_ HB hb; clear hb hbox hg) | (refine bx_ 6 #[.slice none 0 0] 30 ?_; intro gb837 hg w32 hbox hb; have BK837 := aM_ (hbox); have GW837 := gw_ hg HB; replace HB := b4_ HB hb; have NB836_837 := nb_ hg BK836; have NB837_836 := ns_ NB836_837; replace BK836 := b5_ BK836 hb; clear hb hbox hg; have hnb33 := NB836_837.out; have hnc33 := NB837_836.out; have hcz34_0 := c0_ BK836; have hfz34_0 := bF_ BK836.out 0) | (refine gs_ 14 Tryz.func33 #[.agg #[.slice A0_0 l0_0.length c0_0]] ?_; (with_reducible refine (iF10.calls k _ _ l0_0 t838 true _ ?side1 HC0_0.out A3.out).mono ?_); (case side1 => repeat (first | exact (k4_ HR0_0.out HB.out) | with_reducible first | apply cA_ | apply cN_ | apply cD_)); rintro e w35 ⟨v839, rfl, ho0, hb⟩; refine ⟨_, rfl, ?_⟩; have HO840 := aM_ (k5_ ho0 (bZ_ HB.out)); replace BK836 := b5_ BK836 hb; replace BK837 := b5_ BK837 hb; replace HB := b4_ HB hb; (try clear hb); (try clear ho0)) | (refine bx_ 9 #[.slice none 0 0] 36 ?_; intro gb842 hg w36 hbox hb; replace HO840 := k9_ HO840 hb; have BK842 := aM_ (hbox); have GW842 := gw_ hg HB; replace HB := b4_ HB hb; have NB836_842 := nb_ hg BK836; have NB842_836 := ns_ NB836_842; replace BK836 := b5_ BK836 hb; have NB837_842 := nb_ hg BK837; have NB842_837 := ns_ NB837_842; replace BK837 := b5_ BK837 hb; clear hb hbox hg; obtain ⟨Ao37, co37, eo37⟩ := kS_ HO840.out; subst eo37; have hnb38 := NB842_836.out; have hnc38 := NB836_842.out; have hnb39 := NB842_837.out; have hnc39 := NB837_842.out; have hcz40_0 := c0_ BK842; have hfz40_0 := bF_ BK842.out 0) | (refine goesD_ (some 24) rfl rfl (t := 21) (by rfl) Tryz.func52 (by kernel_rfl) rfl #[.agg #[.slice Ao37 t838.length co37], .string a1] rfl (by (try simp only [sD_, sE_, sF_]); rfl) ?_; (with_reducible refine (iF8.calls k _ _ t838 a1 t843 false _ ?side1 ?side2 A5.out).mono ?_); (case side1 => refine (kR_ (e := 76) (base := w.heap.size) (ok := fun k_ => True) (n := t838.length) (c := co37) ?_).2.2; exact (by exact (kM_ (kG_ (kT_ HO840.out BK842.out (by decide))) (fun _ h_ => h_.1)))); (case side2 => exact (kR_ HO840.out).2.1); rintro e w41 ⟨v844, rfl, ho0, hb⟩; refine ⟨_, rfl, ?_⟩; have HO845 := aM_ (k5_ (Kd.R_new' ho0 (Kd.R_lt (by exact (kM_ (kG_ (kT_ HO840.out BK842.out (by decide))) (fun _ h_ => h_.1))))) (bZ_ (by repeat with_reducible first | exact HB.out | apply bA_ | apply bN_ | apply bD_ | refine bS_ ?_ (Aside0.out ‹_›)))); replace HO840 := aM_ (Kd.R_elder' (by exact (kM_ (kG_ (kT_ HO840.out BK842.out (by decide))) (fun _ h_ => h_.1))) (Kd.R_base ho0) hb); replace BK836 := aM_ (bB_ (g := gb836) (o := .cells #[.slice A0_0 l0_0.length c0_0] 30 (0, 0)) (by exact br_ NB836_842.out (BK836.out)) hb); replace BK837 := aM_ (bB_ (g := gb837) (o := .cells #[.slice none 0 0] 30 (0, 0)) (by exact br_ NB837_842.out (BK837.out)) hb); replace BK842 := aM_ (bB_ (g := gb842) (o := .cells #[.slice Ao37 t838.length co37] 36 (0, 0)) (by refine bP_ (cs := #[.slice none 0 0]) ?_ 0 _ rfl; exact BK842.out) hb); replace HB := aM_ (bT_ (by repeat with_reducible first | exact HB.out | apply bA_ | apply bN_ | apply bD_ | refine bS_ ?_ (Aside0.out ‹_›)) hb); (try clear hb); (try clear ho0); obtain ⟨Ao42, co42, eo42⟩ := kS_ HO845.out; subst eo42; have hcz43_0 := c0_ BK842; have hfz43_0 := bF_ BK842.out 0; have hcz44_0 := c0_ BK837; have hfz44_0 := bF_ BK837.out 0))
  refine bodyPost_ret (results_ctt rfl _ _ gb837 30 #[.slice none 0 0] (0, 0) _ rfl (by refine bP_ (cs := #[.slice none 0 0]) ?_ 0 _ rfl; exact br_ NB837_842.out (BK837.out)) Tryz.underlying30 rfl (by kernel_rfl)) rfl ?_
  exact ⟨_, by rfl, by exact Kd.R_nil _ _ _ _ _, by repeat with_reducible first | exact HB.out | apply bA_ | apply bN_ | apply bD_ | refine bS_ ?_ (Aside0.out ‹_›)⟩
 subst c6
 rw [if_pos rfl] at H
 replace H := oB_.mp H
 obtain ⟨t847, A70, H⟩ := H
 try dsimp only at H
 have A7 := aM_ A70
 clear A70
 simp only [Option.some.injEq, Prod.mk.injEq] at H
 obtain ⟨rfl, rfl, rfl⟩ := H
 go_enter Tryz.func48, Tryz.ntmps48
 try go_wp2_with (first | (refine bx_ 3 #[.slice A0_0 l0_0.length c0_0] 30 ?_; intro gb836 hg w8 hbox hb; have BK836 := aM_ (hbox); have GW836 := gw_ hg HB; replace HB := b4_ HB hb; clear hb hbox hg) | (refine bx_ 6 #[.slice none 0 0] 30 ?_; intro gb837 hg w9 hbox hb; have BK837 := aM_ (hbox); have GW837 := gw_ hg HB; replace HB := b4_ HB hb; have NB836_837 := nb_ hg BK836; have NB837_836 := ns_ NB836_837; replace BK836 := b5_ BK836 hb; clear hb hbox hg; have hnb10 := NB836_837.out; have hnc10 := NB837_836.out; have hcz11_0 := c0_ BK836; have hfz11_0 := bF_ BK836.out 0) | (refine gs_ 14 Tryz.func33 #[.agg #[.slice A0_0 l0_0.length c0_0]] ?_; (with_reducible refine (iF10.calls k _ _ l0_0 t838 true _ ?side1 HC0_0.out A3.out).mono ?_); (case side1 => repeat (first | exact (k4_ HR0_0.out HB.out) | with_reducible first | apply cA_ | apply cN_ | apply cD_)); rintro e w12 ⟨v839, rfl, ho0, hb⟩; refine ⟨_, rfl, ?_⟩; have HO840 := aM_ (k5_ ho0 (bZ_ HB.out)); replace BK836 := b5_ BK836 hb; replace BK837 := b5_ BK837 hb; replace HB := b4_ HB hb; (try clear hb); (try clear ho0)) | (refine bx_ 9 #[.slice none 0 0] 36 ?_; intro gb842 hg w13 hbox hb; replace HO840 := k9_ HO840 hb; have BK842 := aM_ (hbox); have GW842 := gw_ hg HB; replace HB := b4_ HB hb; have NB836_842 := nb_ hg BK836; have NB842_836 := ns_ NB836_842; replace BK836 := b5_ BK836 hb; have NB837_842 := nb_ hg BK837; have NB842_837 := ns_ NB837_842; replace BK837 := b5_ BK837 hb; clear hb hbox hg; obtain ⟨Ao14, co14, eo14⟩ := kS_ HO840.out; subst eo14; have hnb15 := NB842_836.out; have hnc15 := NB836_842.out; have hnb16 := NB842_837.out; have hnc16 := NB837_842.out; have hcz17_0 := c0_ BK842; have hfz17_0 := bF_ BK842.out 0) | (refine goesD_ (some 24) rfl rfl (t := 21) (by rfl) Tryz.func52 (by kernel_rfl) rfl #[.agg #[.slice Ao14 t838.length co14], .string a1] rfl (by (try simp only [sD_, sE_, sF_]); rfl) ?_; (with_reducible refine (iF8.calls k _ _ t838 a1 t843 true _ ?side1 ?side2 A5.out).mono ?_); (case side1 => refine (kR_ (e := 76) (base := w.heap.size) (ok := fun k_ => True) (n := t838.length) (c := co14) ?_).2.2; exact (by exact (kM_ (kG_ (kT_ HO840.out BK842.out (by decide))) (fun _ h_ => h_.1)))); (case side2 => exact (kR_ HO840.out).2.1); rintro e w18 ⟨v844, rfl, ho0, hb⟩; refine ⟨_, rfl, ?_⟩; have HO845 := aM_ (k5_ (Kd.R_new' ho0 (Kd.R_lt (by exact (kM_ (kG_ (kT_ HO840.out BK842.out (by decide))) (fun _ h_ => h_.1))))) (bZ_ (by repeat with_reducible first | exact HB.out | apply bA_ | apply bN_ | apply bD_ | refine bS_ ?_ (Aside0.out ‹_›)))); replace HO840 := aM_ (Kd.R_elder' (by exact (kM_ (kG_ (kT_ HO840.out BK842.out (by decide))) (fun _ h_ => h_.1))) (Kd.R_base ho0) hb); replace BK836 := aM_ (bB_ (g := gb836) (o := .cells #[.slice A0_0 l0_0.length c0_0] 30 (0, 0)) (by exact br_ NB836_842.out (BK836.out)) hb); replace BK837 := aM_ (bB_ (g := gb837) (o := .cells #[.slice none 0 0] 30 (0, 0)) (by exact br_ NB837_842.out (BK837.out)) hb); replace BK842 := aM_ (bB_ (g := gb842) (o := .cells #[.slice Ao14 t838.length co14] 36 (0, 0)) (by refine bP_ (cs := #[.slice none 0 0]) ?_ 0 _ rfl; exact BK842.out) hb); replace HB := aM_ (bT_ (by repeat with_reducible first | exact HB.out | apply bA_ | apply bN_ | apply bD_ | refine bS_ ?_ (Aside0.out ‹_›)) hb); (try clear hb); (try clear ho0); obtain ⟨Ao19, co19, eo19⟩ := kS_ HO845.out; subst eo19; have hcz20_0 := c0_ BK842; have hfz20_0 := bF_ BK842.out 0) | (refine gs_ 31 Tryz.func63 #[.agg #[.slice Ao19 t843.length co19]] ?_; (with_reducible refine (iF15.calls k _ _ t843 t847 _ ?side1 ?side2 A7.out).mono ?_); (case side1 => refine (kR_ (e := 76) (base := w.heap.size) (ok := fun k_ => (True ∧ some k_ ≠ (.slice Ao14 t838.length co14 : Value).ownBlock)) (n := t843.length) (c := co19) ?_).2.2; exact (by exact (kM_ (kG_ (kT_ HO845.out BK842.out (by decide))) (fun _ h_ => h_.1)))); (case side2 => exact (kR_ HO845.out).2.1); rintro e w21 ⟨v848, rfl, ho0, hb⟩; refine ⟨_, rfl, ?_⟩; replace HO840 := aM_ (kB_ (by exact (kM_ (kG_ (kT_ HO840.out BK842.out (by decide))) (fun _ h_ => h_.1))) hb); replace HO845 := aM_ (kB_ (by exact (kM_ (kG_ (kT_ HO845.out BK842.out (by decide))) (fun _ h_ => h_.1))) hb); have HO849 := aM_ (k5_ ho0 (bZ_ (by repeat with_reducible first | exact HB.out | apply bA_ | apply bN_ | apply bD_ | refine bS_ ?_ (Aside0.out ‹_›)))); replace BK836 := aM_ (bB_ (g := gb836) (o := .cells #[.slice A0_0 l0_0.length c0_0] 30 (0, 0)) (by exact br_ NB836_842.out (BK836.out)) hb); replace BK837 := aM_ (bB_ (g := gb837) (o := .cells #[.slice none 0 0] 30 (0, 0)) (by exact br_ NB837_842.out (BK837.out)) hb); replace BK842 := aM_ (bB_ (g := gb842) (o := .cells #[.slice Ao19 t843.length co19] 36 (0, 0)) (by refine bP_ (cs := #[.slice Ao14 t838.length co14]) ?_ 0 _ rfl; exact BK842.out) hb); replace HB := aM_ (bT_ (by repeat with_reducible first | exact HB.out | apply bA_ | apply bN_ | apply bD_ | refine bS_ ?_ (Aside0.out ‹_›)) hb); (try clear hb); (try clear ho0)) | (refine bx_ 11 #[.slice none 0 0] 30 ?_; intro gb850 hg w22 hbox hb; replace HO840 := k9_ HO840 hb; replace HO845 := k9_ HO845 hb; replace HO849 := k9_ HO849 hb; have BK850 := aM_ (hbox); have GW850 := gw_ hg HB; replace HB := b4_ HB hb; have NB836_850 := nb_ hg BK836; have NB850_836 := ns_ NB836_850; replace BK836 := b5_ BK836 hb; have NB837_850 := nb_ hg BK837; have NB850_837 := ns_ NB837_850; replace BK837 := b5_ BK837 hb; have NB842_850 := nb_ hg BK842; have NB850_842 := ns_ NB842_850; replace BK842 := b5_ BK842 hb; clear hb hbox hg; obtain ⟨Ao23, co23, eo23⟩ := kS_ HO849.out; subst eo23; have hnb24 := NB850_836.out; have hnc24 := NB836_850.out; have hnb25 := NB850_837.out; have hnc25 := NB837_850.out; have hnb26 := NB850_842.out; have hnc26 := NB842_850.out; have hcz27_0 := c0_ BK850; have hfz27_0 := bF_ BK850.out 0))
 generalize hW_ : (w22.setCell ⟨gb850, 0, none⟩ (.slice Ao23 t847.length co23)) = w28
 have n0_ : Aside0 (Kd.R k76 76 w28 w.heap.size (fun k_ => some k_ ≠ (.slice Ao19 t843.length co19 : Value).ownBlock) (.slice Ao14 t838.length co14) t838) := ⟨by subst hW_; exact kM_ (kG_ (kT_ HO840.out BK850.out (by decide))) (fun _ hk => hk.1.2)⟩
 have n1_ : Aside0 (Kd.R k76 76 w28 w.heap.size (fun k_ => some k_ ≠ (.slice Ao14 t838.length co14 : Value).ownBlock) (.slice Ao19 t843.length co19) t843) := ⟨by subst hW_; exact kM_ (kG_ (kT_ HO845.out BK850.out (by decide))) (fun _ hk => hk.1.2)⟩
 have n2_ : Aside0 (Kd.R k60 60 w28 w.heap.size (fun _ => True) (.slice Ao23 t847.length co23) t847) := ⟨by subst hW_; exact kM_ (kG_ (kT_ HO849.out BK850.out (by decide))) (fun _ hk => trivial)⟩
 have n3_ : Aside0 (w28.heap[gb836]? = some (.cells #[.slice A0_0 l0_0.length c0_0] 30 (0, 0))) := ⟨by subst hW_; exact br_ NB836_850.out (BK836.out)⟩
 have n4_ : Aside0 (w28.heap[gb837]? = some (.cells #[.slice none 0 0] 30 (0, 0))) := ⟨by subst hW_; exact br_ NB837_850.out (BK837.out)⟩
 have n5_ : Aside0 (w28.heap[gb842]? = some (.cells #[.slice Ao19 t843.length co19] 36 (0, 0))) := ⟨by subst hW_; exact br_ NB842_850.out (BK842.out)⟩
 have n6_ : Aside0 (w28.heap[gb850]? = some (.cells #[.slice Ao23 t847.length co23] 30 (0, 0))) := ⟨by subst hW_; refine bP_ (cs := #[.slice none 0 0]) ?_ 0 _ rfl; exact BK850.out⟩
 have n7_ : Aside0 (Below w.heap.size w w28) := ⟨by subst hW_; repeat with_reducible first | exact HB.out | apply bA_ | apply bN_ | apply bD_ | refine bS_ ?_ (Aside0.out ‹_›)⟩
 (try clear HO840)
 (try clear HO845)
 (try clear HO849)
 (try clear BK836)
 (try clear BK837)
 (try clear BK842)
 (try clear BK850)
 (try clear HB)
 clear hW_
 have HO840 := n0_
 have HO845 := n1_
 have HO849 := n2_
 have BK836 := n3_
 have BK837 := n4_
 have BK842 := n5_
 have BK850 := n6_
 have HB := n7_
 clear n0_ n1_ n2_ n3_ n4_ n5_ n6_ n7_
 have n0_ := aM_ (k3_ HO840.out)
 have n1_ := aM_ (k3_ HO845.out)
 have n2_ := aM_ (k3_ HO849.out)
 have n3_ := aM_ (b1_ BK836.out)
 have n4_ := aM_ (b1_ BK837.out)
 have n5_ := aM_ (b1_ BK842.out)
 have n6_ := aM_ (b1_ BK850.out)
 have n7_ := aM_ (bD_ HB.out)
 clear HO840
 clear HO845
 clear HO849
 clear BK836
 clear BK837
 clear BK842
 clear BK850
 clear HB
 have HO840 := n0_
 have HO845 := n1_
 have HO849 := n2_
 have BK836 := n3_
 have BK837 := n4_
 have BK842 := n5_
 have BK850 := n6_
 have HB := n7_
 clear n0_ n1_ n2_ n3_ n4_ n5_ n6_ n7_
 refine start_ (n := 11) (S := fun w' => w'.cell? ⟨gb850, 0, none⟩ = some (.slice Ao23 t847.length co23) ∧ w'.cell? ⟨gb836, 0, none⟩ = some (.slice A0_0 l0_0.length c0_0)) (ds := []) #[fy, fy, fy, fy, fy, fy, fy, fy, fy, fy, fy] (by kernel_rfl) rfl rfl ⟨(bC_ BK850.out 0).trans rfl, (bC_ BK836.out 0).trans rfl⟩ (fun hHeld => ?_); refine with_tabW iF20.tab8 iF20.bits8 (fun HT_ HW_ => ?_)
 generalize w28.drew = w29 at HO840 HO845 HO849 BK836 BK837 BK842 BK850 HB hHeld ⊢
 refine pu_ HT_ 1 33 #[fy, ty, fy, fy, fy, fy, fy, fy, fy, fy, fy] ?_
 refine pu_ HT_ 4 36 #[fy, ty, fy, fy, ty, fy, fy, fy, fy, fy, fy] ?_
 refine tk_ HT_ HW_ 0 32 #[ty, ty, fy, fy, ty, fy, fy, fy, fy, fy, fy] hHeld ?_ (hr := by rintro w' ⟨s0, s1⟩; go_simp; with_reducible rfl)
 refine tk_ HT_ HW_ 2 34 #[ty, ty, ty, fy, ty, fy, fy, fy, fy, fy, fy] hHeld ?_ (hr := by rintro w' ⟨s0, s1⟩; go_simp; with_reducible rfl)
 refine pu_ HT_ 3 35 #[ty, ty, ty, ty, ty, fy, fy, fy, fy, fy, fy] ?_
 refine tk_ HT_ HW_ 5 37 #[ty, ty, ty, ty, ty, ty, fy, fy, fy, fy, fy] hHeld ?_ (hr := by rintro w' ⟨s0, s1⟩; go_simp; with_reducible rfl)
 refine pu_ HT_ 6 38 #[ty, ty, ty, ty, ty, ty, ty, fy, fy, fy, fy] ?_
 refine pu_ HT_ 7 39 #[ty, ty, ty, ty, ty, ty, ty, ty, fy, fy, fy] ?_
 refine one_ (i := 8) (N := none) #[ty, ty, ty, ty, ty, ty, ty, ty, ty, fy, fy] rfl rfl (one_of HT_.out (by kernel_rfl)) (by decide) (fun K hK => ?_)
 have hs30 : w29.cell? ⟨gb837, 0, none⟩ = some (.slice none 0 0) := (bC_ BK837.out 0).trans rfl
 have hfs30 := bF_ BK837.out 0
 have hns30_0 := NB836_837.out
 have hns30_2 := NB842_837.out
 have hns30_3 := NB850_837.out
 have hms30_0 := NB837_836.out
 have hms30_2 := NB837_842.out
 have hms30_3 := NB837_850.out
 refine skip_ (w1 := ?_) (by rfl) rfl ?_ ?_
 rotate_left
 ·
  go_simp
  rfl
 refine hK.out _ _ ⟨((cF_ (p := ⟨gb837, _, none⟩) NB850_837.out _).trans (hHeld.1)), ((cF_ (p := ⟨gb837, _, none⟩) NB836_837.out _).trans (hHeld.2))⟩ (fun hHeld => ?_)
 clear hK K
 refine pu_ HT_ 9 7 #[ty, ty, ty, ty, ty, ty, ty, ty, ty, ty, fy] ?_
 refine pu_ HT_ 10 8 #[ty, ty, ty, ty, ty, ty, ty, ty, ty, ty, ty] ?_
 refine done_ (done_of HT_.out (by kernel_rfl)) ?_
 try go_wp2
 refine bodyPost_ret (results_ctt rfl _ _ gb837 30 #[.slice Ao23 t847.length co23] (0, 0) _ rfl (by refine bP_ (cs := #[.slice none 0 0]) ?_ 0 _ rfl; exact BK837.out) Tryz.underlying30 rfl (by kernel_rfl)) rfl ?_
 exact ⟨_, by rfl, by exact kM_ (kG_ (kT_ HO849.out BK837.out (by decide))) (fun _ hk => trivial), by repeat with_reducible first | exact HB.out | apply bA_ | apply bN_ | apply bD_ | refine bS_ ?_ (Aside0.out ‹_›)⟩
end Go.Proofs.YtfhffcefpnkllaaGreatDoor.P
