/-
  Part 1 of the proof that FnExactLikeliestDescent returns true for every input: the functions that it reaches, each with its contract, and the law.
  Conditions: those of the given statement, no others.
-/
import Derived.Test.YtgagmodkjmegeaaKbW0
import Derived.Test.YtgagmodkjmegeaaRows
import Derived.WalkKit
import Derived.ProofKit
import Derived.OpenShut
import Derived.ShutString
import Derived.ChangeOld
import Derived.Below
import Derived.SizedLaws
import Derived.Test.YtgagmodkjmegeaaKb0
import Derived.Test.YtgagmodkjmegeaaKb1
import Derived.Test.YtgagmodkjmegeaaKb3
import Derived.Test.YtgagmodkjmegeaaKb2
set_option linter.unusedVariables false
set_option linter.unusedSimpArgs false
namespace Go.Proofs.Ytgagmodkjmegeaa.P
open Go.RowKit Go.Proofs.YtgagmodkjmegeaaW.PrintWords Go.Proofs.YtgagmodkjmegeaaW.PrintLast Go.Proofs.YtgagmodkjmegeaaW.PrintMore
open List renaming setIfInBounds_toArray → sA_, set_cons_zero → sB_, set_cons_succ → sC_, map_toArray → sD_, map_cons → sE_, map_nil → sF_, length_drop → sG_, length_take → sH_
open Bool renaming true → ty, false → fy
open Aside0 renaming mk → aM_
attribute [local go_sem] max2_int min2_int max_two min_two max_three min_three max_four min_four
set_option linter.unusedVariables false
set_option linter.unusedSimpArgs false
def spec_LikeliestDescent.l0 : Nat → List ByteArray → ByteArray → Int → List (S80) → Int → Int → Option (ByteArray × Int × Int × Bool)
 | 0, _, _, _, _, _, _ => none
 | k + 1, x5, x6, x8, x641000, x651000, x651001 => if x8 < (x5.length : Int) then (if 0 ≤ x8 then ((spec_l9Descent.f k x641000 (rdOf ByteArray.empty x5 x8)).bind fun bt652 => (if bt652.2 < x651001 then (spec_LikeliestDescent.l0 k x5 (rdOf ByteArray.empty x5 x8) (wrap64 (x8 + 1)) x641000 bt652.1 bt652.2) else (spec_LikeliestDescent.l0 k x5 x6 (wrap64 (x8 + 1)) x641000 x651000 x651001))) else (none)) else (some (x6, x651000, x651001, true))
def spec_LikeliestDescent.f (k : Nat) (l0_0 : List (S80)) : Option (ByteArray × Int × Int × Bool) := (spec_l9Drawn.f k l0_0).bind fun t642 => (if t642 = true then ((spec_l2Words.f k l0_0).bind fun t643 => (if 0 < (t643.length : Int) then ((spec_l9Descent.f k l0_0 (rdOf ByteArray.empty t643 0)).bind fun bt648 => (spec_LikeliestDescent.l0 k t643 (rdOf ByteArray.empty t643 0) 1 l0_0 bt648.1 bt648.2)) else (none))) else (some ((⟨#[]⟩ : ByteArray), 0, 0, false)))
theorem spec_LikeliestDescent.mono_l : ∀ k, (∀ y0 y1 y2 y3 y4 y5, LeO (spec_LikeliestDescent.l0 k y0 y1 y2 y3 y4 y5) (spec_LikeliestDescent.l0 (k + 1) y0 y1 y2 y3 y4 y5))
 | 0 => fun _ _ _ _ _ _ r h => by simp [spec_LikeliestDescent.l0] at h
 | k + 1 => by
  have ih0 := spec_LikeliestDescent.mono_l k
  ·
   intro y0 y1 y2 y3 y4 y5
   unfold spec_LikeliestDescent.l0
   repeat' first
   | (with_reducible exact ih0 _ _ _ _ _ _)
   | (with_reducible exact spec_l2Words.mono _ _)
   | (with_reducible exact spec_l9Descent.mono _ _ _)
   | (with_reducible exact spec_l9Drawn.mono _ _)
   | (with_reducible exact LeO.refl _)
   | (with_reducible exact LeO.none _)
   | (with_reducible refine LeO.ite ?_ ?_)
   | (with_reducible refine LeO.bind ?_ (fun _ => ?_))
   | exact ih0 _ _ _ _ _ _
   | exact spec_l2Words.mono _ _
   | exact spec_l9Descent.mono _ _ _
   | exact spec_l9Drawn.mono _ _
   | exact LeO.none _
   | refine LeO.ite ?_ ?_
   | refine LeO.bind ?_ (fun _ => ?_)
theorem spec_LikeliestDescent.mono : ∀ a0 k, LeO (spec_LikeliestDescent.f k a0) (spec_LikeliestDescent.f (k + 1) a0) := by
 intro a0 k
 have ih0 := spec_LikeliestDescent.mono_l k
 unfold spec_LikeliestDescent.f
 repeat' first
   | (with_reducible exact ih0 _ _ _ _ _ _)
   | (with_reducible exact spec_l2Words.mono _ _)
   | (with_reducible exact spec_l9Descent.mono _ _ _)
   | (with_reducible exact spec_l9Drawn.mono _ _)
   | (with_reducible exact LeO.refl _)
   | (with_reducible exact LeO.none _)
   | (with_reducible refine LeO.ite ?_ ?_)
   | (with_reducible refine LeO.bind ?_ (fun _ => ?_))
   | exact ih0 _ _ _ _ _ _
   | exact spec_l2Words.mono _ _
   | exact spec_l9Descent.mono _ _ _
   | exact spec_l9Drawn.mono _ _
   | exact LeO.none _
   | refine LeO.ite ?_ ?_
   | refine LeO.bind ?_ (fun _ => ?_)
def spec_LikeliestDescent.T4 : Bool × List (List Nat × List Nat) := (true, [([], []), ([0], [0]), ([1], [1]), ([], []), ([], []), ([4], [4]), ([5], [5]), ([3, 6], [3, 6]), ([], []), ([2, 7, 0, 1, 2, 8], [2]), ([8, 7, 9, 0, 1, 2, 3, 4, 5, 6, 7, 8, 9], [7, 8])])
def spec_LikeliestDescent.B4 : List Nat := [0, 1, 3, 0, 0, 16, 48, 120, 0, 511, 1023]
theorem spec_LikeliestDescent.tab4 : rtab .any (opsOf Try.f29 4) = spec_LikeliestDescent.T4 := by kernel_rfl
theorem spec_LikeliestDescent.bits4 : waitsOk spec_LikeliestDescent.T4.2 spec_LikeliestDescent.B4 = true := by kernel_rfl
def spec_LikeliestDescent.T8 : Bool × List (List Nat × List Nat) := (true, [([], []), ([], []), ([], []), ([1, 2], [1, 2]), ([3], [3]), ([0, 4], [0, 4]), ([], []), ([6, 5, 5, 0, 1, 2, 3, 4, 5, 6], [5, 6])])
def spec_LikeliestDescent.B8 : List Nat := [0, 0, 0, 6, 14, 31, 0, 127]
theorem spec_LikeliestDescent.tab8 : rtab .any (opsOf Try.f29 8) = spec_LikeliestDescent.T8 := by kernel_rfl
theorem spec_LikeliestDescent.bits8 : waitsOk spec_LikeliestDescent.T8.2 spec_LikeliestDescent.B8 = true := by kernel_rfl
set_option maxHeartbeats 8000000 in
set_option maxRecDepth 100000 in
theorem spec_LikeliestDescent.calls (k : Nat) (A0_0 : Option Addr) (c0_0 : Nat) (l0_0 : List (S80)) (r1 : ByteArray) (r2 : Int) (r3 : Int) (r4 : Bool) (w : World) (hr0_0 : Kd.C k80 w A0_0 l0_0.length l0_0) (hc0_0 : l0_0.length ≤ c0_0) (h : spec_LikeliestDescent.f k l0_0 = some (r1, r2, r3, r4)) :
  Calls Try.prog 29 #[.agg #[.slice A0_0 l0_0.length c0_0]] w fun e w' => e = .returned (.tuple #[.string r1, .agg #[.int .i64 r2, .int .i64 r3], .bool r4]) ∧ Below w.heap.size w w' := by
 have hu31 := Try.underlying31
 have hu26 := Try.underlying26
 have HR0_0 := aM_ hr0_0
 have HC0_0 := aM_ hc0_0
 clear hr0_0 hc0_0
 have HB := aM_ (Below.refl w.heap.size w)
 have H : ((spec_l9Drawn.f k l0_0).bind fun t642 => (if t642 = true then ((spec_l2Words.f k l0_0).bind fun t643 => (if 0 < (t643.length : Int) then ((spec_l9Descent.f k l0_0 (rdOf ByteArray.empty t643 0)).bind fun bt648 => (spec_LikeliestDescent.l0 k t643 (rdOf ByteArray.empty t643 0) 1 l0_0 bt648.1 bt648.2)) else (none))) else (some ((⟨#[]⟩ : ByteArray), 0, 0, false)))) = some (r1, r2, r3, r4) := h
 clear h
 replace H := Option.bind_eq_some_iff.mp H
 obtain ⟨t642, A20, H⟩ := H
 try dsimp only at H
 have A2 := aM_ A20
 clear A20
 by_cases c3 : t642 = true
 ·
  subst c3
  rw [if_pos rfl] at H
  replace H := Option.bind_eq_some_iff.mp H
  obtain ⟨t643, A40, H⟩ := H
  try dsimp only at H
  have A4 := aM_ A40
  clear A40
  by_cases c5 : 0 < (t643.length : Int)
  rotate_left
  ·
   rw [if_neg c5] at H
   exact absurd H (by simp)
  rw [if_pos c5] at H
  have c5b0 := decide_eq_true c5
  have c5b1 : decide (0 < t643.length) = true := decide_eq_true (by omega)
  clear c5
  replace H := Option.bind_eq_some_iff.mp H
  obtain ⟨⟨t648, t649⟩, A60, H⟩ := H
  try dsimp only at H
  have A6 := aM_ A60
  clear A60
  have H' := aM_ H
  clear H
  go_enter Try.func29, Try.ntmps29
  try go_wp2_with (first | ((with_reducible refine gate_dst (N := 1) rfl ?_); refine box_event ?hg (N := 1) ?hd (cs := #[.slice A0_0 l0_0.length c0_0]) (t := 31) ?hr ?_; (case hd => rfl); (case hg => rfl); (case hr => first | (go_simp; done) | (go_simp; rfl)); intro gb640 hg w7 hbox hb; have BK640 := aM_ (hbox); have GW640 := aM_ ((by rw [hg]; exact (below_size HB.out) : w.heap.size ≤ gb640)); have GE640 := GW640; replace HB := aM_ (below_step HB.out hb); clear hb hbox hg) | ((with_reducible refine gate_dst (N := 3) rfl ?_); refine box_event ?hg (N := 3) ?hd (cs := #[.int .i64 0, .int .i64 0]) (t := 26) ?hr ?_; (case hd => rfl); (case hg => rfl); (case hr => first | (go_simp; done) | (go_simp; rfl)); intro gb641 hg w8 hbox hb; have BK641 := aM_ (hbox); have GW641 := aM_ ((by rw [hg]; exact (below_size HB.out) : w.heap.size ≤ gb641)); have GE641 := GW641; replace HB := aM_ (below_step HB.out hb); have NB640_641 := aM_ ((by rw [hg]; exact Nat.ne_of_lt (blk_lt BK640.out) : gb640 ≠ gb641)); have NB641_640 := aM_ NB640_641.out.symm; replace BK640 := aM_ (blk_below BK640.out hb); clear hb hbox hg; have hnb9 := NB640_641.out; have hnc9 := NB641_640.out; have hcz10_0 : w8.cell? ⟨gb640, 0, none⟩ = some (.slice A0_0 l0_0.length c0_0) := (blk_cell BK640.out 0).trans rfl; have hfz10_0 := blk_frozen BK640.out 0) | ((with_reducible refine gate_callee (f := 38) rfl ?_); refine goesL_ (some 11) rfl rfl Try.func38 (by kernel_rfl) rfl #[.agg #[.slice A0_0 l0_0.length c0_0]] rfl (by (try simp only [sD_, sE_, sF_]); first | done | rfl | (simp only [sG_, sH_]; rfl)) ?_; (with_reducible refine (spec_l9Drawn.calls k _ _ l0_0 true _ ?side1 ?side2 A2.out).mono ?_); (case side1 => repeat (first | exact (Kd.C_below HR0_0.out HB.out) | (with_reducible refine Kd.C_alloc ?_ _) | (with_reducible refine Kd.C_drewN ?_ _) | (with_reducible refine Kd.C_drew ?_))); (case side2 => exact HC0_0.out); rintro e w11 ⟨rfl, hb⟩; refine ⟨_, rfl, ?_⟩; replace BK640 := aM_ (blk_below BK640.out hb); replace BK641 := aM_ (blk_below BK641.out hb); replace HB := aM_ (below_step HB.out hb); (try clear hb); (try clear hb2); (try clear hk); (try clear hi); have hcz12_0 : w11.cell? ⟨gb640, 0, none⟩ = some (.slice A0_0 l0_0.length c0_0) := (blk_cell BK640.out 0).trans rfl; have hfz12_0 := blk_frozen BK640.out 0) | ((with_reducible refine gate_callee (f := 39) rfl ?_); refine goesL_ (some 15) rfl rfl Try.func39 (by kernel_rfl) rfl #[.agg #[.slice A0_0 l0_0.length c0_0]] rfl (by (try simp only [sD_, sE_, sF_]); first | done | rfl | (simp only [sG_, sH_]; rfl)) ?_; (with_reducible refine (spec_l2Words.calls k _ _ l0_0 t643 _ ?side1 ?side2 A4.out).mono ?_); (case side1 => repeat (first | exact (Kd.C_below HR0_0.out HB.out) | (with_reducible refine Kd.C_alloc ?_ _) | (with_reducible refine Kd.C_drewN ?_ _) | (with_reducible refine Kd.C_drew ?_))); (case side2 => exact HC0_0.out); rintro e w13 ⟨v644, rfl, ho0, hb⟩; refine ⟨_, rfl, ?_⟩; have HO645 := aM_ (Kd.R_lower ho0 (below_size HB.out)); replace BK640 := aM_ (blk_below BK640.out hb); replace BK641 := aM_ (blk_below BK641.out hb); replace HB := aM_ (below_step HB.out hb); (try clear hb); (try clear hb2); (try clear hk); (try clear hi); (try clear ho0)))
  have n0_ := aM_ (Kd.R_drew HO645.out)
  have n1_ := aM_ (blk_drew BK640.out)
  have n2_ := aM_ (blk_drew BK641.out)
  have n3_ := aM_ (below_drew1 HB.out)
  clear HO645
  clear BK640
  clear BK641
  clear HB
  have HO645 := n0_
  have BK640 := n1_
  have BK641 := n2_
  have HB := n3_
  clear n0_ n1_ n2_ n3_
  obtain ⟨Ao15, co15, eo15⟩ := Kd.R_slice HO645.out
  (first | subst eo15 | (injection eo15 with f1_ f2_ f3_; have f4_ := f1_.symm; have f5_ := f3_.symm; clear f1_ f2_ f3_; subst f4_; subst f5_))
  have p646 : 0 ≤ (0 : Int) := (by omega)
  have q646 : 0 < (t643.length : Int) := of_decide_eq_true (by first | (with_reducible assumption) | assumption)
  obtain ⟨ad646, e646, hx646_0⟩ := Kd.at_string (Kd.R_reads' HO645.out).2.2 0 p646 q646
  cases e646
  have qi646 : (0 < t643.length) = True := eq_true (by omega)
  (try rw [show ((0 : Int)).toNat = 0 from rfl] at hx646_0)
  (try rw [Addr.add_zero'] at hx646_0)
  replace p646 := eq_true p646
  replace q646 := eq_true q646
  have p647 : 0 ≤ (0 : Int) := (by omega)
  have q647 : 0 < (t643.length : Int) := of_decide_eq_true (by first | (with_reducible assumption) | assumption)
  obtain ⟨ad647, e647, hx647_0⟩ := Kd.at_string (Kd.R_reads' HO645.out).2.2 0 p647 q647
  obtain rfl : ad646 = ad647 := (by injection e647)
  have qi647 : (0 < t643.length) = True := eq_true (by omega)
  (try rw [show ((0 : Int)).toNat = 0 from rfl] at hx647_0)
  (try rw [Addr.add_zero'] at hx647_0)
  replace p647 := eq_true p647
  replace q647 := eq_true q647
  refine start_ (n := 11) (S := fun w' => w'.cell? ⟨gb640, 0, none⟩ = some (.slice A0_0 l0_0.length c0_0) ∧ w'.cell? ad646 = some (.string (rdOf ByteArray.empty t643 0)) ∧ w'.cell? ad646 = some (.string (rdOf ByteArray.empty t643 0))) (ds := []) #[fy, fy, fy, fy, fy, fy, fy, fy, fy, fy, fy] (by kernel_rfl) rfl rfl ⟨(blk_cell BK640.out 0).trans rfl, hx646_0, hx647_0⟩ (fun hHeld => ?_); refine with_tabW spec_LikeliestDescent.tab4 spec_LikeliestDescent.bits4 (fun HT_ HW_ => ?_)
  generalize w13.drew = w14 at HO645 BK640 BK641 HB hx646_0 hx647_0 hHeld ⊢
  refine pure_ (i := 0) (N := some 16) (v := ?_) (a' := ?_) #[ty, fy, fy, fy, fy, fy, fy, fy, fy, fy, fy] rfl rfl (any_of HT_.out (by kernel_rfl)) (fun _ _ _ h => h) (Or.inl ⟨by rfl, ?_⟩) ?_ ?_; rotate_left; (intro w'; go_simp; with_reducible rfl); rotate_left; (simp only [Act.put, sA_, sB_, sC_, i64_w, i32_w]; rfl)
  refine pure_ (i := 1) (N := some 17) (v := ?_) (a' := ?_) #[ty, ty, fy, fy, fy, fy, fy, fy, fy, fy, fy] rfl rfl (any_of HT_.out (by kernel_rfl)) (fun _ _ _ h => h) (Or.inl ⟨by rfl, ?_⟩) ?_ ?_; rotate_left; (intro w'; go_simp; with_reducible rfl); rotate_left; (simp only [Act.put, sA_, sB_, sC_, i64_w, i32_w]; rfl)
  refine pure_ (i := 4) (N := some 20) (v := ?_) (a' := ?_) #[ty, ty, fy, fy, ty, fy, fy, fy, fy, fy, fy] rfl rfl (any_of HT_.out (by kernel_rfl)) (fun _ _ _ h => h) (Or.inl ⟨by rfl, ?_⟩) ?_ ?_; rotate_left; (intro w'; go_simp; with_reducible rfl); rotate_left; (simp only [Act.put, sA_, sB_, sC_, i64_w, i32_w]; rfl)
  refine pure_ (i := 5) (N := some 21) (v := ?_) (a' := ?_) #[ty, ty, fy, fy, ty, ty, fy, fy, fy, fy, fy] rfl rfl (any_of HT_.out (by kernel_rfl)) (fun _ _ _ h => h) (Or.inl ⟨by rfl, ?_⟩) ?_ ?_; rotate_left; (intro w'; go_simp; with_reducible rfl); rotate_left; (simp only [Act.put, sA_, sB_, sC_, i64_w, i32_w]; rfl)
  refine take_ (i := 2) (N := some 18) (v := ?_) (a' := ?_) #[ty, ty, ty, fy, ty, ty, fy, fy, fy, fy, fy] rfl rfl (take_ofW HT_.out HW_.out (by kernel_rfl)) (fun _ _ _ h => h) (Or.inl ⟨by rfl, ?_⟩) hHeld ?_ ?_; rotate_left; (rintro w' ⟨s0, s1, s2⟩; go_simp; with_reducible rfl); rotate_left; (simp only [Act.put, sA_, sB_, sC_, i64_w, i32_w]; rfl)
  refine take_ (i := 3) (N := some 19) (v := ?_) (a' := ?_) #[ty, ty, ty, ty, ty, ty, fy, fy, fy, fy, fy] rfl rfl (take_ofW HT_.out HW_.out (by kernel_rfl)) (fun _ _ _ h => h) (Or.inl ⟨by rfl, ?_⟩) hHeld ?_ ?_; rotate_left; (rintro w' ⟨s0, s1, s2⟩; go_simp; with_reducible rfl); rotate_left; (simp only [Act.put, sA_, sB_, sC_, i64_w, i32_w]; rfl)
  refine take_ (i := 6) (N := some 22) (v := ?_) (a' := ?_) #[ty, ty, ty, ty, ty, ty, ty, fy, fy, fy, fy] rfl rfl (take_ofW HT_.out HW_.out (by kernel_rfl)) (fun _ _ _ h => h) (Or.inl ⟨by rfl, ?_⟩) hHeld ?_ ?_; rotate_left; (rintro w' ⟨s0, s1, s2⟩; go_simp; with_reducible rfl); rotate_left; (simp only [Act.put, sA_, sB_, sC_, i64_w, i32_w]; rfl)
  refine join_ (σ := Nat) 2 #[ty, ty, ty, ty, ty, ty, ty, ty, ty, fy, fy] (fun s_ => [(23, .agg #[.int .i64 t648, .int .i64 t649]), (7, .pointer (some ⟨s_, 0, none⟩))]) (fun s_ w' => (w'.cell? ⟨gb640, 0, none⟩ = some (.slice A0_0 l0_0.length c0_0) ∧ w'.cell? ad646 = some (.string (rdOf ByteArray.empty t643 0)) ∧ w'.cell? ad646 = some (.string (rdOf ByteArray.empty t643 0))) ∧ (Kd.R Kd.string 9 w' w.heap.size (fun _ => True) (.slice (some ad646) t643.length co15) t643) ∧ (w'.heap[gb640]? = some (.cells #[.slice A0_0 l0_0.length c0_0] 31 (0, 0))) ∧ (w'.heap[gb641]? = some (.cells #[.int .i64 0, .int .i64 0] 26 (0, 0))) ∧ (w'.heap[s_]? = some (.cells #[.int .i64 0, .int .i64 0] 26 (0, 0))) ∧ (w.heap.size ≤ s_) ∧ (w.heap.size ≤ s_) ∧ (gb640 ≠ s_) ∧ (s_ ≠ gb640) ∧ (gb641 ≠ s_) ∧ (s_ ≠ gb641) ∧ (Below w.heap.size w w')) ?_ ?_
  rotate_left
  ·
   intro hCont
   refine two_ (i := 7) (j := 8) (Ni := some 23) (Nj := some 7) #[ty, ty, ty, ty, ty, ty, ty, ty, fy, fy, fy] #[ty, ty, ty, ty, ty, ty, ty, fy, ty, fy, fy] rfl rfl rfl rfl (two_of HT_.out (by kernel_rfl)) (by decide) (by decide) (fun K hK => ?_) (fun K hK => ?_)
   ·
    skip
    refine goes_ Try.func70 (by kernel_rfl) rfl #[.agg #[.slice A0_0 l0_0.length c0_0], .string (rdOf ByteArray.empty t643 0)] (by rfl) rfl rfl (by (try simp only [sD_, sE_, sF_]); first | done | rfl | (simp only [sG_, sH_]; rfl)) ?_
    with_reducible refine (spec_l9Descent.calls k _ _ l0_0 (rdOf ByteArray.empty t643 0) t648 t649 _ ?side1 ?side2 A6.out).mono ?_
    (case side1 => repeat (first | exact (Kd.C_below HR0_0.out HB.out) | (with_reducible refine Kd.C_alloc ?_ _) | (with_reducible refine Kd.C_drewN ?_ _) | (with_reducible refine Kd.C_drew ?_)))
    (case side2 => exact HC0_0.out)
    rintro e w16 ⟨rfl, hb⟩
    have HS1_ := (hb.cell (World.block_lt_of_cell? _ _ (hHeld.2.1))).trans (hHeld.2.1)
    have HS2_ := (hb.cell (World.block_lt_of_cell? _ _ (hHeld.2.2))).trans (hHeld.2.2)
    refine ⟨_, rfl, ?_⟩
    have n0_ := aM_ (Kd.R_below HO645.out hb)
    have n1_ := aM_ (blk_below BK640.out hb)
    have n2_ := aM_ (blk_below BK641.out hb)
    have n3_ := aM_ (below_step HB.out hb)
    clear HO645
    clear BK640
    clear BK641
    clear HB
    have HO645 := n0_
    have BK640 := n1_
    have BK641 := n2_
    have HB := n3_
    clear n0_ n1_ n2_ n3_
    (try clear hb)
    (try clear hb2)
    (try clear hk)
    (try clear hi)
    refine hK.out _ _ ⟨(blk_cell BK640.out 0).trans rfl, HS1_, HS2_⟩ (fun hHeld => ?_)
    clear hK K
    refine norm_ (a' := ?_) ?_ ?_; rotate_left; (show Act.put _ (some 23) _ = _; simp only [Act.put, sA_, sB_, sC_, i64_w, i32_w]; rfl)
    refine one_ (i := 8) (N := some 7) #[ty, ty, ty, ty, ty, ty, ty, ty, ty, fy, fy] rfl rfl (one_of HT_.out (by kernel_rfl)) (by decide) (fun K hK => ?_)
    refine box_step ?hg (N := 7) ?hd (cs := #[.int .i64 0, .int .i64 0]) (t := 26) ?hr ?_; (case hd => rfl); (case hg => rfl); (case hr => first | (go_simp; done) | (go_simp; rfl))
    intro gb650 hg w17 hbox hb
    have HS1_ := (hb.cell (World.block_lt_of_cell? _ _ (hHeld.2.1))).trans (hHeld.2.1)
    have HS2_ := (hb.cell (World.block_lt_of_cell? _ _ (hHeld.2.2))).trans (hHeld.2.2)
    have n0_ := aM_ (Kd.R_below HO645.out hb)
    have n1_ := aM_ (blk_below BK640.out hb)
    have n2_ := aM_ (blk_below BK641.out hb)
    have n3_ := aM_ (below_step HB.out hb)
    have n4_ := aM_ (hbox)
    have n5_ := aM_ ((by rw [hg]; exact (below_size HB.out) : w.heap.size ≤ gb650))
    have n6_ := aM_ ((by rw [hg]; exact (below_size HB.out) : w.heap.size ≤ gb650))
    have n7_ := aM_ ((by rw [hg]; exact Nat.ne_of_lt (blk_lt BK640.out) : gb640 ≠ gb650))
    have n8_ := aM_ ((by rw [hg]; exact Nat.ne_of_gt (blk_lt BK640.out) : gb650 ≠ gb640))
    have n9_ := aM_ ((by rw [hg]; exact Nat.ne_of_lt (blk_lt BK641.out) : gb641 ≠ gb650))
    have n10_ := aM_ ((by rw [hg]; exact Nat.ne_of_gt (blk_lt BK641.out) : gb650 ≠ gb641))
    clear HO645
    clear BK640
    clear BK641
    clear HB
    have HO645 := n0_
    have BK640 := n1_
    have BK641 := n2_
    have HB := n3_
    have BK650 := n4_
    have GW650 := n5_
    have GE650 := n6_
    have NB640_650 := n7_
    have NB650_640 := n8_
    have NB641_650 := n9_
    have NB650_641 := n10_
    clear n0_ n1_ n2_ n3_ n4_ n5_ n6_ n7_ n8_ n9_ n10_
    clear hb hbox hg
    refine hK.out _ _ ⟨(blk_cell BK640.out 0).trans rfl, HS1_, HS2_⟩ (fun hHeld => ?_)
    clear hK K
    refine norm_ (a' := ?_) ?_ ?_; rotate_left; (show Act.put _ (some 7) _ = _; simp only [Act.put, sA_, sB_, sC_, i64_w, i32_w]; rfl)
    exact norm_ (by simp only [putAll, Act.put, sA_, sB_, sC_]) (hCont (gb650) _ ⟨hHeld, HO645.out, BK640.out, BK641.out, BK650.out, GW650.out, GE650.out, NB640_650.out, NB650_640.out, NB641_650.out, NB650_641.out, HB.out⟩)
   ·
    skip
    refine box_step ?hg (N := 7) ?hd (cs := #[.int .i64 0, .int .i64 0]) (t := 26) ?hr ?_; (case hd => rfl); (case hg => rfl); (case hr => first | (go_simp; done) | (go_simp; rfl))
    intro gb650 hg w16 hbox hb
    have HS1_ := (hb.cell (World.block_lt_of_cell? _ _ (hHeld.2.1))).trans (hHeld.2.1)
    have HS2_ := (hb.cell (World.block_lt_of_cell? _ _ (hHeld.2.2))).trans (hHeld.2.2)
    have n0_ := aM_ (Kd.R_below HO645.out hb)
    have n1_ := aM_ (blk_below BK640.out hb)
    have n2_ := aM_ (blk_below BK641.out hb)
    have n3_ := aM_ (below_step HB.out hb)
    have n4_ := aM_ (hbox)
    have n5_ := aM_ ((by rw [hg]; exact (below_size HB.out) : w.heap.size ≤ gb650))
    have n6_ := aM_ ((by rw [hg]; exact (below_size HB.out) : w.heap.size ≤ gb650))
    have n7_ := aM_ ((by rw [hg]; exact Nat.ne_of_lt (blk_lt BK640.out) : gb640 ≠ gb650))
    have n8_ := aM_ ((by rw [hg]; exact Nat.ne_of_gt (blk_lt BK640.out) : gb650 ≠ gb640))
    have n9_ := aM_ ((by rw [hg]; exact Nat.ne_of_lt (blk_lt BK641.out) : gb641 ≠ gb650))
    have n10_ := aM_ ((by rw [hg]; exact Nat.ne_of_gt (blk_lt BK641.out) : gb650 ≠ gb641))
    clear HO645
    clear BK640
    clear BK641
    clear HB
    have HO645 := n0_
    have BK640 := n1_
    have BK641 := n2_
    have HB := n3_
    have BK650 := n4_
    have GW650 := n5_
    have GE650 := n6_
    have NB640_650 := n7_
    have NB650_640 := n8_
    have NB641_650 := n9_
    have NB650_641 := n10_
    clear n0_ n1_ n2_ n3_ n4_ n5_ n6_ n7_ n8_ n9_ n10_
    clear hb hbox hg
    refine hK.out _ _ ⟨(blk_cell BK640.out 0).trans rfl, HS1_, HS2_⟩ (fun hHeld => ?_)
    clear hK K
    refine norm_ (a' := ?_) ?_ ?_; rotate_left; (show Act.put _ (some 7) _ = _; simp only [Act.put, sA_, sB_, sC_, i64_w, i32_w]; rfl)
    refine one_ (i := 7) (N := some 23) #[ty, ty, ty, ty, ty, ty, ty, ty, ty, fy, fy] rfl rfl (one_of HT_.out (by kernel_rfl)) (by decide) (fun K hK => ?_)
    refine goes_ Try.func70 (by kernel_rfl) rfl #[.agg #[.slice A0_0 l0_0.length c0_0], .string (rdOf ByteArray.empty t643 0)] (by rfl) rfl rfl (by (try simp only [sD_, sE_, sF_]); first | done | rfl | (simp only [sG_, sH_]; rfl)) ?_
    with_reducible refine (spec_l9Descent.calls k _ _ l0_0 (rdOf ByteArray.empty t643 0) t648 t649 _ ?side1 ?side2 A6.out).mono ?_
    (case side1 => repeat (first | exact (Kd.C_below HR0_0.out HB.out) | (with_reducible refine Kd.C_alloc ?_ _) | (with_reducible refine Kd.C_drewN ?_ _) | (with_reducible refine Kd.C_drew ?_)))
    (case side2 => exact HC0_0.out)
    rintro e w17 ⟨rfl, hb⟩
    have HS1_ := (hb.cell (World.block_lt_of_cell? _ _ (hHeld.2.1))).trans (hHeld.2.1)
    have HS2_ := (hb.cell (World.block_lt_of_cell? _ _ (hHeld.2.2))).trans (hHeld.2.2)
    refine ⟨_, rfl, ?_⟩
    have n0_ := aM_ (Kd.R_below HO645.out hb)
    have n1_ := aM_ (blk_below BK640.out hb)
    have n2_ := aM_ (blk_below BK641.out hb)
    have n3_ := aM_ (blk_below BK650.out hb)
    have n4_ := aM_ (below_step HB.out hb)
    clear HO645
    clear BK640
    clear BK641
    clear BK650
    clear HB
    have HO645 := n0_
    have BK640 := n1_
    have BK641 := n2_
    have BK650 := n3_
    have HB := n4_
    clear n0_ n1_ n2_ n3_ n4_
    (try clear hb)
    (try clear hb2)
    (try clear hk)
    (try clear hi)
    refine hK.out _ _ ⟨(blk_cell BK640.out 0).trans rfl, HS1_, HS2_⟩ (fun hHeld => ?_)
    clear hK K
    refine norm_ (a' := ?_) ?_ ?_; rotate_left; (show Act.put _ (some 23) _ = _; simp only [Act.put, sA_, sB_, sC_, i64_w, i32_w]; rfl)
    exact norm_ (by simp only [putAll, Act.put, sA_, sB_, sC_]) (hCont (gb650) _ ⟨hHeld, HO645.out, BK640.out, BK641.out, BK650.out, GW650.out, GE650.out, NB640_650.out, NB650_640.out, NB641_650.out, NB650_641.out, HB.out⟩)
  rintro gb650 w18 ⟨hS_, h0_, h1_, h2_, h3_, h4_, h5_, h6_, h7_, h8_, h9_, h10_⟩
  have n0_ : Aside0 (Kd.R Kd.string 9 w18 w.heap.size (fun _ => True) (.slice (some ad646) t643.length co15) t643) := ⟨h0_⟩
  have n1_ : Aside0 (w18.heap[gb640]? = some (.cells #[.slice A0_0 l0_0.length c0_0] 31 (0, 0))) := ⟨h1_⟩
  have n2_ : Aside0 (w18.heap[gb641]? = some (.cells #[.int .i64 0, .int .i64 0] 26 (0, 0))) := ⟨h2_⟩
  have n3_ : Aside0 (w18.heap[gb650]? = some (.cells #[.int .i64 0, .int .i64 0] 26 (0, 0))) := ⟨h3_⟩
  have n4_ : Aside0 (w.heap.size ≤ gb650) := ⟨h4_⟩
  have n5_ : Aside0 (w.heap.size ≤ gb650) := ⟨h5_⟩
  have n6_ : Aside0 (gb640 ≠ gb650) := ⟨h6_⟩
  have n7_ : Aside0 (gb650 ≠ gb640) := ⟨h7_⟩
  have n8_ : Aside0 (gb641 ≠ gb650) := ⟨h8_⟩
  have n9_ : Aside0 (gb650 ≠ gb641) := ⟨h9_⟩
  have n10_ : Aside0 (Below w.heap.size w w18) := ⟨h10_⟩
  clear HO645
  clear BK640
  clear BK641
  clear HB
  clear h0_ h1_ h2_ h3_ h4_ h5_ h6_ h7_ h8_ h9_ h10_
  have HO645 := n0_
  have BK640 := n1_
  have BK641 := n2_
  have BK650 := n3_
  have GW650 := n4_
  have GE650 := n5_
  have NB640_650 := n6_
  have NB650_640 := n7_
  have NB641_650 := n8_
  have NB650_641 := n9_
  have HB := n10_
  clear n0_ n1_ n2_ n3_ n4_ n5_ n6_ n7_ n8_ n9_ n10_
  have hHeld : w18.cell? ⟨gb640, 0, none⟩ = some (.slice A0_0 l0_0.length c0_0) ∧ w18.cell? ad646 = some (.string (rdOf ByteArray.empty t643 0)) ∧ w18.cell? ad646 = some (.string (rdOf ByteArray.empty t643 0)) := hS_
  refine norm_ (a' := ?_) ?_ ?_
  rotate_left
  ·
   simp only [putAll, Act.put, sA_, sB_, sC_]
   rfl
  refine pure_ (i := 9) (N := some 6) (v := ?_) (a' := ?_) #[ty, ty, ty, ty, ty, ty, ty, ty, ty, ty, fy] rfl rfl (any_of HT_.out (by kernel_rfl)) (fun _ _ _ h => h) (Or.inl ⟨by rfl, ?_⟩) ?_ ?_; rotate_left; (intro w'; go_simp; with_reducible rfl); rotate_left; (simp only [Act.put, sA_, sB_, sC_, i64_w, i32_w]; rfl)
  refine one_ (i := 10) (N := none) #[ty, ty, ty, ty, ty, ty, ty, ty, ty, ty, ty] rfl rfl (one_of HT_.out (by kernel_rfl)) (by decide) (fun K hK => ?_)
  have hs19 : w18.cell? ⟨gb650, 0, none⟩ = some (.int .i64 0) := (blk_cell BK650.out 0).trans rfl
  have hfs19 := blk_frozen BK650.out 0
  have hns19_0 := NB640_650.out
  have hns19_1 := NB641_650.out
  have hms19_0 := NB650_640.out
  have hms19_1 := NB650_641.out
  have hs20 : w18.cell? ⟨gb650, 1, none⟩ = some (.int .i64 0) := (blk_cell BK650.out 1).trans rfl
  have hfs20 := blk_frozen BK650.out 1
  have hns20_0 := NB640_650.out
  have hns20_1 := NB641_650.out
  have hms20_0 := NB650_640.out
  have hms20_1 := NB650_641.out
  refine skip_ (w1 := ?_) (by rfl) rfl ?_ ?_
  rotate_left
  ·
   go_simp
   rfl
  refine hK.out _ _ ⟨((cell_far (p := ⟨gb650, _, none⟩) NB640_650.out _).trans (((cell_far (p := ⟨gb650, _, none⟩) NB640_650.out _).trans (hHeld.1)))), ((cell_far (p := ⟨gb650, _, none⟩) (by first | exact Kd.own_blk (Kd.R_ne HO645.out BK650.out (by decide)) | (rw [add_block]; exact Kd.own_blk (Kd.R_ne HO645.out BK650.out (by decide))) | (show (Addr.add _ _).block ≠ _; rw [add_block]; exact Kd.own_blk (Kd.R_ne HO645.out BK650.out (by decide))) | (dsimp only; exact Kd.own_blk (Kd.R_ne HO645.out BK650.out (by decide)))) _).trans (((cell_far (p := ⟨gb650, _, none⟩) (by first | exact Kd.own_blk (Kd.R_ne HO645.out BK650.out (by decide)) | (rw [add_block]; exact Kd.own_blk (Kd.R_ne HO645.out BK650.out (by decide))) | (show (Addr.add _ _).block ≠ _; rw [add_block]; exact Kd.own_blk (Kd.R_ne HO645.out BK650.out (by decide))) | (dsimp only; exact Kd.own_blk (Kd.R_ne HO645.out BK650.out (by decide)))) _).trans (hHeld.2.1)))), ((cell_far (p := ⟨gb650, _, none⟩) (by first | exact Kd.own_blk (Kd.R_ne HO645.out BK650.out (by decide)) | (rw [add_block]; exact Kd.own_blk (Kd.R_ne HO645.out BK650.out (by decide))) | (show (Addr.add _ _).block ≠ _; rw [add_block]; exact Kd.own_blk (Kd.R_ne HO645.out BK650.out (by decide))) | (dsimp only; exact Kd.own_blk (Kd.R_ne HO645.out BK650.out (by decide)))) _).trans (((cell_far (p := ⟨gb650, _, none⟩) (by first | exact Kd.own_blk (Kd.R_ne HO645.out BK650.out (by decide)) | (rw [add_block]; exact Kd.own_blk (Kd.R_ne HO645.out BK650.out (by decide))) | (show (Addr.add _ _).block ≠ _; rw [add_block]; exact Kd.own_blk (Kd.R_ne HO645.out BK650.out (by decide))) | (dsimp only; exact Kd.own_blk (Kd.R_ne HO645.out BK650.out (by decide)))) _).trans (hHeld.2.2))))⟩ (fun hHeld => ?_)
  clear hK K
  refine done_ (done_of HT_.out (by kernel_rfl)) ?_
  try go_wp2
  go_loopg [6, 8] k (fun kq v6 v8 w' => ∃ (x6_1 : ByteArray) (x8_1 : Int) (x651000_1 : Int) (x651001_1 : Int), v6 = .string x6_1 ∧ v8 = .int .i64 x8_1 ∧ Aside0 (spec_LikeliestDescent.l0 kq t643 x6_1 x8_1 l0_0 x651000_1 x651001_1 = some (r1, r2, r3, r4)) ∧ Aside0 (kq ≤ k) ∧ Aside0 (Kd.R Kd.string 9 w' w.heap.size (fun _ => True) (.slice (some ad646) t643.length co15) t643) ∧ Aside0 (w'.heap[gb640]? = some (.cells #[(.slice A0_0 l0_0.length c0_0)] 31 (0, 0))) ∧ Aside0 (w'.heap[gb641]? = some (.cells #[.int .i64 0, .int .i64 0] 26 (0, 0))) ∧ Aside0 (w'.heap[gb650]? = some (.cells #[.int .i64 x651000_1, .int .i64 x651001_1] 26 (0, 0))) ∧ Aside0 (Below w.heap.size w w'))
  case atStart => exact ⟨(rdOf ByteArray.empty t643 0), (1), (t648), (t649), (by first | rfl | (simp; done) | (simp [*]; done)), (by first | rfl | (simp; done) | (simp [*]; done)), H', ⟨Nat.le_refl _⟩, ⟨by exact Kd.R_mono (Kd.R_far (p := ⟨gb650, 1, none⟩) (Kd.R_far (p := ⟨gb650, 0, none⟩) (Kd.R_types HO645.out BK650.out (by decide)) (fun _ hk => hk.2) (.int .i64 t648)) (fun _ hk => hk.2) (.int .i64 t649)) (fun _ hk => trivial)⟩, ⟨by refine blk_far ?_ NB640_650.out _; refine blk_far ?_ NB640_650.out _; exact BK640.out⟩, ⟨by refine blk_far ?_ NB641_650.out _; refine blk_far ?_ NB641_650.out _; exact BK641.out⟩, ⟨by refine blk_put (cs := #[.int .i64 t648, .int .i64 0]) ?_ 1 _ rfl; refine blk_put (cs := #[.int .i64 0, .int .i64 0]) ?_ 0 _ rfl; exact BK650.out⟩, ⟨by repeat (first | (with_reducible first | exact HB.out | apply below_alloc | apply pw_below_drewN | apply below_drew1 | refine below_set ?_ GE640.out | refine below_set ?_ GE641.out | refine below_set ?_ GE650.out) | exact HB.out)⟩⟩
  case round =>
   clear H'
   try clear c2
   try clear p2
   try clear c3
   try clear c5
   try clear c5b0
   try clear c5b1
   try clear p6
   try clear q6
   try clear hx6
   try clear qi6
   try clear c7
   try clear c9
   try clear hcz10_0
   try clear hcz12_0
   try clear hfz10_0
   try clear hfz12_0
   try clear hx646_0
   try clear hx647_0
   try clear p646
   try clear p647
   try clear q646
   try clear q647
   obtain ⟨x6_1, x8_1, x651000_1, x651001_1, rfl, rfl, HA, HK1, HO_5, BK640, BK641, BK650, HB⟩ := hrel
   cases gk with
   | zero => exact absurd HA.out (by simp [spec_LikeliestDescent.l0])
   | succ k1 =>
    have H := HA.out
    clear HA
    simp only [spec_LikeliestDescent.l0] at H
    by_cases c21 : x8_1 < (t643.length : Int)
    ·
     rw [if_pos c21] at H
     have c21b0 := decide_eq_true c21
     clear c21
     by_cases c22 : 0 ≤ x8_1
     ·
      rw [if_pos c22] at H
      have c22b0 := decide_eq_true c22
      clear c22
      replace H := Option.bind_eq_some_iff.mp H
      obtain ⟨⟨t652, t653⟩, A230, H⟩ := H
      try dsimp only at H
      have A23 := aM_ A230
      clear A230
      by_cases c24 : t653 < x651001_1
      ·
       rw [if_pos c24] at H
       have c24b0 := decide_eq_true c24
       clear c24
       have H' := aM_ H
       clear H
       try go_wp2
       have n0_ := aM_ (Kd.R_drew HO_5.out)
       have n1_ := aM_ (blk_drew BK640.out)
       have n2_ := aM_ (blk_drew BK641.out)
       have n3_ := aM_ (blk_drew BK650.out)
       have n4_ := aM_ (below_drew1 HB.out)
       clear HO_5
       clear BK640
       clear BK641
       clear BK650
       clear HB
       have HO_5 := n0_
       have BK640 := n1_
       have BK641 := n2_
       have BK650 := n3_
       have HB := n4_
       clear n0_ n1_ n2_ n3_ n4_
       have p651 : 0 ≤ (x8_1 : Int) := of_decide_eq_true (by first | (with_reducible assumption) | assumption)
       have q651 : x8_1 < (t643.length : Int) := of_decide_eq_true (by first | (with_reducible assumption) | assumption)
       obtain ⟨ad651, e651, hx651_0⟩ := Kd.at_string (Kd.R_reads' HO_5.out).2.2 x8_1 p651 q651
       obtain rfl : ad646 = ad651 := (by injection e651)
       replace p651 := eq_true p651
       replace q651 := eq_true q651
       refine start_ (n := 8) (S := fun w' => w'.cell? ⟨gb640, 0, none⟩ = some (.slice A0_0 l0_0.length c0_0) ∧ w'.cell? (ad646.add (x8_1).toNat) = some (.string (rdOf ByteArray.empty t643 x8_1))) (ds := []) #[fy, fy, fy, fy, fy, fy, fy, fy] (by kernel_rfl) rfl rfl ⟨(blk_cell BK640.out 0).trans rfl, hx651_0⟩ (fun hHeld => ?_); refine with_tabW spec_LikeliestDescent.tab8 spec_LikeliestDescent.bits8 (fun HT_ HW_ => ?_)
       generalize wr.drew = w25 at HO_5 BK640 BK641 BK650 HB hx651_0 hHeld ⊢
       refine pure_ (i := 1) (N := some 31) (v := ?_) (a' := ?_) #[fy, ty, fy, fy, fy, fy, fy, fy] rfl rfl (any_of HT_.out (by kernel_rfl)) (fun _ _ _ h => h) (Or.inl ⟨by rfl, ?_⟩) ?_ ?_; rotate_left; (intro w'; go_simp; with_reducible rfl); rotate_left; (simp only [Act.put, sA_, sB_, sC_, i64_w, i32_w]; rfl)
       refine pure_ (i := 2) (N := some 32) (v := ?_) (a' := ?_) #[fy, ty, ty, fy, fy, fy, fy, fy] rfl rfl (any_of HT_.out (by kernel_rfl)) (fun _ _ _ h => h) (Or.inl ⟨by rfl, ?_⟩) ?_ ?_; rotate_left; (intro w'; go_simp; with_reducible rfl); rotate_left; (simp only [Act.put, sA_, sB_, sC_, i64_w, i32_w]; rfl)
       refine pure_ (i := 3) (N := some 33) (v := ?_) (a' := ?_) #[fy, ty, ty, ty, fy, fy, fy, fy] rfl rfl (any_of HT_.out (by kernel_rfl)) (fun _ _ _ h => h) (Or.inl ⟨by rfl, ?_⟩) ?_ ?_; rotate_left; (intro w'; go_simp; with_reducible rfl); rotate_left; (simp only [Act.put, sA_, sB_, sC_, i64_w, i32_w]; rfl)
       refine take_ (i := 0) (N := some 30) (v := ?_) (a' := ?_) #[ty, ty, ty, ty, fy, fy, fy, fy] rfl rfl (take_ofW HT_.out HW_.out (by kernel_rfl)) (fun _ _ _ h => h) (Or.inl ⟨by rfl, ?_⟩) hHeld ?_ ?_; rotate_left; (rintro w' ⟨s0, s1⟩; go_simp; with_reducible rfl); rotate_left; (simp only [Act.put, sA_, sB_, sC_, i64_w, i32_w]; rfl)
       refine take_ (i := 4) (N := some 34) (v := ?_) (a' := ?_) #[ty, ty, ty, ty, ty, fy, fy, fy] rfl rfl (take_ofW HT_.out HW_.out (by kernel_rfl)) (fun _ _ _ h => h) (Or.inl ⟨by rfl, ?_⟩) hHeld ?_ ?_; rotate_left; (rintro w' ⟨s0, s1⟩; go_simp; with_reducible rfl); rotate_left; (simp only [Act.put, sA_, sB_, sC_, i64_w, i32_w]; rfl)
       refine join_ (σ := Nat) 1 #[ty, ty, ty, ty, ty, ty, ty, fy] (fun s_ => [(35, .agg #[.int .i64 t652, .int .i64 t653]), (9, .pointer (some ⟨s_, 0, none⟩))]) (fun s_ w' => (w'.cell? ⟨gb640, 0, none⟩ = some (.slice A0_0 l0_0.length c0_0) ∧ w'.cell? (ad646.add (x8_1).toNat) = some (.string (rdOf ByteArray.empty t643 x8_1))) ∧ (Kd.R Kd.string 9 w' w.heap.size (fun _ => True) (.slice (some ad646) t643.length co15) t643) ∧ (w'.heap[gb640]? = some (.cells #[.slice A0_0 l0_0.length c0_0] 31 (0, 0))) ∧ (w'.heap[gb641]? = some (.cells #[.int .i64 0, .int .i64 0] 26 (0, 0))) ∧ (w'.heap[gb650]? = some (.cells #[.int .i64 x651000_1, .int .i64 x651001_1] 26 (0, 0))) ∧ (w'.heap[s_]? = some (.cells #[.int .i64 0, .int .i64 0] 26 (0, 0))) ∧ (w.heap.size ≤ s_) ∧ (w.heap.size ≤ s_) ∧ (gb640 ≠ s_) ∧ (s_ ≠ gb640) ∧ (gb641 ≠ s_) ∧ (s_ ≠ gb641) ∧ (gb650 ≠ s_) ∧ (s_ ≠ gb650) ∧ (Below w.heap.size w w')) ?_ ?_
       rotate_left
       ·
        intro hCont
        refine two_ (i := 5) (j := 6) (Ni := some 35) (Nj := some 9) #[ty, ty, ty, ty, ty, ty, fy, fy] #[ty, ty, ty, ty, ty, fy, ty, fy] rfl rfl rfl rfl (two_of HT_.out (by kernel_rfl)) (by decide) (by decide) (fun K hK => ?_) (fun K hK => ?_)
        ·
         skip
         refine goes_ Try.func70 (by kernel_rfl) rfl #[.agg #[.slice A0_0 l0_0.length c0_0], .string (rdOf ByteArray.empty t643 x8_1)] (by rfl) rfl rfl (by (try simp only [sD_, sE_, sF_]); first | done | rfl | (simp only [sG_, sH_]; rfl)) ?_
         with_reducible refine (spec_l9Descent.calls k1 _ _ l0_0 (rdOf ByteArray.empty t643 x8_1) t652 t653 _ ?side1 ?side2 A23.out).mono ?_
         (case side1 => repeat (first | exact (Kd.C_below HR0_0.out HB.out) | (with_reducible refine Kd.C_alloc ?_ _) | (with_reducible refine Kd.C_drewN ?_ _) | (with_reducible refine Kd.C_drew ?_)))
         (case side2 => exact HC0_0.out)
         rintro e w26 ⟨rfl, hb⟩
         have HS1_ := (hb.cell (World.block_lt_of_cell? _ _ (hHeld.2))).trans (hHeld.2)
         refine ⟨_, rfl, ?_⟩
         have n0_ := aM_ (Kd.R_below HO_5.out hb)
         have n1_ := aM_ (blk_below BK640.out hb)
         have n2_ := aM_ (blk_below BK641.out hb)
         have n3_ := aM_ (blk_below BK650.out hb)
         have n4_ := aM_ (below_step HB.out hb)
         clear HO_5
         clear BK640
         clear BK641
         clear BK650
         clear HB
         have HO_5 := n0_
         have BK640 := n1_
         have BK641 := n2_
         have BK650 := n3_
         have HB := n4_
         clear n0_ n1_ n2_ n3_ n4_
         (try clear hb)
         (try clear hb2)
         (try clear hk)
         (try clear hi)
         refine hK.out _ _ ⟨(blk_cell BK640.out 0).trans rfl, HS1_⟩ (fun hHeld => ?_)
         clear hK K
         refine norm_ (a' := ?_) ?_ ?_; rotate_left; (show Act.put _ (some 35) _ = _; simp only [Act.put, sA_, sB_, sC_, i64_w, i32_w]; rfl)
         refine one_ (i := 6) (N := some 9) #[ty, ty, ty, ty, ty, ty, ty, fy] rfl rfl (one_of HT_.out (by kernel_rfl)) (by decide) (fun K hK => ?_)
         refine box_step ?hg (N := 9) ?hd (cs := #[.int .i64 0, .int .i64 0]) (t := 26) ?hr ?_; (case hd => rfl); (case hg => rfl); (case hr => first | (go_simp; done) | (go_simp; rfl))
         intro gb654 hg w27 hbox hb
         have HS1_ := (hb.cell (World.block_lt_of_cell? _ _ (hHeld.2))).trans (hHeld.2)
         have n0_ := aM_ (Kd.R_below HO_5.out hb)
         have n1_ := aM_ (blk_below BK640.out hb)
         have n2_ := aM_ (blk_below BK641.out hb)
         have n3_ := aM_ (blk_below BK650.out hb)
         have n4_ := aM_ (below_step HB.out hb)
         have n5_ := aM_ (hbox)
         have n6_ := aM_ ((by rw [hg]; exact (below_size HB.out) : w.heap.size ≤ gb654))
         have n7_ := aM_ ((by rw [hg]; exact (below_size HB.out) : w.heap.size ≤ gb654))
         have n8_ := aM_ ((by rw [hg]; exact Nat.ne_of_lt (blk_lt BK640.out) : gb640 ≠ gb654))
         have n9_ := aM_ ((by rw [hg]; exact Nat.ne_of_gt (blk_lt BK640.out) : gb654 ≠ gb640))
         have n10_ := aM_ ((by rw [hg]; exact Nat.ne_of_lt (blk_lt BK641.out) : gb641 ≠ gb654))
         have n11_ := aM_ ((by rw [hg]; exact Nat.ne_of_gt (blk_lt BK641.out) : gb654 ≠ gb641))
         have n12_ := aM_ ((by rw [hg]; exact Nat.ne_of_lt (blk_lt BK650.out) : gb650 ≠ gb654))
         have n13_ := aM_ ((by rw [hg]; exact Nat.ne_of_gt (blk_lt BK650.out) : gb654 ≠ gb650))
         clear HO_5
         clear BK640
         clear BK641
         clear BK650
         clear HB
         have HO_5 := n0_
         have BK640 := n1_
         have BK641 := n2_
         have BK650 := n3_
         have HB := n4_
         have BK654 := n5_
         have GW654 := n6_
         have GE654 := n7_
         have NB640_654 := n8_
         have NB654_640 := n9_
         have NB641_654 := n10_
         have NB654_641 := n11_
         have NB650_654 := n12_
         have NB654_650 := n13_
         clear n0_ n1_ n2_ n3_ n4_ n5_ n6_ n7_ n8_ n9_ n10_ n11_ n12_ n13_
         clear hb hbox hg
         refine hK.out _ _ ⟨(blk_cell BK640.out 0).trans rfl, HS1_⟩ (fun hHeld => ?_)
         clear hK K
         refine norm_ (a' := ?_) ?_ ?_; rotate_left; (show Act.put _ (some 9) _ = _; simp only [Act.put, sA_, sB_, sC_, i64_w, i32_w]; rfl)
         exact norm_ (by simp only [putAll, Act.put, sA_, sB_, sC_]) (hCont (gb654) _ ⟨hHeld, HO_5.out, BK640.out, BK641.out, BK650.out, BK654.out, GW654.out, GE654.out, NB640_654.out, NB654_640.out, NB641_654.out, NB654_641.out, NB650_654.out, NB654_650.out, HB.out⟩)
        ·
         skip
         refine box_step ?hg (N := 9) ?hd (cs := #[.int .i64 0, .int .i64 0]) (t := 26) ?hr ?_; (case hd => rfl); (case hg => rfl); (case hr => first | (go_simp; done) | (go_simp; rfl))
         intro gb654 hg w26 hbox hb
         have HS1_ := (hb.cell (World.block_lt_of_cell? _ _ (hHeld.2))).trans (hHeld.2)
         have n0_ := aM_ (Kd.R_below HO_5.out hb)
         have n1_ := aM_ (blk_below BK640.out hb)
         have n2_ := aM_ (blk_below BK641.out hb)
         have n3_ := aM_ (blk_below BK650.out hb)
         have n4_ := aM_ (below_step HB.out hb)
         have n5_ := aM_ (hbox)
         have n6_ := aM_ ((by rw [hg]; exact (below_size HB.out) : w.heap.size ≤ gb654))
         have n7_ := aM_ ((by rw [hg]; exact (below_size HB.out) : w.heap.size ≤ gb654))
         have n8_ := aM_ ((by rw [hg]; exact Nat.ne_of_lt (blk_lt BK640.out) : gb640 ≠ gb654))
         have n9_ := aM_ ((by rw [hg]; exact Nat.ne_of_gt (blk_lt BK640.out) : gb654 ≠ gb640))
         have n10_ := aM_ ((by rw [hg]; exact Nat.ne_of_lt (blk_lt BK641.out) : gb641 ≠ gb654))
         have n11_ := aM_ ((by rw [hg]; exact Nat.ne_of_gt (blk_lt BK641.out) : gb654 ≠ gb641))
         have n12_ := aM_ ((by rw [hg]; exact Nat.ne_of_lt (blk_lt BK650.out) : gb650 ≠ gb654))
         have n13_ := aM_ ((by rw [hg]; exact Nat.ne_of_gt (blk_lt BK650.out) : gb654 ≠ gb650))
         clear HO_5
         clear BK640
         clear BK641
         clear BK650
         clear HB
         have HO_5 := n0_
         have BK640 := n1_
         have BK641 := n2_
         have BK650 := n3_
         have HB := n4_
         have BK654 := n5_
         have GW654 := n6_
         have GE654 := n7_
         have NB640_654 := n8_
         have NB654_640 := n9_
         have NB641_654 := n10_
         have NB654_641 := n11_
         have NB650_654 := n12_
         have NB654_650 := n13_
         clear n0_ n1_ n2_ n3_ n4_ n5_ n6_ n7_ n8_ n9_ n10_ n11_ n12_ n13_
         clear hb hbox hg
         refine hK.out _ _ ⟨(blk_cell BK640.out 0).trans rfl, HS1_⟩ (fun hHeld => ?_)
         clear hK K
         refine norm_ (a' := ?_) ?_ ?_; rotate_left; (show Act.put _ (some 9) _ = _; simp only [Act.put, sA_, sB_, sC_, i64_w, i32_w]; rfl)
         refine one_ (i := 5) (N := some 35) #[ty, ty, ty, ty, ty, ty, ty, fy] rfl rfl (one_of HT_.out (by kernel_rfl)) (by decide) (fun K hK => ?_)
         refine goes_ Try.func70 (by kernel_rfl) rfl #[.agg #[.slice A0_0 l0_0.length c0_0], .string (rdOf ByteArray.empty t643 x8_1)] (by rfl) rfl rfl (by (try simp only [sD_, sE_, sF_]); first | done | rfl | (simp only [sG_, sH_]; rfl)) ?_
         with_reducible refine (spec_l9Descent.calls k1 _ _ l0_0 (rdOf ByteArray.empty t643 x8_1) t652 t653 _ ?side1 ?side2 A23.out).mono ?_
         (case side1 => repeat (first | exact (Kd.C_below HR0_0.out HB.out) | (with_reducible refine Kd.C_alloc ?_ _) | (with_reducible refine Kd.C_drewN ?_ _) | (with_reducible refine Kd.C_drew ?_)))
         (case side2 => exact HC0_0.out)
         rintro e w27 ⟨rfl, hb⟩
         have HS1_ := (hb.cell (World.block_lt_of_cell? _ _ (hHeld.2))).trans (hHeld.2)
         refine ⟨_, rfl, ?_⟩
         have n0_ := aM_ (Kd.R_below HO_5.out hb)
         have n1_ := aM_ (blk_below BK640.out hb)
         have n2_ := aM_ (blk_below BK641.out hb)
         have n3_ := aM_ (blk_below BK650.out hb)
         have n4_ := aM_ (blk_below BK654.out hb)
         have n5_ := aM_ (below_step HB.out hb)
         clear HO_5
         clear BK640
         clear BK641
         clear BK650
         clear BK654
         clear HB
         have HO_5 := n0_
         have BK640 := n1_
         have BK641 := n2_
         have BK650 := n3_
         have BK654 := n4_
         have HB := n5_
         clear n0_ n1_ n2_ n3_ n4_ n5_
         (try clear hb)
         (try clear hb2)
         (try clear hk)
         (try clear hi)
         refine hK.out _ _ ⟨(blk_cell BK640.out 0).trans rfl, HS1_⟩ (fun hHeld => ?_)
         clear hK K
         refine norm_ (a' := ?_) ?_ ?_; rotate_left; (show Act.put _ (some 35) _ = _; simp only [Act.put, sA_, sB_, sC_, i64_w, i32_w]; rfl)
         exact norm_ (by simp only [putAll, Act.put, sA_, sB_, sC_]) (hCont (gb654) _ ⟨hHeld, HO_5.out, BK640.out, BK641.out, BK650.out, BK654.out, GW654.out, GE654.out, NB640_654.out, NB654_640.out, NB641_654.out, NB654_641.out, NB650_654.out, NB654_650.out, HB.out⟩)
       rintro gb654 w28 ⟨hS_, h0_, h1_, h2_, h3_, h4_, h5_, h6_, h7_, h8_, h9_, h10_, h11_, h12_, h13_⟩
       have n0_ : Aside0 (Kd.R Kd.string 9 w28 w.heap.size (fun _ => True) (.slice (some ad646) t643.length co15) t643) := ⟨h0_⟩
       have n1_ : Aside0 (w28.heap[gb640]? = some (.cells #[.slice A0_0 l0_0.length c0_0] 31 (0, 0))) := ⟨h1_⟩
       have n2_ : Aside0 (w28.heap[gb641]? = some (.cells #[.int .i64 0, .int .i64 0] 26 (0, 0))) := ⟨h2_⟩
       have n3_ : Aside0 (w28.heap[gb650]? = some (.cells #[.int .i64 x651000_1, .int .i64 x651001_1] 26 (0, 0))) := ⟨h3_⟩
       have n4_ : Aside0 (w28.heap[gb654]? = some (.cells #[.int .i64 0, .int .i64 0] 26 (0, 0))) := ⟨h4_⟩
       have n5_ : Aside0 (w.heap.size ≤ gb654) := ⟨h5_⟩
       have n6_ : Aside0 (w.heap.size ≤ gb654) := ⟨h6_⟩
       have n7_ : Aside0 (gb640 ≠ gb654) := ⟨h7_⟩
       have n8_ : Aside0 (gb654 ≠ gb640) := ⟨h8_⟩
       have n9_ : Aside0 (gb641 ≠ gb654) := ⟨h9_⟩
       have n10_ : Aside0 (gb654 ≠ gb641) := ⟨h10_⟩
       have n11_ : Aside0 (gb650 ≠ gb654) := ⟨h11_⟩
       have n12_ : Aside0 (gb654 ≠ gb650) := ⟨h12_⟩
       have n13_ : Aside0 (Below w.heap.size w w28) := ⟨h13_⟩
       clear HO_5
       clear BK640
       clear BK641
       clear BK650
       clear HB
       clear h0_ h1_ h2_ h3_ h4_ h5_ h6_ h7_ h8_ h9_ h10_ h11_ h12_ h13_
       have HO_5 := n0_
       have BK640 := n1_
       have BK641 := n2_
       have BK650 := n3_
       have BK654 := n4_
       have GW654 := n5_
       have GE654 := n6_
       have NB640_654 := n7_
       have NB654_640 := n8_
       have NB641_654 := n9_
       have NB654_641 := n10_
       have NB650_654 := n11_
       have NB654_650 := n12_
       have HB := n13_
       clear n0_ n1_ n2_ n3_ n4_ n5_ n6_ n7_ n8_ n9_ n10_ n11_ n12_ n13_
       have hHeld : w28.cell? ⟨gb640, 0, none⟩ = some (.slice A0_0 l0_0.length c0_0) ∧ w28.cell? (ad646.add (x8_1).toNat) = some (.string (rdOf ByteArray.empty t643 x8_1)) := hS_
       refine norm_ (a' := ?_) ?_ ?_
       rotate_left
       ·
        simp only [putAll, Act.put, sA_, sB_, sC_]
        rfl
       refine one_ (i := 7) (N := none) #[ty, ty, ty, ty, ty, ty, ty, ty] rfl rfl (one_of HT_.out (by kernel_rfl)) (by decide) (fun K hK => ?_)
       have hs29 : w28.cell? ⟨gb654, 0, none⟩ = some (.int .i64 0) := (blk_cell BK654.out 0).trans rfl
       have hfs29 := blk_frozen BK654.out 0
       have hns29_0 := NB640_654.out
       have hns29_1 := NB641_654.out
       have hns29_2 := NB650_654.out
       have hms29_0 := NB654_640.out
       have hms29_1 := NB654_641.out
       have hms29_2 := NB654_650.out
       have hs30 : w28.cell? ⟨gb654, 1, none⟩ = some (.int .i64 0) := (blk_cell BK654.out 1).trans rfl
       have hfs30 := blk_frozen BK654.out 1
       have hns30_0 := NB640_654.out
       have hns30_1 := NB641_654.out
       have hns30_2 := NB650_654.out
       have hms30_0 := NB654_640.out
       have hms30_1 := NB654_641.out
       have hms30_2 := NB654_650.out
       refine skip_ (w1 := ?_) (by rfl) rfl ?_ ?_
       rotate_left
       ·
        go_simp
        rfl
       refine hK.out _ _ ⟨((cell_far (p := ⟨gb654, _, none⟩) NB640_654.out _).trans (((cell_far (p := ⟨gb654, _, none⟩) NB640_654.out _).trans (hHeld.1)))), ((cell_far (p := ⟨gb654, _, none⟩) (by first | exact Kd.own_blk (Kd.R_ne HO_5.out BK654.out (by decide)) | (rw [add_block]; exact Kd.own_blk (Kd.R_ne HO_5.out BK654.out (by decide))) | (show (Addr.add _ _).block ≠ _; rw [add_block]; exact Kd.own_blk (Kd.R_ne HO_5.out BK654.out (by decide))) | (dsimp only; exact Kd.own_blk (Kd.R_ne HO_5.out BK654.out (by decide)))) _).trans (((cell_far (p := ⟨gb654, _, none⟩) (by first | exact Kd.own_blk (Kd.R_ne HO_5.out BK654.out (by decide)) | (rw [add_block]; exact Kd.own_blk (Kd.R_ne HO_5.out BK654.out (by decide))) | (show (Addr.add _ _).block ≠ _; rw [add_block]; exact Kd.own_blk (Kd.R_ne HO_5.out BK654.out (by decide))) | (dsimp only; exact Kd.own_blk (Kd.R_ne HO_5.out BK654.out (by decide)))) _).trans (hHeld.2))))⟩ (fun hHeld => ?_)
       clear hK K
       refine done_ (done_of HT_.out (by kernel_rfl)) ?_
       have hnb31 := NB654_640.out
       have hnc31 := NB640_654.out
       have hnb32 := NB654_641.out
       have hnc32 := NB641_654.out
       have hnb33 := NB654_650.out
       have hnc33 := NB650_654.out
       have hcz34_0 : w28.cell? ⟨gb654, 0, none⟩ = some (.int .i64 0) := (blk_cell BK654.out 0).trans rfl
       have hcz34_1 : w28.cell? ⟨gb654, 1, none⟩ = some (.int .i64 0) := (blk_cell BK654.out 1).trans rfl
       have hfz34_0 := blk_frozen BK654.out 0
       have hfz34_1 := blk_frozen BK654.out 1
       have hnb35 := NB650_640.out
       have hnc35 := NB640_650.out
       have hnb36 := NB650_641.out
       have hnc36 := NB641_650.out
       have hcz37_0 : w28.cell? ⟨gb650, 0, none⟩ = some (.int .i64 x651000_1) := (blk_cell BK650.out 0).trans rfl
       have hcz37_1 : w28.cell? ⟨gb650, 1, none⟩ = some (.int .i64 x651001_1) := (blk_cell BK650.out 1).trans rfl
       have hfz37_0 := blk_frozen BK650.out 0
       have hfz37_1 := blk_frozen BK650.out 1
       have p655 : 0 ≤ (x8_1 : Int) := of_decide_eq_true (by first | (with_reducible assumption) | assumption)
       have q655 : x8_1 < (t643.length : Int) := of_decide_eq_true (by first | (with_reducible assumption) | assumption)
       obtain ⟨ad655, e655, hx655_0⟩ := Kd.at_string (Kd.R_reads' HO_5.out).2.2 x8_1 p655 q655
       obtain rfl : ad646 = ad655 := (by injection e655)
       have hn655_0 : ad646.block ≠ gb654 := Kd.own_blk (Kd.R_ne HO_5.out BK654.out (by decide))
       have hn655_1 : ad646.block ≠ gb654 := Kd.own_blk (Kd.R_ne HO_5.out BK654.out (by decide))
       replace hx655_0 := (cell_far (p := ⟨gb654, 0, none⟩) (by first | (rw [add_block]; exact hn655_0) | (show (Addr.add _ _).block ≠ _; rw [add_block]; exact hn655_0) | exact hn655_0) (.int .i64 t652)).trans hx655_0
       replace hx655_0 := (cell_far (p := ⟨gb654, 1, none⟩) (by first | (rw [add_block]; exact hn655_1) | (show (Addr.add _ _).block ≠ _; rw [add_block]; exact hn655_1) | exact hn655_1) (.int .i64 t653)).trans hx655_0
       clear hn655_0
       clear hn655_1
       replace p655 := eq_true p655
       replace q655 := eq_true q655
       try go_wp2
       go_roundg k1
       case measure => have := HK1.out; omega
       case rel => exact ⟨(rdOf ByteArray.empty t643 x8_1), (wrap64 (x8_1 + 1)), (t652), (t653), (by first | rfl | (simp; done) | (simp [*]; done)), (by first | rfl | (simp; done) | (simp [*]; done)), H', ⟨by have := HK1.out; omega⟩, ⟨by exact Kd.R_mono (Kd.R_far (p := ⟨gb650, 1, none⟩) (Kd.R_far (p := ⟨gb650, 0, none⟩) (Kd.R_far (p := ⟨gb654, 1, none⟩) (Kd.R_far (p := ⟨gb654, 0, none⟩) (Kd.R_types (Kd.R_types HO_5.out BK654.out (by decide)) BK650.out (by decide)) (fun _ hk => hk.1.2) (.int .i64 t652)) (fun _ hk => hk.1.2) (.int .i64 t653)) (fun _ hk => hk.2) (.int .i64 t652)) (fun _ hk => hk.2) (.int .i64 t653)) (fun _ hk => trivial)⟩, ⟨by refine blk_far ?_ NB640_650.out _; refine blk_far ?_ NB640_650.out _; refine blk_far ?_ NB640_654.out _; refine blk_far ?_ NB640_654.out _; exact BK640.out⟩, ⟨by refine blk_far ?_ NB641_650.out _; refine blk_far ?_ NB641_650.out _; refine blk_far ?_ NB641_654.out _; refine blk_far ?_ NB641_654.out _; exact BK641.out⟩, ⟨by refine blk_put (cs := #[.int .i64 t652, .int .i64 x651001_1]) ?_ 1 _ rfl; refine blk_put (cs := #[.int .i64 x651000_1, .int .i64 x651001_1]) ?_ 0 _ rfl; refine blk_far ?_ NB650_654.out _; refine blk_far ?_ NB650_654.out _; exact BK650.out⟩, ⟨by repeat (first | (with_reducible first | exact HB.out | apply below_alloc | apply pw_below_drewN | apply below_drew1 | refine below_set ?_ GE640.out | refine below_set ?_ GE641.out | refine below_set ?_ GE650.out | refine below_set ?_ GE654.out) | exact HB.out)⟩⟩
      ·
       rw [if_neg c24] at H
       have c24b0 := decide_eq_false c24
       clear c24
       have H' := aM_ H
       clear H
       try go_wp2
       have n0_ := aM_ (Kd.R_drew HO_5.out)
       have n1_ := aM_ (blk_drew BK640.out)
       have n2_ := aM_ (blk_drew BK641.out)
       have n3_ := aM_ (blk_drew BK650.out)
       have n4_ := aM_ (below_drew1 HB.out)
       clear HO_5
       clear BK640
       clear BK641
       clear BK650
       clear HB
       have HO_5 := n0_
       have BK640 := n1_
       have BK641 := n2_
       have BK650 := n3_
       have HB := n4_
       clear n0_ n1_ n2_ n3_ n4_
       have p651 : 0 ≤ (x8_1 : Int) := of_decide_eq_true (by first | (with_reducible assumption) | assumption)
       have q651 : x8_1 < (t643.length : Int) := of_decide_eq_true (by first | (with_reducible assumption) | assumption)
       obtain ⟨ad651, e651, hx651_0⟩ := Kd.at_string (Kd.R_reads' HO_5.out).2.2 x8_1 p651 q651
       obtain rfl : ad646 = ad651 := (by injection e651)
       replace p651 := eq_true p651
       replace q651 := eq_true q651
       refine start_ (n := 8) (S := fun w' => w'.cell? ⟨gb640, 0, none⟩ = some (.slice A0_0 l0_0.length c0_0) ∧ w'.cell? (ad646.add (x8_1).toNat) = some (.string (rdOf ByteArray.empty t643 x8_1))) (ds := []) #[fy, fy, fy, fy, fy, fy, fy, fy] (by kernel_rfl) rfl rfl ⟨(blk_cell BK640.out 0).trans rfl, hx651_0⟩ (fun hHeld => ?_); refine with_tabW spec_LikeliestDescent.tab8 spec_LikeliestDescent.bits8 (fun HT_ HW_ => ?_)
       generalize wr.drew = w38 at HO_5 BK640 BK641 BK650 HB hx651_0 hHeld ⊢
       refine pure_ (i := 1) (N := some 31) (v := ?_) (a' := ?_) #[fy, ty, fy, fy, fy, fy, fy, fy] rfl rfl (any_of HT_.out (by kernel_rfl)) (fun _ _ _ h => h) (Or.inl ⟨by rfl, ?_⟩) ?_ ?_; rotate_left; (intro w'; go_simp; with_reducible rfl); rotate_left; (simp only [Act.put, sA_, sB_, sC_, i64_w, i32_w]; rfl)
       refine pure_ (i := 2) (N := some 32) (v := ?_) (a' := ?_) #[fy, ty, ty, fy, fy, fy, fy, fy] rfl rfl (any_of HT_.out (by kernel_rfl)) (fun _ _ _ h => h) (Or.inl ⟨by rfl, ?_⟩) ?_ ?_; rotate_left; (intro w'; go_simp; with_reducible rfl); rotate_left; (simp only [Act.put, sA_, sB_, sC_, i64_w, i32_w]; rfl)
       refine pure_ (i := 3) (N := some 33) (v := ?_) (a' := ?_) #[fy, ty, ty, ty, fy, fy, fy, fy] rfl rfl (any_of HT_.out (by kernel_rfl)) (fun _ _ _ h => h) (Or.inl ⟨by rfl, ?_⟩) ?_ ?_; rotate_left; (intro w'; go_simp; with_reducible rfl); rotate_left; (simp only [Act.put, sA_, sB_, sC_, i64_w, i32_w]; rfl)
       refine take_ (i := 0) (N := some 30) (v := ?_) (a' := ?_) #[ty, ty, ty, ty, fy, fy, fy, fy] rfl rfl (take_ofW HT_.out HW_.out (by kernel_rfl)) (fun _ _ _ h => h) (Or.inl ⟨by rfl, ?_⟩) hHeld ?_ ?_; rotate_left; (rintro w' ⟨s0, s1⟩; go_simp; with_reducible rfl); rotate_left; (simp only [Act.put, sA_, sB_, sC_, i64_w, i32_w]; rfl)
       refine take_ (i := 4) (N := some 34) (v := ?_) (a' := ?_) #[ty, ty, ty, ty, ty, fy, fy, fy] rfl rfl (take_ofW HT_.out HW_.out (by kernel_rfl)) (fun _ _ _ h => h) (Or.inl ⟨by rfl, ?_⟩) hHeld ?_ ?_; rotate_left; (rintro w' ⟨s0, s1⟩; go_simp; with_reducible rfl); rotate_left; (simp only [Act.put, sA_, sB_, sC_, i64_w, i32_w]; rfl)
       refine join_ (σ := Nat) 1 #[ty, ty, ty, ty, ty, ty, ty, fy] (fun s_ => [(35, .agg #[.int .i64 t652, .int .i64 t653]), (9, .pointer (some ⟨s_, 0, none⟩))]) (fun s_ w' => (w'.cell? ⟨gb640, 0, none⟩ = some (.slice A0_0 l0_0.length c0_0) ∧ w'.cell? (ad646.add (x8_1).toNat) = some (.string (rdOf ByteArray.empty t643 x8_1))) ∧ (Kd.R Kd.string 9 w' w.heap.size (fun _ => True) (.slice (some ad646) t643.length co15) t643) ∧ (w'.heap[gb640]? = some (.cells #[.slice A0_0 l0_0.length c0_0] 31 (0, 0))) ∧ (w'.heap[gb641]? = some (.cells #[.int .i64 0, .int .i64 0] 26 (0, 0))) ∧ (w'.heap[gb650]? = some (.cells #[.int .i64 x651000_1, .int .i64 x651001_1] 26 (0, 0))) ∧ (w'.heap[s_]? = some (.cells #[.int .i64 0, .int .i64 0] 26 (0, 0))) ∧ (w.heap.size ≤ s_) ∧ (w.heap.size ≤ s_) ∧ (gb640 ≠ s_) ∧ (s_ ≠ gb640) ∧ (gb641 ≠ s_) ∧ (s_ ≠ gb641) ∧ (gb650 ≠ s_) ∧ (s_ ≠ gb650) ∧ (Below w.heap.size w w')) ?_ ?_
       rotate_left
       ·
        intro hCont
        refine two_ (i := 5) (j := 6) (Ni := some 35) (Nj := some 9) #[ty, ty, ty, ty, ty, ty, fy, fy] #[ty, ty, ty, ty, ty, fy, ty, fy] rfl rfl rfl rfl (two_of HT_.out (by kernel_rfl)) (by decide) (by decide) (fun K hK => ?_) (fun K hK => ?_)
        ·
         skip
         refine goes_ Try.func70 (by kernel_rfl) rfl #[.agg #[.slice A0_0 l0_0.length c0_0], .string (rdOf ByteArray.empty t643 x8_1)] (by rfl) rfl rfl (by (try simp only [sD_, sE_, sF_]); first | done | rfl | (simp only [sG_, sH_]; rfl)) ?_
         with_reducible refine (spec_l9Descent.calls k1 _ _ l0_0 (rdOf ByteArray.empty t643 x8_1) t652 t653 _ ?side1 ?side2 A23.out).mono ?_
         (case side1 => repeat (first | exact (Kd.C_below HR0_0.out HB.out) | (with_reducible refine Kd.C_alloc ?_ _) | (with_reducible refine Kd.C_drewN ?_ _) | (with_reducible refine Kd.C_drew ?_)))
         (case side2 => exact HC0_0.out)
         rintro e w39 ⟨rfl, hb⟩
         have HS1_ := (hb.cell (World.block_lt_of_cell? _ _ (hHeld.2))).trans (hHeld.2)
         refine ⟨_, rfl, ?_⟩
         have n0_ := aM_ (Kd.R_below HO_5.out hb)
         have n1_ := aM_ (blk_below BK640.out hb)
         have n2_ := aM_ (blk_below BK641.out hb)
         have n3_ := aM_ (blk_below BK650.out hb)
         have n4_ := aM_ (below_step HB.out hb)
         clear HO_5
         clear BK640
         clear BK641
         clear BK650
         clear HB
         have HO_5 := n0_
         have BK640 := n1_
         have BK641 := n2_
         have BK650 := n3_
         have HB := n4_
         clear n0_ n1_ n2_ n3_ n4_
         (try clear hb)
         (try clear hb2)
         (try clear hk)
         (try clear hi)
         refine hK.out _ _ ⟨(blk_cell BK640.out 0).trans rfl, HS1_⟩ (fun hHeld => ?_)
         clear hK K
         refine norm_ (a' := ?_) ?_ ?_; rotate_left; (show Act.put _ (some 35) _ = _; simp only [Act.put, sA_, sB_, sC_, i64_w, i32_w]; rfl)
         refine one_ (i := 6) (N := some 9) #[ty, ty, ty, ty, ty, ty, ty, fy] rfl rfl (one_of HT_.out (by kernel_rfl)) (by decide) (fun K hK => ?_)
         refine box_step ?hg (N := 9) ?hd (cs := #[.int .i64 0, .int .i64 0]) (t := 26) ?hr ?_; (case hd => rfl); (case hg => rfl); (case hr => first | (go_simp; done) | (go_simp; rfl))
         intro gb654 hg w40 hbox hb
         have HS1_ := (hb.cell (World.block_lt_of_cell? _ _ (hHeld.2))).trans (hHeld.2)
         have n0_ := aM_ (Kd.R_below HO_5.out hb)
         have n1_ := aM_ (blk_below BK640.out hb)
         have n2_ := aM_ (blk_below BK641.out hb)
         have n3_ := aM_ (blk_below BK650.out hb)
         have n4_ := aM_ (below_step HB.out hb)
         have n5_ := aM_ (hbox)
         have n6_ := aM_ ((by rw [hg]; exact (below_size HB.out) : w.heap.size ≤ gb654))
         have n7_ := aM_ ((by rw [hg]; exact (below_size HB.out) : w.heap.size ≤ gb654))
         have n8_ := aM_ ((by rw [hg]; exact Nat.ne_of_lt (blk_lt BK640.out) : gb640 ≠ gb654))
         have n9_ := aM_ ((by rw [hg]; exact Nat.ne_of_gt (blk_lt BK640.out) : gb654 ≠ gb640))
         have n10_ := aM_ ((by rw [hg]; exact Nat.ne_of_lt (blk_lt BK641.out) : gb641 ≠ gb654))
         have n11_ := aM_ ((by rw [hg]; exact Nat.ne_of_gt (blk_lt BK641.out) : gb654 ≠ gb641))
         have n12_ := aM_ ((by rw [hg]; exact Nat.ne_of_lt (blk_lt BK650.out) : gb650 ≠ gb654))
         have n13_ := aM_ ((by rw [hg]; exact Nat.ne_of_gt (blk_lt BK650.out) : gb654 ≠ gb650))
         clear HO_5
         clear BK640
         clear BK641
         clear BK650
         clear HB
         have HO_5 := n0_
         have BK640 := n1_
         have BK641 := n2_
         have BK650 := n3_
         have HB := n4_
         have BK654 := n5_
         have GW654 := n6_
         have GE654 := n7_
         have NB640_654 := n8_
         have NB654_640 := n9_
         have NB641_654 := n10_
         have NB654_641 := n11_
         have NB650_654 := n12_
         have NB654_650 := n13_
         clear n0_ n1_ n2_ n3_ n4_ n5_ n6_ n7_ n8_ n9_ n10_ n11_ n12_ n13_
         clear hb hbox hg
         refine hK.out _ _ ⟨(blk_cell BK640.out 0).trans rfl, HS1_⟩ (fun hHeld => ?_)
         clear hK K
         refine norm_ (a' := ?_) ?_ ?_; rotate_left; (show Act.put _ (some 9) _ = _; simp only [Act.put, sA_, sB_, sC_, i64_w, i32_w]; rfl)
         exact norm_ (by simp only [putAll, Act.put, sA_, sB_, sC_]) (hCont (gb654) _ ⟨hHeld, HO_5.out, BK640.out, BK641.out, BK650.out, BK654.out, GW654.out, GE654.out, NB640_654.out, NB654_640.out, NB641_654.out, NB654_641.out, NB650_654.out, NB654_650.out, HB.out⟩)
        ·
         skip
         refine box_step ?hg (N := 9) ?hd (cs := #[.int .i64 0, .int .i64 0]) (t := 26) ?hr ?_; (case hd => rfl); (case hg => rfl); (case hr => first | (go_simp; done) | (go_simp; rfl))
         intro gb654 hg w39 hbox hb
         have HS1_ := (hb.cell (World.block_lt_of_cell? _ _ (hHeld.2))).trans (hHeld.2)
         have n0_ := aM_ (Kd.R_below HO_5.out hb)
         have n1_ := aM_ (blk_below BK640.out hb)
         have n2_ := aM_ (blk_below BK641.out hb)
         have n3_ := aM_ (blk_below BK650.out hb)
         have n4_ := aM_ (below_step HB.out hb)
         have n5_ := aM_ (hbox)
         have n6_ := aM_ ((by rw [hg]; exact (below_size HB.out) : w.heap.size ≤ gb654))
         have n7_ := aM_ ((by rw [hg]; exact (below_size HB.out) : w.heap.size ≤ gb654))
         have n8_ := aM_ ((by rw [hg]; exact Nat.ne_of_lt (blk_lt BK640.out) : gb640 ≠ gb654))
         have n9_ := aM_ ((by rw [hg]; exact Nat.ne_of_gt (blk_lt BK640.out) : gb654 ≠ gb640))
         have n10_ := aM_ ((by rw [hg]; exact Nat.ne_of_lt (blk_lt BK641.out) : gb641 ≠ gb654))
         have n11_ := aM_ ((by rw [hg]; exact Nat.ne_of_gt (blk_lt BK641.out) : gb654 ≠ gb641))
         have n12_ := aM_ ((by rw [hg]; exact Nat.ne_of_lt (blk_lt BK650.out) : gb650 ≠ gb654))
         have n13_ := aM_ ((by rw [hg]; exact Nat.ne_of_gt (blk_lt BK650.out) : gb654 ≠ gb650))
         clear HO_5
         clear BK640
         clear BK641
         clear BK650
         clear HB
         have HO_5 := n0_
         have BK640 := n1_
         have BK641 := n2_
         have BK650 := n3_
         have HB := n4_
         have BK654 := n5_
         have GW654 := n6_
         have GE654 := n7_
         have NB640_654 := n8_
         have NB654_640 := n9_
         have NB641_654 := n10_
         have NB654_641 := n11_
         have NB650_654 := n12_
         have NB654_650 := n13_
         clear n0_ n1_ n2_ n3_ n4_ n5_ n6_ n7_ n8_ n9_ n10_ n11_ n12_ n13_
         clear hb hbox hg
         refine hK.out _ _ ⟨(blk_cell BK640.out 0).trans rfl, HS1_⟩ (fun hHeld => ?_)
         clear hK K
         refine norm_ (a' := ?_) ?_ ?_; rotate_left; (show Act.put _ (some 9) _ = _; simp only [Act.put, sA_, sB_, sC_, i64_w, i32_w]; rfl)
         refine one_ (i := 5) (N := some 35) #[ty, ty, ty, ty, ty, ty, ty, fy] rfl rfl (one_of HT_.out (by kernel_rfl)) (by decide) (fun K hK => ?_)
         refine goes_ Try.func70 (by kernel_rfl) rfl #[.agg #[.slice A0_0 l0_0.length c0_0], .string (rdOf ByteArray.empty t643 x8_1)] (by rfl) rfl rfl (by (try simp only [sD_, sE_, sF_]); first | done | rfl | (simp only [sG_, sH_]; rfl)) ?_
         with_reducible refine (spec_l9Descent.calls k1 _ _ l0_0 (rdOf ByteArray.empty t643 x8_1) t652 t653 _ ?side1 ?side2 A23.out).mono ?_
         (case side1 => repeat (first | exact (Kd.C_below HR0_0.out HB.out) | (with_reducible refine Kd.C_alloc ?_ _) | (with_reducible refine Kd.C_drewN ?_ _) | (with_reducible refine Kd.C_drew ?_)))
         (case side2 => exact HC0_0.out)
         rintro e w40 ⟨rfl, hb⟩
         have HS1_ := (hb.cell (World.block_lt_of_cell? _ _ (hHeld.2))).trans (hHeld.2)
         refine ⟨_, rfl, ?_⟩
         have n0_ := aM_ (Kd.R_below HO_5.out hb)
         have n1_ := aM_ (blk_below BK640.out hb)
         have n2_ := aM_ (blk_below BK641.out hb)
         have n3_ := aM_ (blk_below BK650.out hb)
         have n4_ := aM_ (blk_below BK654.out hb)
         have n5_ := aM_ (below_step HB.out hb)
         clear HO_5
         clear BK640
         clear BK641
         clear BK650
         clear BK654
         clear HB
         have HO_5 := n0_
         have BK640 := n1_
         have BK641 := n2_
         have BK650 := n3_
         have BK654 := n4_
         have HB := n5_
         clear n0_ n1_ n2_ n3_ n4_ n5_
         (try clear hb)
         (try clear hb2)
         (try clear hk)
         (try clear hi)
         refine hK.out _ _ ⟨(blk_cell BK640.out 0).trans rfl, HS1_⟩ (fun hHeld => ?_)
         clear hK K
         refine norm_ (a' := ?_) ?_ ?_; rotate_left; (show Act.put _ (some 35) _ = _; simp only [Act.put, sA_, sB_, sC_, i64_w, i32_w]; rfl)
         exact norm_ (by simp only [putAll, Act.put, sA_, sB_, sC_]) (hCont (gb654) _ ⟨hHeld, HO_5.out, BK640.out, BK641.out, BK650.out, BK654.out, GW654.out, GE654.out, NB640_654.out, NB654_640.out, NB641_654.out, NB654_641.out, NB650_654.out, NB654_650.out, HB.out⟩)
       rintro gb654 w41 ⟨hS_, h0_, h1_, h2_, h3_, h4_, h5_, h6_, h7_, h8_, h9_, h10_, h11_, h12_, h13_⟩
       have n0_ : Aside0 (Kd.R Kd.string 9 w41 w.heap.size (fun _ => True) (.slice (some ad646) t643.length co15) t643) := ⟨h0_⟩
       have n1_ : Aside0 (w41.heap[gb640]? = some (.cells #[.slice A0_0 l0_0.length c0_0] 31 (0, 0))) := ⟨h1_⟩
       have n2_ : Aside0 (w41.heap[gb641]? = some (.cells #[.int .i64 0, .int .i64 0] 26 (0, 0))) := ⟨h2_⟩
       have n3_ : Aside0 (w41.heap[gb650]? = some (.cells #[.int .i64 x651000_1, .int .i64 x651001_1] 26 (0, 0))) := ⟨h3_⟩
       have n4_ : Aside0 (w41.heap[gb654]? = some (.cells #[.int .i64 0, .int .i64 0] 26 (0, 0))) := ⟨h4_⟩
       have n5_ : Aside0 (w.heap.size ≤ gb654) := ⟨h5_⟩
       have n6_ : Aside0 (w.heap.size ≤ gb654) := ⟨h6_⟩
       have n7_ : Aside0 (gb640 ≠ gb654) := ⟨h7_⟩
       have n8_ : Aside0 (gb654 ≠ gb640) := ⟨h8_⟩
       have n9_ : Aside0 (gb641 ≠ gb654) := ⟨h9_⟩
       have n10_ : Aside0 (gb654 ≠ gb641) := ⟨h10_⟩
       have n11_ : Aside0 (gb650 ≠ gb654) := ⟨h11_⟩
       have n12_ : Aside0 (gb654 ≠ gb650) := ⟨h12_⟩
       have n13_ : Aside0 (Below w.heap.size w w41) := ⟨h13_⟩
       clear HO_5
       clear BK640
       clear BK641
       clear BK650
       clear HB
       clear h0_ h1_ h2_ h3_ h4_ h5_ h6_ h7_ h8_ h9_ h10_ h11_ h12_ h13_
       have HO_5 := n0_
       have BK640 := n1_
       have BK641 := n2_
       have BK650 := n3_
       have BK654 := n4_
       have GW654 := n5_
       have GE654 := n6_
       have NB640_654 := n7_
       have NB654_640 := n8_
       have NB641_654 := n9_
       have NB654_641 := n10_
       have NB650_654 := n11_
       have NB654_650 := n12_
       have HB := n13_
       clear n0_ n1_ n2_ n3_ n4_ n5_ n6_ n7_ n8_ n9_ n10_ n11_ n12_ n13_
       have hHeld : w41.cell? ⟨gb640, 0, none⟩ = some (.slice A0_0 l0_0.length c0_0) ∧ w41.cell? (ad646.add (x8_1).toNat) = some (.string (rdOf ByteArray.empty t643 x8_1)) := hS_
       refine norm_ (a' := ?_) ?_ ?_
       rotate_left
       ·
        simp only [putAll, Act.put, sA_, sB_, sC_]
        rfl
       refine one_ (i := 7) (N := none) #[ty, ty, ty, ty, ty, ty, ty, ty] rfl rfl (one_of HT_.out (by kernel_rfl)) (by decide) (fun K hK => ?_)
       have hs42 : w41.cell? ⟨gb654, 0, none⟩ = some (.int .i64 0) := (blk_cell BK654.out 0).trans rfl
       have hfs42 := blk_frozen BK654.out 0
       have hns42_0 := NB640_654.out
       have hns42_1 := NB641_654.out
       have hns42_2 := NB650_654.out
       have hms42_0 := NB654_640.out
       have hms42_1 := NB654_641.out
       have hms42_2 := NB654_650.out
       have hs43 : w41.cell? ⟨gb654, 1, none⟩ = some (.int .i64 0) := (blk_cell BK654.out 1).trans rfl
       have hfs43 := blk_frozen BK654.out 1
       have hns43_0 := NB640_654.out
       have hns43_1 := NB641_654.out
       have hns43_2 := NB650_654.out
       have hms43_0 := NB654_640.out
       have hms43_1 := NB654_641.out
       have hms43_2 := NB654_650.out
       refine skip_ (w1 := ?_) (by rfl) rfl ?_ ?_
       rotate_left
       ·
        go_simp
        rfl
       refine hK.out _ _ ⟨((cell_far (p := ⟨gb654, _, none⟩) NB640_654.out _).trans (((cell_far (p := ⟨gb654, _, none⟩) NB640_654.out _).trans (hHeld.1)))), ((cell_far (p := ⟨gb654, _, none⟩) (by first | exact Kd.own_blk (Kd.R_ne HO_5.out BK654.out (by decide)) | (rw [add_block]; exact Kd.own_blk (Kd.R_ne HO_5.out BK654.out (by decide))) | (show (Addr.add _ _).block ≠ _; rw [add_block]; exact Kd.own_blk (Kd.R_ne HO_5.out BK654.out (by decide))) | (dsimp only; exact Kd.own_blk (Kd.R_ne HO_5.out BK654.out (by decide)))) _).trans (((cell_far (p := ⟨gb654, _, none⟩) (by first | exact Kd.own_blk (Kd.R_ne HO_5.out BK654.out (by decide)) | (rw [add_block]; exact Kd.own_blk (Kd.R_ne HO_5.out BK654.out (by decide))) | (show (Addr.add _ _).block ≠ _; rw [add_block]; exact Kd.own_blk (Kd.R_ne HO_5.out BK654.out (by decide))) | (dsimp only; exact Kd.own_blk (Kd.R_ne HO_5.out BK654.out (by decide)))) _).trans (hHeld.2))))⟩ (fun hHeld => ?_)
       clear hK K
       refine done_ (done_of HT_.out (by kernel_rfl)) ?_
       have hnb44 := NB654_640.out
       have hnc44 := NB640_654.out
       have hnb45 := NB654_641.out
       have hnc45 := NB641_654.out
       have hnb46 := NB654_650.out
       have hnc46 := NB650_654.out
       have hcz47_0 : w41.cell? ⟨gb654, 0, none⟩ = some (.int .i64 0) := (blk_cell BK654.out 0).trans rfl
       have hcz47_1 : w41.cell? ⟨gb654, 1, none⟩ = some (.int .i64 0) := (blk_cell BK654.out 1).trans rfl
       have hfz47_0 := blk_frozen BK654.out 0
       have hfz47_1 := blk_frozen BK654.out 1
       have hnb48 := NB650_640.out
       have hnc48 := NB640_650.out
       have hnb49 := NB650_641.out
       have hnc49 := NB641_650.out
       have hcz50_0 : w41.cell? ⟨gb650, 0, none⟩ = some (.int .i64 x651000_1) := (blk_cell BK650.out 0).trans rfl
       have hcz50_1 : w41.cell? ⟨gb650, 1, none⟩ = some (.int .i64 x651001_1) := (blk_cell BK650.out 1).trans rfl
       have hfz50_0 := blk_frozen BK650.out 0
       have hfz50_1 := blk_frozen BK650.out 1
       try go_wp2
       go_roundg k1
       case measure => have := HK1.out; omega
       case rel => exact ⟨(x6_1), (wrap64 (x8_1 + 1)), (x651000_1), (x651001_1), (by first | rfl | (simp; done) | (simp [*]; done)), (by first | rfl | (simp; done) | (simp [*]; done)), H', ⟨by have := HK1.out; omega⟩, ⟨by exact Kd.R_mono (Kd.R_far (p := ⟨gb654, 1, none⟩) (Kd.R_far (p := ⟨gb654, 0, none⟩) (Kd.R_types HO_5.out BK654.out (by decide)) (fun _ hk => hk.2) (.int .i64 t652)) (fun _ hk => hk.2) (.int .i64 t653)) (fun _ hk => trivial)⟩, ⟨by refine blk_far ?_ NB640_654.out _; refine blk_far ?_ NB640_654.out _; exact BK640.out⟩, ⟨by refine blk_far ?_ NB641_654.out _; refine blk_far ?_ NB641_654.out _; exact BK641.out⟩, ⟨by refine blk_far ?_ NB650_654.out _; refine blk_far ?_ NB650_654.out _; exact BK650.out⟩, ⟨by repeat (first | (with_reducible first | exact HB.out | apply below_alloc | apply pw_below_drewN | apply below_drew1 | refine below_set ?_ GE640.out | refine below_set ?_ GE641.out | refine below_set ?_ GE650.out | refine below_set ?_ GE654.out) | exact HB.out)⟩⟩
     ·
      rw [if_neg c22] at H
      exact absurd H (by simp)
    ·
     rw [if_neg c21] at H
     have c21b0 := decide_eq_false c21
     clear c21
     simp only [Option.some.injEq, Prod.mk.injEq] at H
     obtain ⟨rfl, rfl, rfl, rfl⟩ := H
     try go_wp2
     have n0_ := aM_ (Kd.R_drew HO_5.out)
     have n1_ := aM_ (blk_drew BK640.out)
     have n2_ := aM_ (blk_drew BK641.out)
     have n3_ := aM_ (blk_drew BK650.out)
     have n4_ := aM_ (below_drew1 HB.out)
     clear HO_5
     clear BK640
     clear BK641
     clear BK650
     clear HB
     have HO_5 := n0_
     have BK640 := n1_
     have BK641 := n2_
     have BK650 := n3_
     have HB := n4_
     clear n0_ n1_ n2_ n3_ n4_
     refine start_ (n := 5) (S := fun w' => w'.cell? ⟨gb650, 0, none⟩ = some (.int .i64 x651000_1) ∧ w'.cell? ⟨gb650, 1, none⟩ = some (.int .i64 x651001_1)) (ds := []) #[fy, fy, fy, fy, fy] (by kernel_rfl) rfl rfl ⟨(blk_cell BK650.out 0).trans rfl, (blk_cell BK650.out 1).trans rfl⟩ (fun hHeld => ?_)
     generalize wr.drew = w51 at HO_5 BK640 BK641 BK650 HB hHeld ⊢
     refine pure_ (i := 0) (N := some 46) (v := ?_) (a' := ?_) #[ty, fy, fy, fy, fy] rfl rfl (by kernel_rfl) (fun _ _ _ h => h) (Or.inl ⟨by rfl, ?_⟩) ?_ ?_; rotate_left; (intro w'; go_simp; with_reducible rfl); rotate_left; (simp only [Act.put, sA_, sB_, sC_, i64_w, i32_w]; rfl)
     refine pure_ (i := 2) (N := some 2) (v := ?_) (a' := ?_) #[ty, fy, ty, fy, fy] rfl rfl (by kernel_rfl) (fun _ _ _ h => h) (Or.inl ⟨by rfl, ?_⟩) ?_ ?_; rotate_left; (intro w'; go_simp; with_reducible rfl); rotate_left; (simp only [Act.put, sA_, sB_, sC_, i64_w, i32_w]; rfl)
     refine take_ (i := 1) (N := some 47) (v := ?_) (a' := ?_) #[ty, ty, ty, fy, fy] rfl rfl (by kernel_rfl) (fun _ _ _ h => h) (Or.inl ⟨by rfl, ?_⟩) hHeld ?_ ?_; rotate_left; (rintro w' ⟨s0, s1⟩; go_simp; with_reducible rfl); rotate_left; (simp only [Act.put, sA_, sB_, sC_, i64_w, i32_w]; rfl)
     refine one_ (i := 3) (N := none) #[ty, ty, ty, ty, fy] rfl rfl (by kernel_rfl) (by decide) (fun K hK => ?_)
     have hs52 : w51.cell? ⟨gb641, 0, none⟩ = some (.int .i64 0) := (blk_cell BK641.out 0).trans rfl
     have hfs52 := blk_frozen BK641.out 0
     have hns52_0 := NB640_641.out
     have hns52_2 := NB650_641.out
     have hms52_0 := NB641_640.out
     have hms52_2 := NB641_650.out
     have hs53 : w51.cell? ⟨gb641, 1, none⟩ = some (.int .i64 0) := (blk_cell BK641.out 1).trans rfl
     have hfs53 := blk_frozen BK641.out 1
     have hns53_0 := NB640_641.out
     have hns53_2 := NB650_641.out
     have hms53_0 := NB641_640.out
     have hms53_2 := NB641_650.out
     refine skip_ (w1 := ?_) (by rfl) rfl ?_ ?_
     rotate_left
     ·
      go_simp
      rfl
     refine hK.out _ _ ⟨((cell_far (p := ⟨gb641, _, none⟩) NB650_641.out _).trans (((cell_far (p := ⟨gb641, _, none⟩) NB650_641.out _).trans (hHeld.1)))), ((cell_far (p := ⟨gb641, _, none⟩) NB650_641.out _).trans (((cell_far (p := ⟨gb641, _, none⟩) NB650_641.out _).trans (hHeld.2))))⟩ (fun hHeld => ?_)
     clear hK K
     refine pure_ (i := 4) (N := some 4) (v := ?_) (a' := ?_) #[ty, ty, ty, ty, ty] rfl rfl (by kernel_rfl) (fun _ _ _ h => h) (Or.inl ⟨by rfl, ?_⟩) ?_ ?_; rotate_left; (intro w'; go_simp; with_reducible rfl); rotate_left; (simp only [Act.put, sA_, sB_, sC_, i64_w, i32_w]; rfl)
     refine done_ (by kernel_rfl) ?_
     try go_wp2
     refine bodyPost_ret (results_list (rs := [.tmp 2, .cell 3 26, .tmp 4]) rfl (by simp) (.tmp (.cell gb641 26 #[.int .i64 x651000_1, .int .i64 x651001_1] (0, 0) _ rfl (by refine blk_put (cs := #[.int .i64 x651000_1, .int .i64 0]) ?_ 1 _ rfl; refine blk_put (cs := #[.int .i64 0, .int .i64 0]) ?_ 0 _ rfl; exact BK641.out) Try.underlying26 rfl (by kernel_rfl) (.tmp .nil)))) rfl ?_
     exact ⟨by first | rfl | (simp [errW_none, errW_some] <;> rfl) | (simp [*, errW_none, errW_some] <;> rfl), by repeat (first | (with_reducible first | exact HB.out | apply below_alloc | apply pw_below_drewN | apply below_drew1 | refine below_set ?_ GE640.out | refine below_set ?_ GE641.out | refine below_set ?_ GE650.out) | exact HB.out)⟩
 ·
  replace c3 := Bool.eq_false_iff.mpr c3
  subst c3
  have H1 : (some ((⟨#[]⟩ : ByteArray), 0, 0, false)) = some (r1, r2, r3, r4) := by rw [if_neg (show ¬ (false = true) by decide)] at H; exact H
  clear H
  have H := H1
  clear H1
  simp only [Option.some.injEq, Prod.mk.injEq] at H
  obtain ⟨rfl, rfl, rfl, rfl⟩ := H
  go_enter Try.func29, Try.ntmps29
  go_wp2_with (first | ((with_reducible refine gate_dst (N := 1) rfl ?_); refine box_event ?hg (N := 1) ?hd (cs := #[.slice A0_0 l0_0.length c0_0]) (t := 31) ?hr ?_; (case hd => rfl); (case hg => rfl); (case hr => first | (go_simp; done) | (go_simp; rfl)); intro gb640 hg w54 hbox hb; have BK640 := aM_ (hbox); have GW640 := aM_ ((by rw [hg]; exact (below_size HB.out) : w.heap.size ≤ gb640)); have GE640 := GW640; replace HB := aM_ (below_step HB.out hb); clear hb hbox hg) | ((with_reducible refine gate_dst (N := 3) rfl ?_); refine box_event ?hg (N := 3) ?hd (cs := #[.int .i64 0, .int .i64 0]) (t := 26) ?hr ?_; (case hd => rfl); (case hg => rfl); (case hr => first | (go_simp; done) | (go_simp; rfl)); intro gb641 hg w55 hbox hb; have BK641 := aM_ (hbox); have GW641 := aM_ ((by rw [hg]; exact (below_size HB.out) : w.heap.size ≤ gb641)); have GE641 := GW641; replace HB := aM_ (below_step HB.out hb); have NB640_641 := aM_ ((by rw [hg]; exact Nat.ne_of_lt (blk_lt BK640.out) : gb640 ≠ gb641)); have NB641_640 := aM_ NB640_641.out.symm; replace BK640 := aM_ (blk_below BK640.out hb); clear hb hbox hg; have hnb56 := NB640_641.out; have hnc56 := NB641_640.out; have hcz57_0 : w55.cell? ⟨gb640, 0, none⟩ = some (.slice A0_0 l0_0.length c0_0) := (blk_cell BK640.out 0).trans rfl; have hfz57_0 := blk_frozen BK640.out 0) | ((with_reducible refine gate_callee (f := 38) rfl ?_); refine goesL_ (some 11) rfl rfl Try.func38 (by kernel_rfl) rfl #[.agg #[.slice A0_0 l0_0.length c0_0]] rfl (by (try simp only [sD_, sE_, sF_]); first | done | rfl | (simp only [sG_, sH_]; rfl)) ?_; (with_reducible refine (spec_l9Drawn.calls k _ _ l0_0 false _ ?side1 ?side2 A2.out).mono ?_); (case side1 => repeat (first | exact (Kd.C_below HR0_0.out HB.out) | (with_reducible refine Kd.C_alloc ?_ _) | (with_reducible refine Kd.C_drewN ?_ _) | (with_reducible refine Kd.C_drew ?_))); (case side2 => exact HC0_0.out); rintro e w58 ⟨rfl, hb⟩; refine ⟨_, rfl, ?_⟩; replace BK640 := aM_ (blk_below BK640.out hb); replace BK641 := aM_ (blk_below BK641.out hb); replace HB := aM_ (below_step HB.out hb); (try clear hb); (try clear hb2); (try clear hk); (try clear hi); have hcz59_0 : w58.cell? ⟨gb641, 0, none⟩ = some (.int .i64 0) := (blk_cell BK641.out 0).trans rfl; have hcz59_1 : w58.cell? ⟨gb641, 1, none⟩ = some (.int .i64 0) := (blk_cell BK641.out 1).trans rfl; have hfz59_0 := blk_frozen BK641.out 0; have hfz59_1 := blk_frozen BK641.out 1))
  refine bodyPost_ret (results_list (rs := [.tmp 2, .cell 3 26, .tmp 4]) rfl (by simp) (.tmp (.cell gb641 26 #[.int .i64 0, .int .i64 0] (0, 0) _ rfl (by refine blk_put (cs := #[.int .i64 0, .int .i64 0]) ?_ 1 _ rfl; refine blk_put (cs := #[.int .i64 0, .int .i64 0]) ?_ 0 _ rfl; exact BK641.out) Try.underlying26 rfl (by kernel_rfl) (.tmp .nil)))) rfl ?_
  exact ⟨by first | rfl | (simp [errW_none, errW_some] <;> rfl) | (simp [*, errW_none, errW_some] <;> rfl), by repeat (first | (with_reducible first | exact HB.out | apply below_alloc | apply pw_below_drewN | apply below_drew1 | refine below_set ?_ GE640.out | refine below_set ?_ GE641.out) | exact HB.out)⟩
def impl_LikeliestDescent.l0 : Nat → Int → List Int → List Int → Int → Int → List (S80) → Option (ByteArray × Int × Int × Bool)
 | 0, _, _, _, _, _, _ => none
 | k + 1, x5, x6, x15, x16, x17, x706000 => if x17 < x16 then (if 0 ≤ x17 then (if x17 < (x15.length : Int) then (if 0 ≤ x5 then (if x5 < (x6.length : Int) then (if (rd x15 x17) < (rd x6 x5) then (impl_LikeliestDescent.l0 k x17 x6 x15 x16 (wrap64 (x17 + 1)) x706000) else (impl_LikeliestDescent.l0 k x5 x6 x15 x16 (wrap64 (x17 + 1)) x706000)) else (none)) else (none)) else (none)) else (none)) else ((impl_Trie_words.f k x706000).bind fun t713 => (if 0 ≤ x5 then (if x5 < (t713.length : Int) then (if x5 < (x6.length : Int) then (some (rdOf ByteArray.empty t713 x5, 1, rd x6 x5, true)) else (none)) else (none)) else (none)))
def impl_LikeliestDescent.f (k : Nat) (l0_0 : List (S80)) : Option (ByteArray × Int × Int × Bool) := (impl_isDrawn.f k l0_0).bind fun t707 => (if t707 = true then ((impl_Trie_chances.f k l0_0).bind fun t708 => (impl_LikeliestDescent.l0 k 0 t708 t708 (t708.length : Int) 0 l0_0)) else (some ((⟨#[]⟩ : ByteArray), 0, 0, false)))
theorem impl_LikeliestDescent.mono_l : ∀ k, (∀ y0 y1 y2 y3 y4 y5, LeO (impl_LikeliestDescent.l0 k y0 y1 y2 y3 y4 y5) (impl_LikeliestDescent.l0 (k + 1) y0 y1 y2 y3 y4 y5))
 | 0 => fun _ _ _ _ _ _ r h => by simp [impl_LikeliestDescent.l0] at h
 | k + 1 => by
  have ih0 := impl_LikeliestDescent.mono_l k
  ·
   intro y0 y1 y2 y3 y4 y5
   unfold impl_LikeliestDescent.l0
   repeat' first
   | (with_reducible exact ih0 _ _ _ _ _ _)
   | (with_reducible exact impl_Trie_chances.mono _ _)
   | (with_reducible exact impl_Trie_words.mono _ _)
   | (with_reducible exact impl_isDrawn.mono _ _)
   | (with_reducible exact LeO.refl _)
   | (with_reducible exact LeO.none _)
   | (with_reducible refine LeO.ite ?_ ?_)
   | (with_reducible refine LeO.bind ?_ (fun _ => ?_))
   | exact ih0 _ _ _ _ _ _
   | exact impl_Trie_chances.mono _ _
   | exact impl_Trie_words.mono _ _
   | exact impl_isDrawn.mono _ _
   | exact LeO.none _
   | refine LeO.ite ?_ ?_
   | refine LeO.bind ?_ (fun _ => ?_)
theorem impl_LikeliestDescent.mono : ∀ a0 k, LeO (impl_LikeliestDescent.f k a0) (impl_LikeliestDescent.f (k + 1) a0) := by
 intro a0 k
 have ih0 := impl_LikeliestDescent.mono_l k
 unfold impl_LikeliestDescent.f
 repeat' first
   | (with_reducible exact ih0 _ _ _ _ _ _)
   | (with_reducible exact impl_Trie_chances.mono _ _)
   | (with_reducible exact impl_Trie_words.mono _ _)
   | (with_reducible exact impl_isDrawn.mono _ _)
   | (with_reducible exact LeO.refl _)
   | (with_reducible exact LeO.none _)
   | (with_reducible refine LeO.ite ?_ ?_)
   | (with_reducible refine LeO.bind ?_ (fun _ => ?_))
   | exact ih0 _ _ _ _ _ _
   | exact impl_Trie_chances.mono _ _
   | exact impl_Trie_words.mono _ _
   | exact impl_isDrawn.mono _ _
   | exact LeO.none _
   | refine LeO.ite ?_ ?_
   | refine LeO.bind ?_ (fun _ => ?_)
def impl_LikeliestDescent.T10 : Bool × List (List Nat × List Nat) := (true, [([], []), ([0], [0]), ([], []), ([1, 2], [1, 2]), ([3], [3]), ([], []), ([], []), ([5, 6], [5, 6]), ([7], [7]), ([8], [8]), ([4, 1, 0, 1, 2, 3, 4], [4]), ([9, 10, 0, 1, 2, 3, 4, 5, 6, 7, 8, 9, 10], [9]), ([11, 0, 1, 2, 3, 4, 5, 6, 7, 8, 9, 10, 11], [])])
def impl_LikeliestDescent.B10 : List Nat := [0, 1, 0, 7, 15, 0, 0, 96, 224, 480, 31, 2047, 4095]
theorem impl_LikeliestDescent.tab10 : rtab .any (opsOf Try.f30 10) = impl_LikeliestDescent.T10 := by kernel_rfl
theorem impl_LikeliestDescent.bits10 : waitsOk impl_LikeliestDescent.T10.2 impl_LikeliestDescent.B10 = true := by kernel_rfl
set_option maxHeartbeats 8000000 in
set_option maxRecDepth 100000 in
theorem impl_LikeliestDescent.calls (k : Nat) (A0_0 : Option Addr) (c0_0 : Nat) (l0_0 : List (S80)) (r1 : ByteArray) (r2 : Int) (r3 : Int) (r4 : Bool) (w : World) (hr0_0 : Kd.C k80 w A0_0 l0_0.length l0_0) (hc0_0 : l0_0.length ≤ c0_0) (h : impl_LikeliestDescent.f k l0_0 = some (r1, r2, r3, r4)) :
  Calls Try.prog 30 #[.agg #[.slice A0_0 l0_0.length c0_0]] w fun e w' => e = .returned (.tuple #[.string r1, .agg #[.int .i64 r2, .int .i64 r3], .bool r4]) ∧ Below w.heap.size w w' := by
 have hu31 := Try.underlying31
 have hu26 := Try.underlying26
 have HR0_0 := aM_ hr0_0
 have HC0_0 := aM_ hc0_0
 clear hr0_0 hc0_0
 have HB := aM_ (Below.refl w.heap.size w)
 have H : ((impl_isDrawn.f k l0_0).bind fun t707 => (if t707 = true then ((impl_Trie_chances.f k l0_0).bind fun t708 => (impl_LikeliestDescent.l0 k 0 t708 t708 (t708.length : Int) 0 l0_0)) else (some ((⟨#[]⟩ : ByteArray), 0, 0, false)))) = some (r1, r2, r3, r4) := h
 clear h
 replace H := Option.bind_eq_some_iff.mp H
 obtain ⟨t707, A20, H⟩ := H
 try dsimp only at H
 have A2 := aM_ A20
 clear A20
 by_cases c3 : t707 = true
 ·
  subst c3
  rw [if_pos rfl] at H
  replace H := Option.bind_eq_some_iff.mp H
  obtain ⟨t708, A40, H⟩ := H
  try dsimp only at H
  have A4 := aM_ A40
  clear A40
  have H' := aM_ H
  clear H
  go_enter Try.func30, Try.ntmps30
  go_wp2_with (first | ((with_reducible refine gate_dst (N := 1) rfl ?_); refine box_event ?hg (N := 1) ?hd (cs := #[.slice A0_0 l0_0.length c0_0]) (t := 31) ?hr ?_; (case hd => rfl); (case hg => rfl); (case hr => first | (go_simp; done) | (go_simp; rfl)); intro gb705 hg w5 hbox hb; have BK705 := aM_ (hbox); have GW705 := aM_ ((by rw [hg]; exact (below_size HB.out) : w.heap.size ≤ gb705)); have GE705 := GW705; replace HB := aM_ (below_step HB.out hb); clear hb hbox hg) | ((with_reducible refine gate_dst (N := 3) rfl ?_); refine box_event ?hg (N := 3) ?hd (cs := #[.int .i64 0, .int .i64 0]) (t := 26) ?hr ?_; (case hd => rfl); (case hg => rfl); (case hr => first | (go_simp; done) | (go_simp; rfl)); intro gb706 hg w6 hbox hb; have BK706 := aM_ (hbox); have GW706 := aM_ ((by rw [hg]; exact (below_size HB.out) : w.heap.size ≤ gb706)); have GE706 := GW706; replace HB := aM_ (below_step HB.out hb); have NB705_706 := aM_ ((by rw [hg]; exact Nat.ne_of_lt (blk_lt BK705.out) : gb705 ≠ gb706)); have NB706_705 := aM_ NB705_706.out.symm; replace BK705 := aM_ (blk_below BK705.out hb); clear hb hbox hg; have hnb7 := NB705_706.out; have hnc7 := NB706_705.out; have hcz8_0 : w6.cell? ⟨gb705, 0, none⟩ = some (.slice A0_0 l0_0.length c0_0) := (blk_cell BK705.out 0).trans rfl; have hfz8_0 := blk_frozen BK705.out 0) | ((with_reducible refine gate_callee (f := 42) rfl ?_); refine goesL_ (some 10) rfl rfl Try.func42 (by kernel_rfl) rfl #[.agg #[.slice A0_0 l0_0.length c0_0]] rfl (by (try simp only [sD_, sE_, sF_]); first | done | rfl | (simp only [sG_, sH_]; rfl)) ?_; (with_reducible refine (impl_isDrawn.calls k _ _ l0_0 true _ ?side1 ?side2 A2.out).mono ?_); (case side1 => repeat (first | exact (Kd.C_below HR0_0.out HB.out) | (with_reducible refine Kd.C_alloc ?_ _) | (with_reducible refine Kd.C_drewN ?_ _) | (with_reducible refine Kd.C_drew ?_))); (case side2 => exact HC0_0.out); rintro e w9 ⟨rfl, hb⟩; refine ⟨_, rfl, ?_⟩; replace BK705 := aM_ (blk_below BK705.out hb); replace BK706 := aM_ (blk_below BK706.out hb); replace HB := aM_ (below_step HB.out hb); (try clear hb); (try clear hb2); (try clear hk); (try clear hi); have hcz10_0 : w9.cell? ⟨gb705, 0, none⟩ = some (.slice A0_0 l0_0.length c0_0) := (blk_cell BK705.out 0).trans rfl; have hfz10_0 := blk_frozen BK705.out 0) | ((with_reducible refine gate_callee (f := 71) rfl ?_); refine goesL_ (some 14) rfl rfl Try.func71 (by kernel_rfl) rfl #[.agg #[.slice A0_0 l0_0.length c0_0]] rfl (by (try simp only [sD_, sE_, sF_]); first | done | rfl | (simp only [sG_, sH_]; rfl)) ?_; (with_reducible refine (impl_Trie_chances.calls k _ _ l0_0 t708 _ ?side1 ?side2 A4.out).mono ?_); (case side1 => repeat (first | exact (Kd.C_below HR0_0.out HB.out) | (with_reducible refine Kd.C_alloc ?_ _) | (with_reducible refine Kd.C_drewN ?_ _) | (with_reducible refine Kd.C_drew ?_))); (case side2 => exact HC0_0.out); rintro e w11 ⟨v709, rfl, ho0, hb⟩; refine ⟨_, rfl, ?_⟩; have HO710 := aM_ (Kd.R_lower ho0 (below_size HB.out)); replace BK705 := aM_ (blk_below BK705.out hb); replace BK706 := aM_ (blk_below BK706.out hb); replace HB := aM_ (below_step HB.out hb); (try clear hb); (try clear hb2); (try clear hk); (try clear hi); (try clear ho0); obtain ⟨Ao12, co12, eo12⟩ := Kd.R_slice HO710.out; subst eo12))
  go_loopg [5, 17] k (fun kq v5 v17 w' => ∃ (x5_1 : Int) (x17_1 : Int), v5 = .int .i64 x5_1 ∧ v17 = .int .i64 x17_1 ∧ Aside0 (impl_LikeliestDescent.l0 kq x5_1 t708 t708 (t708.length : Int) x17_1 l0_0 = some (r1, r2, r3, r4)) ∧ Aside0 (kq ≤ k) ∧ Aside0 (Kd.R (Kd.int .i64) 3 w' w.heap.size (fun _ => True) (.slice Ao12 t708.length co12) t708) ∧ Aside0 (Kd.R (Kd.int .i64) 3 w' w.heap.size (fun _ => True) (.slice Ao12 t708.length co12) t708) ∧ Aside0 (w'.heap[gb705]? = some (.cells #[(.slice A0_0 l0_0.length c0_0)] 31 (0, 0))) ∧ Aside0 (w'.heap[gb706]? = some (.cells #[.int .i64 0, .int .i64 0] 26 (0, 0))) ∧ Aside0 (Below w.heap.size w w'))
  case atStart => exact ⟨(0), (0), (by first | rfl | (simp; done) | (simp [*]; done)), (by first | rfl | (simp; done) | (simp [*]; done)), H', ⟨Nat.le_refl _⟩, ⟨HO710.out⟩, ⟨HO710.out⟩, ⟨BK705.out⟩, ⟨BK706.out⟩, ⟨HB.out⟩⟩
  case round =>
   clear H'
   try clear p2
   try clear c3
   try clear c4
   try clear c7
   try clear hcz10_0
   try clear hcz8_0
   try clear hfz10_0
   try clear hfz8_0
   obtain ⟨x5_1, x17_1, rfl, rfl, HA, HK1, HO_6, HO_15, BK705, BK706, HB⟩ := hrel
   cases gk with
   | zero => exact absurd HA.out (by simp [impl_LikeliestDescent.l0])
   | succ k1 =>
    have H := HA.out
    clear HA
    simp only [impl_LikeliestDescent.l0] at H
    by_cases c13 : x17_1 < (t708.length : Int)
    ·
     rw [if_pos c13] at H
     have c13b0 := decide_eq_true c13
     clear c13
     by_cases c14 : 0 ≤ x17_1
     ·
      rw [if_pos c14] at H
      have c14b0 := decide_eq_true c14
      clear c14
      by_cases c15 : x17_1 < (t708.length : Int)
      ·
       rw [if_pos c15] at H
       have c15b0 := decide_eq_true c15
       clear c15
       by_cases c16 : 0 ≤ x5_1
       ·
        rw [if_pos c16] at H
        have c16b0 := decide_eq_true c16
        clear c16
        by_cases c17 : x5_1 < (t708.length : Int)
        ·
         rw [if_pos c17] at H
         have c17b0 := decide_eq_true c17
         clear c17
         by_cases c18 : (rd t708 x17_1) < (rd t708 x5_1)
         ·
          rw [if_pos c18] at H
          have c18b0 := decide_eq_true c18
          clear c18
          have H' := aM_ H
          clear H
          have p711 : 0 ≤ (x17_1 : Int) := of_decide_eq_true (by first | (with_reducible assumption) | assumption)
          have q711 : x17_1 < (t708.length : Int) := of_decide_eq_true (by first | (with_reducible assumption) | assumption)
          obtain ⟨ad711, e711, hx711_0⟩ := Kd.at_int (Kd.R_reads' HO_15.out).2.2 x17_1 p711 q711
          cases e711
          replace p711 := eq_true p711
          replace q711 := eq_true q711
          have p712 : 0 ≤ (x5_1 : Int) := of_decide_eq_true (by first | (with_reducible assumption) | assumption)
          have q712 : x5_1 < (t708.length : Int) := of_decide_eq_true (by first | (with_reducible assumption) | assumption)
          obtain ⟨ad712, e712, hx712_0⟩ := Kd.at_int (Kd.R_reads' HO_6.out).2.2 x5_1 p712 q712
          obtain rfl : ad711 = ad712 := (by injection e712)
          replace p712 := eq_true p712
          replace q712 := eq_true q712
          go_wp2
          go_roundg k1
          case measure => have := HK1.out; omega
          case rel => exact ⟨(x17_1), (wrap64 (x17_1 + 1)), (by first | rfl | (simp; done) | (simp [*]; done)), (by first | rfl | (simp; done) | (simp [*]; done)), H', ⟨by have := HK1.out; omega⟩, ⟨HO_6.out⟩, ⟨HO_15.out⟩, ⟨BK705.out⟩, ⟨BK706.out⟩, ⟨HB.out⟩⟩
         ·
          rw [if_neg c18] at H
          have c18b0 := decide_eq_false c18
          clear c18
          have H' := aM_ H
          clear H
          have p711 : 0 ≤ (x17_1 : Int) := of_decide_eq_true (by first | (with_reducible assumption) | assumption)
          have q711 : x17_1 < (t708.length : Int) := of_decide_eq_true (by first | (with_reducible assumption) | assumption)
          obtain ⟨ad711, e711, hx711_0⟩ := Kd.at_int (Kd.R_reads' HO_15.out).2.2 x17_1 p711 q711
          cases e711
          replace p711 := eq_true p711
          replace q711 := eq_true q711
          have p712 : 0 ≤ (x5_1 : Int) := of_decide_eq_true (by first | (with_reducible assumption) | assumption)
          have q712 : x5_1 < (t708.length : Int) := of_decide_eq_true (by first | (with_reducible assumption) | assumption)
          obtain ⟨ad712, e712, hx712_0⟩ := Kd.at_int (Kd.R_reads' HO_6.out).2.2 x5_1 p712 q712
          obtain rfl : ad711 = ad712 := (by injection e712)
          replace p712 := eq_true p712
          replace q712 := eq_true q712
          go_wp2
          go_roundg k1
          case measure => have := HK1.out; omega
          case rel => exact ⟨(x5_1), (wrap64 (x17_1 + 1)), (by first | rfl | (simp; done) | (simp [*]; done)), (by first | rfl | (simp; done) | (simp [*]; done)), H', ⟨by have := HK1.out; omega⟩, ⟨HO_6.out⟩, ⟨HO_15.out⟩, ⟨BK705.out⟩, ⟨BK706.out⟩, ⟨HB.out⟩⟩
        ·
         rw [if_neg c17] at H
         exact absurd H (by simp)
       ·
        rw [if_neg c16] at H
        exact absurd H (by simp)
      ·
       rw [if_neg c15] at H
       exact absurd H (by simp)
     ·
      rw [if_neg c14] at H
      exact absurd H (by simp)
    ·
     rw [if_neg c13] at H
     have c13b0 := decide_eq_false c13
     clear c13
     replace H := Option.bind_eq_some_iff.mp H
     obtain ⟨t713, A190, H⟩ := H
     try dsimp only at H
     have A19 := aM_ A190
     clear A190
     by_cases c20 : 0 ≤ x5_1
     ·
      rw [if_pos c20] at H
      have c20b0 := decide_eq_true c20
      clear c20
      by_cases c21 : x5_1 < (t713.length : Int)
      ·
       rw [if_pos c21] at H
       have c21b0 := decide_eq_true c21
       clear c21
       by_cases c22 : x5_1 < (t708.length : Int)
       ·
        rw [if_pos c22] at H
        have c22b0 := decide_eq_true c22
        clear c22
        simp only [Option.some.injEq, Prod.mk.injEq] at H
        obtain ⟨rfl, rfl, rfl, rfl⟩ := H
        try go_wp2
        have n0_ := aM_ (Kd.R_drew HO_6.out)
        have n1_ := aM_ (Kd.R_drew HO_15.out)
        have n2_ := aM_ (blk_drew BK705.out)
        have n3_ := aM_ (blk_drew BK706.out)
        have n4_ := aM_ (below_drew1 HB.out)
        clear HO_6
        clear HO_15
        clear BK705
        clear BK706
        clear HB
        have HO_6 := n0_
        have HO_15 := n1_
        have BK705 := n2_
        have BK706 := n3_
        have HB := n4_
        clear n0_ n1_ n2_ n3_ n4_
        have p717 : 0 ≤ (x5_1 : Int) := of_decide_eq_true (by first | (with_reducible assumption) | assumption)
        have q717 : x5_1 < (t708.length : Int) := of_decide_eq_true (by first | (with_reducible assumption) | assumption)
        obtain ⟨ad717, e717, hx717_0⟩ := Kd.at_int (Kd.R_reads' HO_6.out).2.2 x5_1 p717 q717
        cases e717
        replace p717 := eq_true p717
        replace q717 := eq_true q717
        refine start_ (n := 13) (S := fun w' => w'.cell? ⟨gb705, 0, none⟩ = some (.slice A0_0 l0_0.length c0_0) ∧ w'.cell? (ad717.add (x5_1).toNat) = some (.int .i64 (rd t708 x5_1)) ∧ True) (ds := []) #[fy, fy, fy, fy, fy, fy, fy, fy, fy, fy, fy, fy, fy] (by kernel_rfl) rfl rfl ⟨(blk_cell BK705.out 0).trans rfl, hx717_0, trivial⟩ (fun hHeld => ?_); refine with_tabW impl_LikeliestDescent.tab10 impl_LikeliestDescent.bits10 (fun HT_ HW_ => ?_)
        generalize wr.drew = w23 at HO_6 HO_15 BK705 BK706 HB hx717_0 hHeld ⊢
        refine pure_ (i := 2) (N := some 32) (v := ?_) (a' := ?_) #[fy, fy, ty, fy, fy, fy, fy, fy, fy, fy, fy, fy, fy] rfl rfl (any_of HT_.out (by kernel_rfl)) (fun _ _ _ h => h) (Or.inl ⟨by rfl, ?_⟩) ?_ ?_; rotate_left; (intro w'; go_simp; with_reducible rfl); rotate_left; (simp only [Act.put, sA_, sB_, sC_, i64_w, i32_w]; rfl)
        refine pure_ (i := 5) (N := some 35) (v := ?_) (a' := ?_) #[fy, fy, ty, fy, fy, ty, fy, fy, fy, fy, fy, fy, fy] rfl rfl (any_of HT_.out (by kernel_rfl)) (fun _ _ _ h => h) (Or.inl ⟨by rfl, ?_⟩) ?_ ?_; rotate_left; (intro w'; go_simp; with_reducible rfl); rotate_left; (simp only [Act.put, sA_, sB_, sC_, i64_w, i32_w]; rfl)
        refine pure_ (i := 6) (N := some 36) (v := ?_) (a' := ?_) #[fy, fy, ty, fy, fy, ty, ty, fy, fy, fy, fy, fy, fy] rfl rfl (any_of HT_.out (by kernel_rfl)) (fun _ _ _ h => h) (Or.inl ⟨by rfl, ?_⟩) ?_ ?_; rotate_left; (intro w'; go_simp; with_reducible rfl); rotate_left; (simp only [Act.put, sA_, sB_, sC_, i64_w, i32_w]; rfl)
        refine pure_ (i := 7) (N := some 37) (v := ?_) (a' := ?_) #[fy, fy, ty, fy, fy, ty, ty, ty, fy, fy, fy, fy, fy] rfl rfl (any_of HT_.out (by kernel_rfl)) (fun _ _ _ h => h) (Or.inl ⟨by rfl, ?_⟩) ?_ ?_; rotate_left; (intro w'; go_simp; with_reducible rfl); rotate_left; (simp only [Act.put, sA_, sB_, sC_, i64_w, i32_w]; rfl)
        refine take_ (i := 0) (N := some 30) (v := ?_) (a' := ?_) #[ty, fy, ty, fy, fy, ty, ty, ty, fy, fy, fy, fy, fy] rfl rfl (take_ofW HT_.out HW_.out (by kernel_rfl)) (fun _ _ _ h => h) (Or.inl ⟨by rfl, ?_⟩) hHeld ?_ ?_; rotate_left; (rintro w' ⟨s0, s1, s2⟩; go_simp; with_reducible rfl); rotate_left; (simp only [Act.put, sA_, sB_, sC_, i64_w, i32_w]; rfl)
        refine take_ (i := 8) (N := some 38) (v := ?_) (a' := ?_) #[ty, fy, ty, fy, fy, ty, ty, ty, ty, fy, fy, fy, fy] rfl rfl (take_ofW HT_.out HW_.out (by kernel_rfl)) (fun _ _ _ h => h) (Or.inl ⟨by rfl, ?_⟩) hHeld ?_ ?_; rotate_left; (rintro w' ⟨s0, s1, s2⟩; go_simp; with_reducible rfl); rotate_left; (simp only [Act.put, sA_, sB_, sC_, i64_w, i32_w]; rfl)
        refine pure_ (i := 9) (N := some 39) (v := ?_) (a' := ?_) #[ty, fy, ty, fy, fy, ty, ty, ty, ty, ty, fy, fy, fy] rfl rfl (any_of HT_.out (by kernel_rfl)) (fun _ _ _ h => h) (Or.inl ⟨by rfl, ?_⟩) ?_ ?_; rotate_left; (intro w'; go_simp; with_reducible rfl); rotate_left; (simp only [Act.put, sA_, sB_, sC_, i64_w, i32_w]; rfl)
        refine one_ (i := 1) (N := some 31) #[ty, ty, ty, fy, fy, ty, ty, ty, ty, ty, fy, fy, fy] rfl rfl (one_of HT_.out (by kernel_rfl)) (by decide) (fun K hK => ?_)
        refine goes_ Try.func49 (by kernel_rfl) rfl #[.agg #[.slice A0_0 l0_0.length c0_0]] (by rfl) rfl rfl (by (try simp only [sD_, sE_, sF_]); first | done | rfl | (simp only [sG_, sH_]; rfl)) ?_
        with_reducible refine (impl_Trie_words.calls k1 _ _ l0_0 t713 _ ?side1 ?side2 A19.out).mono ?_
        (case side1 => repeat (first | exact (Kd.C_below HR0_0.out HB.out) | (with_reducible refine Kd.C_alloc ?_ _) | (with_reducible refine Kd.C_drewN ?_ _) | (with_reducible refine Kd.C_drew ?_)))
        (case side2 => exact HC0_0.out)
        rintro e w24 ⟨v714, rfl, ho0, hb⟩
        have HS1_ := (hb.cell (World.block_lt_of_cell? _ _ (hHeld.2.1))).trans (hHeld.2.1)
        have HS2_ := trivial
        refine ⟨_, rfl, ?_⟩
        have n0_ := aM_ (Kd.R_below HO_6.out hb)
        have n1_ := aM_ (Kd.R_below HO_15.out hb)
        have n2_ := aM_ (Kd.R_lower ho0 (below_size HB.out))
        have n3_ := aM_ (blk_below BK705.out hb)
        have n4_ := aM_ (blk_below BK706.out hb)
        have n5_ := aM_ (below_step HB.out hb)
        clear HO_6
        clear HO_15
        clear BK705
        clear BK706
        clear HB
        have HO_6 := n0_
        have HO_15 := n1_
        have HO715 := n2_
        have BK705 := n3_
        have BK706 := n4_
        have HB := n5_
        clear n0_ n1_ n2_ n3_ n4_ n5_
        (try clear hb)
        (try clear hb2)
        (try clear hk)
        (try clear hi)
        (try clear ho0)
        obtain ⟨Ao25, co25, eo25⟩ := Kd.R_slice HO715.out
        (first | subst eo25 | (injection eo25 with f1_ f2_ f3_; have f4_ := f1_.symm; have f5_ := f3_.symm; clear f1_ f2_ f3_; subst f4_; subst f5_))
        have p716 : 0 ≤ (x5_1 : Int) := of_decide_eq_true (by first | (with_reducible assumption) | assumption)
        have q716 : x5_1 < (t713.length : Int) := of_decide_eq_true (by first | (with_reducible assumption) | assumption)
        obtain ⟨ad716, e716, hx716_0⟩ := Kd.at_string (Kd.R_reads' HO715.out).2.2 x5_1 p716 q716
        cases e716
        replace p716 := eq_true p716
        replace q716 := eq_true q716
        refine hK.out _ _ ⟨(blk_cell BK705.out 0).trans rfl, HS1_, HS2_⟩ (fun hHeld => ?_)
        clear hK K
        refine norm_ (a' := ?_) ?_ ?_; rotate_left; (show Act.put _ (some 31) _ = _; simp only [Act.put, sA_, sB_, sC_, i64_w, i32_w]; rfl)
        refine pure_ (i := 3) (N := some 33) (v := ?_) (a' := ?_) #[ty, ty, ty, ty, fy, ty, ty, ty, ty, ty, fy, fy, fy] rfl rfl (any_of HT_.out (by kernel_rfl)) (fun _ _ _ h => h) (Or.inl ⟨by rfl, ?_⟩) ?_ ?_; rotate_left; (intro w'; go_simp; with_reducible rfl); rotate_left; (simp only [Act.put, sA_, sB_, sC_, i64_w, i32_w]; rfl)
        refine one_ (i := 4) (N := some 34) #[ty, ty, ty, ty, ty, ty, ty, ty, ty, ty, fy, fy, fy] rfl rfl (one_of HT_.out (by kernel_rfl)) (by decide) (fun K hK => ?_)
        refine value_ (v := .string (rdOf ByteArray.empty t713 x5_1)) (w1 := w24) (by rfl) rfl ?_ ?_
        ·
         go_simp
         first | done | rfl | with_reducible rfl
        refine hK.out _ _ ⟨(blk_cell BK705.out 0).trans rfl, hHeld.2.1, trivial⟩ (fun hHeld => ?_)
        clear hK K
        refine norm_ (a' := ?_) ?_ ?_; rotate_left; (show Act.put _ (some 34) _ = _; simp only [Act.put, sA_, sB_, sC_, i64_w, i32_w]; rfl)
        refine pure_ (i := 10) (N := some 2) (v := ?_) (a' := ?_) #[ty, ty, ty, ty, ty, ty, ty, ty, ty, ty, ty, fy, fy] rfl rfl (any_of HT_.out (by kernel_rfl)) (fun _ _ _ h => h) (Or.inl ⟨by rfl, ?_⟩) ?_ ?_; rotate_left; (intro w'; go_simp; with_reducible rfl); rotate_left; (simp only [Act.put, sA_, sB_, sC_, i64_w, i32_w]; rfl)
        refine one_ (i := 11) (N := none) #[ty, ty, ty, ty, ty, ty, ty, ty, ty, ty, ty, ty, fy] rfl rfl (one_of HT_.out (by kernel_rfl)) (by decide) (fun K hK => ?_)
        have hs26 : w24.cell? ⟨gb706, 0, none⟩ = some (.int .i64 0) := (blk_cell BK706.out 0).trans rfl
        have hfs26 := blk_frozen BK706.out 0
        have hns26_0 := NB705_706.out
        have hms26_0 := NB706_705.out
        have hs27 : w24.cell? ⟨gb706, 1, none⟩ = some (.int .i64 0) := (blk_cell BK706.out 1).trans rfl
        have hfs27 := blk_frozen BK706.out 1
        have hns27_0 := NB705_706.out
        have hms27_0 := NB706_705.out
        refine skip_ (w1 := ?_) (by rfl) rfl ?_ ?_
        rotate_left
        ·
         go_simp
         rfl
        refine hK.out _ _ ⟨((cell_far (p := ⟨gb706, _, none⟩) NB705_706.out _).trans (((cell_far (p := ⟨gb706, _, none⟩) NB705_706.out _).trans (hHeld.1)))), ((cell_far (p := ⟨gb706, _, none⟩) (by first | exact Kd.own_blk (Kd.R_ne HO_6.out BK706.out (by decide)) | (rw [add_block]; exact Kd.own_blk (Kd.R_ne HO_6.out BK706.out (by decide))) | (show (Addr.add _ _).block ≠ _; rw [add_block]; exact Kd.own_blk (Kd.R_ne HO_6.out BK706.out (by decide))) | (dsimp only; exact Kd.own_blk (Kd.R_ne HO_6.out BK706.out (by decide)))) _).trans (((cell_far (p := ⟨gb706, _, none⟩) (by first | exact Kd.own_blk (Kd.R_ne HO_6.out BK706.out (by decide)) | (rw [add_block]; exact Kd.own_blk (Kd.R_ne HO_6.out BK706.out (by decide))) | (show (Addr.add _ _).block ≠ _; rw [add_block]; exact Kd.own_blk (Kd.R_ne HO_6.out BK706.out (by decide))) | (dsimp only; exact Kd.own_blk (Kd.R_ne HO_6.out BK706.out (by decide)))) _).trans (hHeld.2.1)))), trivial⟩ (fun hHeld => ?_)
        clear hK K
        refine pure_ (i := 12) (N := some 4) (v := ?_) (a' := ?_) #[ty, ty, ty, ty, ty, ty, ty, ty, ty, ty, ty, ty, ty] rfl rfl (any_of HT_.out (by kernel_rfl)) (fun _ _ _ h => h) (Or.inl ⟨by rfl, ?_⟩) ?_ ?_; rotate_left; (intro w'; go_simp; with_reducible rfl); rotate_left; (simp only [Act.put, sA_, sB_, sC_, i64_w, i32_w]; rfl)
        refine done_ (done_of HT_.out (by kernel_rfl)) ?_
        try go_wp2
        refine bodyPost_ret (results_list (rs := [.tmp 2, .cell 3 26, .tmp 4]) rfl (by simp) (.tmp (.cell gb706 26 #[.int .i64 1, .int .i64 (rd t708 x5_1)] (0, 0) _ rfl (by refine blk_put (cs := #[.int .i64 1, .int .i64 0]) ?_ 1 _ rfl; refine blk_put (cs := #[.int .i64 0, .int .i64 0]) ?_ 0 _ rfl; exact BK706.out) Try.underlying26 rfl (by kernel_rfl) (.tmp .nil)))) rfl ?_
        exact ⟨by first | rfl | (simp [errW_none, errW_some] <;> rfl) | (simp [*, errW_none, errW_some] <;> rfl), by repeat (first | (with_reducible first | exact HB.out | apply below_alloc | apply pw_below_drewN | apply below_drew1 | refine below_set ?_ GE705.out | refine below_set ?_ GE706.out) | exact HB.out)⟩
       ·
        rw [if_neg c22] at H
        exact absurd H (by simp)
      ·
       rw [if_neg c21] at H
       exact absurd H (by simp)
     ·
      rw [if_neg c20] at H
      exact absurd H (by simp)
 ·
  replace c3 := Bool.eq_false_iff.mpr c3
  subst c3
  have H1 : (some ((⟨#[]⟩ : ByteArray), 0, 0, false)) = some (r1, r2, r3, r4) := by rw [if_neg (show ¬ (false = true) by decide)] at H; exact H
  clear H
  have H := H1
  clear H1
  simp only [Option.some.injEq, Prod.mk.injEq] at H
  obtain ⟨rfl, rfl, rfl, rfl⟩ := H
  go_enter Try.func30, Try.ntmps30
  go_wp2_with (first | ((with_reducible refine gate_dst (N := 1) rfl ?_); refine box_event ?hg (N := 1) ?hd (cs := #[.slice A0_0 l0_0.length c0_0]) (t := 31) ?hr ?_; (case hd => rfl); (case hg => rfl); (case hr => first | (go_simp; done) | (go_simp; rfl)); intro gb705 hg w28 hbox hb; have BK705 := aM_ (hbox); have GW705 := aM_ ((by rw [hg]; exact (below_size HB.out) : w.heap.size ≤ gb705)); have GE705 := GW705; replace HB := aM_ (below_step HB.out hb); clear hb hbox hg) | ((with_reducible refine gate_dst (N := 3) rfl ?_); refine box_event ?hg (N := 3) ?hd (cs := #[.int .i64 0, .int .i64 0]) (t := 26) ?hr ?_; (case hd => rfl); (case hg => rfl); (case hr => first | (go_simp; done) | (go_simp; rfl)); intro gb706 hg w29 hbox hb; have BK706 := aM_ (hbox); have GW706 := aM_ ((by rw [hg]; exact (below_size HB.out) : w.heap.size ≤ gb706)); have GE706 := GW706; replace HB := aM_ (below_step HB.out hb); have NB705_706 := aM_ ((by rw [hg]; exact Nat.ne_of_lt (blk_lt BK705.out) : gb705 ≠ gb706)); have NB706_705 := aM_ NB705_706.out.symm; replace BK705 := aM_ (blk_below BK705.out hb); clear hb hbox hg; have hnb30 := NB705_706.out; have hnc30 := NB706_705.out; have hcz31_0 : w29.cell? ⟨gb705, 0, none⟩ = some (.slice A0_0 l0_0.length c0_0) := (blk_cell BK705.out 0).trans rfl; have hfz31_0 := blk_frozen BK705.out 0) | ((with_reducible refine gate_callee (f := 42) rfl ?_); refine goesL_ (some 10) rfl rfl Try.func42 (by kernel_rfl) rfl #[.agg #[.slice A0_0 l0_0.length c0_0]] rfl (by (try simp only [sD_, sE_, sF_]); first | done | rfl | (simp only [sG_, sH_]; rfl)) ?_; (with_reducible refine (impl_isDrawn.calls k _ _ l0_0 false _ ?side1 ?side2 A2.out).mono ?_); (case side1 => repeat (first | exact (Kd.C_below HR0_0.out HB.out) | (with_reducible refine Kd.C_alloc ?_ _) | (with_reducible refine Kd.C_drewN ?_ _) | (with_reducible refine Kd.C_drew ?_))); (case side2 => exact HC0_0.out); rintro e w32 ⟨rfl, hb⟩; refine ⟨_, rfl, ?_⟩; replace BK705 := aM_ (blk_below BK705.out hb); replace BK706 := aM_ (blk_below BK706.out hb); replace HB := aM_ (below_step HB.out hb); (try clear hb); (try clear hb2); (try clear hk); (try clear hi); have hcz33_0 : w32.cell? ⟨gb706, 0, none⟩ = some (.int .i64 0) := (blk_cell BK706.out 0).trans rfl; have hcz33_1 : w32.cell? ⟨gb706, 1, none⟩ = some (.int .i64 0) := (blk_cell BK706.out 1).trans rfl; have hfz33_0 := blk_frozen BK706.out 0; have hfz33_1 := blk_frozen BK706.out 1))
  refine bodyPost_ret (results_list (rs := [.tmp 2, .cell 3 26, .tmp 4]) rfl (by simp) (.tmp (.cell gb706 26 #[.int .i64 0, .int .i64 0] (0, 0) _ rfl (by refine blk_put (cs := #[.int .i64 0, .int .i64 0]) ?_ 1 _ rfl; refine blk_put (cs := #[.int .i64 0, .int .i64 0]) ?_ 0 _ rfl; exact BK706.out) Try.underlying26 rfl (by kernel_rfl) (.tmp .nil)))) rfl ?_
  exact ⟨by first | rfl | (simp [errW_none, errW_some] <;> rfl) | (simp [*, errW_none, errW_some] <;> rfl), by repeat (first | (with_reducible first | exact HB.out | apply below_alloc | apply pw_below_drewN | apply below_drew1 | refine below_set ?_ GE705.out | refine below_set ?_ GE706.out) | exact HB.out)⟩
def laws_FnExactLikeliestDescent.j0 : Nat → Bool → List (S82) → List (S80) → Option (Bool)
 | 0, _, _, _ => none
 | k + 1, x44, x719000, x732000 => if x44 = true then (some false) else ((laws_toTrie.f k x719000).bind fun t738 => ((laws_eqTrie.f k x732000 t738).bind fun t741 => (if t741 = true then (some true) else (some false))))
def laws_FnExactLikeliestDescent.f (k : Nat) (l0_0 : List (S82)) : Option (Bool) := (laws_szTrie.f l0_0 1048576).bind fun t719 => (if t719 < 0 then (some true) else ((laws_toTrie.f k l0_0).bind fun t720 => ((spec_LikeliestDescent.f k t720).bind fun bt723 => ((laws_toTrie.f k l0_0).bind fun t728 => ((impl_LikeliestDescent.f k t728).bind fun bt732 => (if bt732.1.toList = bt723.1.toList then ((laws_eqIntA2.f bt732.2.1 bt732.2.2.1 bt723.2.1 bt723.2.2.1).bind fun t737 => (if t737 = true then (laws_FnExactLikeliestDescent.j0 k (bt732.2.2.2 != bt723.2.2.2) l0_0 t728) else (laws_FnExactLikeliestDescent.j0 k true l0_0 t728))) else (laws_FnExactLikeliestDescent.j0 k true l0_0 t728)))))))
theorem laws_FnExactLikeliestDescent.mono_l : ∀ k, (∀ y0 y1 y2, LeO (laws_FnExactLikeliestDescent.j0 k y0 y1 y2) (laws_FnExactLikeliestDescent.j0 (k + 1) y0 y1 y2))
 | 0 => fun _ _ _ r h => by simp [laws_FnExactLikeliestDescent.j0] at h
 | k + 1 => by
  have ih0 := laws_FnExactLikeliestDescent.mono_l k
  ·
   intro y0 y1 y2
   unfold laws_FnExactLikeliestDescent.j0
   repeat' first
   | (with_reducible exact ih0 _ _ _)
   | (with_reducible exact impl_LikeliestDescent.mono _ _)
   | (with_reducible exact laws_eqTrie.mono _ _ _)
   | (with_reducible exact laws_toTrie.mono _ _)
   | (with_reducible exact spec_LikeliestDescent.mono _ _)
   | (with_reducible exact LeO.refl _)
   | (with_reducible exact LeO.none _)
   | (with_reducible refine LeO.ite ?_ ?_)
   | (with_reducible refine LeO.bind ?_ (fun _ => ?_))
   | exact ih0 _ _ _
   | exact impl_LikeliestDescent.mono _ _
   | exact laws_eqTrie.mono _ _ _
   | exact laws_toTrie.mono _ _
   | exact spec_LikeliestDescent.mono _ _
   | exact LeO.none _
   | refine LeO.ite ?_ ?_
   | refine LeO.bind ?_ (fun _ => ?_)
theorem laws_FnExactLikeliestDescent.mono : ∀ a0 k, LeO (laws_FnExactLikeliestDescent.f k a0) (laws_FnExactLikeliestDescent.f (k + 1) a0) := by
 intro a0 k
 have ih0 := laws_FnExactLikeliestDescent.mono_l k
 unfold laws_FnExactLikeliestDescent.f
 repeat' first
   | (with_reducible exact ih0 _ _ _)
   | (with_reducible exact impl_LikeliestDescent.mono _ _)
   | (with_reducible exact laws_eqTrie.mono _ _ _)
   | (with_reducible exact laws_toTrie.mono _ _)
   | (with_reducible exact spec_LikeliestDescent.mono _ _)
   | (with_reducible exact LeO.refl _)
   | (with_reducible exact LeO.none _)
   | (with_reducible refine LeO.ite ?_ ?_)
   | (with_reducible refine LeO.bind ?_ (fun _ => ?_))
   | exact ih0 _ _ _
   | exact impl_LikeliestDescent.mono _ _
   | exact laws_eqTrie.mono _ _ _
   | exact laws_toTrie.mono _ _
   | exact spec_LikeliestDescent.mono _ _
   | exact LeO.none _
   | refine LeO.ite ?_ ?_
   | refine LeO.bind ?_ (fun _ => ?_)
set_option maxHeartbeats 8000000 in
set_option maxRecDepth 100000 in
theorem laws_FnExactLikeliestDescent.calls (k : Nat) (A0_0 : Option Addr) (c0_0 : Nat) (l0_0 : List (S82)) (r : Bool) (w : World) (hr0_0 : Kd.C k82 w A0_0 l0_0.length l0_0) (hc0_0 : l0_0.length ≤ c0_0) (h : laws_FnExactLikeliestDescent.f k l0_0 = some r) :
  Calls Try.prog 9 #[.agg #[.slice A0_0 l0_0.length c0_0]] w fun e w' => e = .returned (.bool r) ∧ Below w.heap.size w w' := by
 have hu24 := Try.underlying24
 have hu26 := Try.underlying26
 have hu31 := Try.underlying31
 have HR0_0 := aM_ hr0_0
 have HC0_0 := aM_ hc0_0
 clear hr0_0 hc0_0
 have HB := aM_ (Below.refl w.heap.size w)
 have H : ((laws_szTrie.f l0_0 1048576).bind fun t719 => (if t719 < 0 then (some true) else ((laws_toTrie.f k l0_0).bind fun t720 => ((spec_LikeliestDescent.f k t720).bind fun bt723 => ((laws_toTrie.f k l0_0).bind fun t728 => ((impl_LikeliestDescent.f k t728).bind fun bt732 => (if bt732.1.toList = bt723.1.toList then ((laws_eqIntA2.f bt732.2.1 bt732.2.2.1 bt723.2.1 bt723.2.2.1).bind fun t737 => (if t737 = true then (laws_FnExactLikeliestDescent.j0 k (bt732.2.2.2 != bt723.2.2.2) l0_0 t728) else (laws_FnExactLikeliestDescent.j0 k true l0_0 t728))) else (laws_FnExactLikeliestDescent.j0 k true l0_0 t728)))))))) = some r := h
 clear h
 replace H := Option.bind_eq_some_iff.mp H
 obtain ⟨t719, A20, H⟩ := H
 try dsimp only at H
 have A2 := aM_ A20
 clear A20
 by_cases c3 : t719 < 0
 ·
  rw [if_pos c3] at H
  have c3b0 := decide_eq_true c3
  clear c3
  obtain rfl := Option.some.inj H
  go_enter Try.func9, Try.ntmps9
  go_wp2_with (first | ((with_reducible refine gate_dst (N := 1) rfl ?_); refine box_event ?hg (N := 1) ?hd (cs := #[.slice A0_0 l0_0.length c0_0]) (t := 24) ?hr ?_; (case hd => rfl); (case hg => rfl); (case hr => first | (go_simp; done) | (go_simp; rfl)); intro gb718 hg w4 hbox hb; have BK718 := aM_ (hbox); have GW718 := aM_ ((by rw [hg]; exact (below_size HB.out) : w.heap.size ≤ gb718)); have GE718 := GW718; replace HB := aM_ (below_step HB.out hb); clear hb hbox hg; have hcz5_0 : w4.cell? ⟨gb718, 0, none⟩ = some (.slice A0_0 l0_0.length c0_0) := (blk_cell BK718.out 0).trans rfl; have hfz5_0 := blk_frozen BK718.out 0) | ((with_reducible refine gate_callee (f := 13) rfl ?_); refine goesL_ (some 13) rfl rfl Try.func13 (by kernel_rfl) rfl #[.agg #[.slice A0_0 l0_0.length c0_0], .int .i64 1048576] rfl (by (try simp only [sD_, sE_, sF_]); first | done | rfl | (simp only [sG_, sH_]; rfl)) ?_; (with_reducible refine (laws_szTrie.calls _ _ l0_0 1048576 t719 _ ?side1 ?side2 A2.out).mono ?_); (case side1 => repeat (first | exact (Kd.C_below HR0_0.out HB.out) | (with_reducible refine Kd.C_alloc ?_ _) | (with_reducible refine Kd.C_drewN ?_ _) | (with_reducible refine Kd.C_drew ?_))); (case side2 => exact HC0_0.out); rintro e w6 ⟨rfl, hb⟩; refine ⟨_, rfl, ?_⟩; replace BK718 := aM_ (blk_below BK718.out hb); replace HB := aM_ (below_step HB.out hb); (try clear hb); (try clear hb2); (try clear hk); (try clear hi)))
  go_ret
  exact ⟨by first | rfl | (simp [errW_none, errW_some] <;> rfl) | (simp [*, errW_none, errW_some] <;> rfl), by exact HB.out⟩
 ·
  rw [if_neg c3] at H
  have c3b0 := decide_eq_false c3
  clear c3
  replace H := Option.bind_eq_some_iff.mp H
  obtain ⟨t720, A70, H⟩ := H
  try dsimp only at H
  have A7 := aM_ A70
  clear A70
  replace H := Option.bind_eq_some_iff.mp H
  obtain ⟨⟨t723, t724, t725, t726⟩, A80, H⟩ := H
  try dsimp only at H
  have A8 := aM_ A80
  clear A80
  replace H := Option.bind_eq_some_iff.mp H
  obtain ⟨t728, A90, H⟩ := H
  try dsimp only at H
  have A9 := aM_ A90
  clear A90
  replace H := Option.bind_eq_some_iff.mp H
  obtain ⟨⟨t732, t733, t734, t735⟩, A100, H⟩ := H
  try dsimp only at H
  have A10 := aM_ A100
  clear A100
  have HC11 := aM_ H
  clear H
  go_enter Try.func9, Try.ntmps9
  go_upto_region 8 with (first | ((with_reducible refine gate_dst (N := 1) rfl ?_); refine box_event ?hg (N := 1) ?hd (cs := #[.slice A0_0 l0_0.length c0_0]) (t := 24) ?hr ?_; (case hd => rfl); (case hg => rfl); (case hr => first | (go_simp; done) | (go_simp; rfl)); intro gb718 hg w12 hbox hb; have BK718 := aM_ (hbox); have GW718 := aM_ ((by rw [hg]; exact (below_size HB.out) : w.heap.size ≤ gb718)); have GE718 := GW718; replace HB := aM_ (below_step HB.out hb); clear hb hbox hg; have hcz13_0 : w12.cell? ⟨gb718, 0, none⟩ = some (.slice A0_0 l0_0.length c0_0) := (blk_cell BK718.out 0).trans rfl; have hfz13_0 := blk_frozen BK718.out 0) | ((with_reducible refine gate_callee (f := 13) rfl ?_); refine goesL_ (some 13) rfl rfl Try.func13 (by kernel_rfl) rfl #[.agg #[.slice A0_0 l0_0.length c0_0], .int .i64 1048576] rfl (by (try simp only [sD_, sE_, sF_]); first | done | rfl | (simp only [sG_, sH_]; rfl)) ?_; (with_reducible refine (laws_szTrie.calls _ _ l0_0 1048576 t719 _ ?side1 ?side2 A2.out).mono ?_); (case side1 => repeat (first | exact (Kd.C_below HR0_0.out HB.out) | (with_reducible refine Kd.C_alloc ?_ _) | (with_reducible refine Kd.C_drewN ?_ _) | (with_reducible refine Kd.C_drew ?_))); (case side2 => exact HC0_0.out); rintro e w14 ⟨rfl, hb⟩; refine ⟨_, rfl, ?_⟩; replace BK718 := aM_ (blk_below BK718.out hb); replace HB := aM_ (below_step HB.out hb); (try clear hb); (try clear hb2); (try clear hk); (try clear hi); have hcz15_0 : w14.cell? ⟨gb718, 0, none⟩ = some (.slice A0_0 l0_0.length c0_0) := (blk_cell BK718.out 0).trans rfl; have hfz15_0 := blk_frozen BK718.out 0) | ((with_reducible refine gate_callee (f := 15) rfl ?_); refine goesL_ (some 18) rfl rfl Try.func15 (by kernel_rfl) rfl #[.agg #[.slice A0_0 l0_0.length c0_0]] rfl (by (try simp only [sD_, sE_, sF_]); first | done | rfl | (simp only [sG_, sH_]; rfl)) ?_; (with_reducible refine (laws_toTrie.calls k _ _ l0_0 t720 _ ?side1 ?side2 A7.out).mono ?_); (case side1 => repeat (first | exact (Kd.C_below HR0_0.out HB.out) | (with_reducible refine Kd.C_alloc ?_ _) | (with_reducible refine Kd.C_drewN ?_ _) | (with_reducible refine Kd.C_drew ?_))); (case side2 => exact HC0_0.out); rintro e w16 ⟨v721, rfl, ho0, hb⟩; refine ⟨_, rfl, ?_⟩; have HO722 := aM_ (Kd.R_lower ho0 (below_size HB.out)); replace BK718 := aM_ (blk_below BK718.out hb); replace HB := aM_ (below_step HB.out hb); (try clear hb); (try clear hb2); (try clear hk); (try clear hi); (try clear ho0); obtain ⟨Ao17, co17, eo17⟩ := Kd.R_slice HO722.out; subst eo17) | ((with_reducible refine gate_callee (f := 29) rfl ?_); refine goesL_ (some 19) rfl rfl Try.func29 (by kernel_rfl) rfl #[.agg #[.slice Ao17 t720.length co17]] rfl (by (try simp only [sD_, sE_, sF_]); first | done | rfl | (simp only [sG_, sH_]; rfl)) ?_; (with_reducible refine (spec_LikeliestDescent.calls k _ _ t720 t723 t724 t725 t726 _ ?side1 ?side2 A8.out).mono ?_); (case side1 => repeat (first | exact (Kd.R_reads' HO722.out).2.2 | (with_reducible refine Kd.C_alloc ?_ _) | (with_reducible refine Kd.C_drewN ?_ _) | (with_reducible refine Kd.C_drew ?_))); (case side2 => exact (Kd.R_reads' HO722.out).2.1); rintro e w18 ⟨rfl, hb⟩; refine ⟨_, rfl, ?_⟩; replace HO722 := aM_ (Kd.R_below HO722.out hb); replace BK718 := aM_ (blk_below BK718.out hb); replace HB := aM_ (below_step HB.out hb); (try clear hb); (try clear hb2); (try clear hk); (try clear hi)) | ((with_reducible refine gate_dst (N := 5) rfl ?_); refine box_event ?hg (N := 5) ?hd (cs := #[.int .i64 0, .int .i64 0]) (t := 26) ?hr ?_; (case hd => rfl); (case hg => rfl); (case hr => first | (go_simp; done) | (go_simp; rfl)); intro gb727 hg w19 hbox hb; replace HO722 := aM_ (Kd.R_below HO722.out hb); have BK727 := aM_ (hbox); have GW727 := aM_ ((by rw [hg]; exact (below_size HB.out) : w.heap.size ≤ gb727)); have GE727 := GW727; replace HB := aM_ (below_step HB.out hb); have NB718_727 := aM_ ((by rw [hg]; exact Nat.ne_of_lt (blk_lt BK718.out) : gb718 ≠ gb727)); have NB727_718 := aM_ NB718_727.out.symm; replace BK718 := aM_ (blk_below BK718.out hb); clear hb hbox hg; have hnb20 := NB727_718.out; have hnc20 := NB718_727.out; have hcz21_0 : w19.cell? ⟨gb727, 0, none⟩ = some (.int .i64 0) := (blk_cell BK727.out 0).trans rfl; have hcz21_1 : w19.cell? ⟨gb727, 1, none⟩ = some (.int .i64 0) := (blk_cell BK727.out 1).trans rfl; have hfz21_0 := blk_frozen BK727.out 0; have hfz21_1 := blk_frozen BK727.out 1; have hcz22_0 : w19.cell? ⟨gb718, 0, none⟩ = some (.slice A0_0 l0_0.length c0_0) := (blk_cell BK718.out 0).trans rfl; have hfz22_0 := blk_frozen BK718.out 0) | ((with_reducible refine gate_callee (f := 15) rfl ?_); refine goesL_ (some 24) rfl rfl Try.func15 (by kernel_rfl) rfl #[.agg #[.slice A0_0 l0_0.length c0_0]] rfl (by (try simp only [sD_, sE_, sF_]); first | done | rfl | (simp only [sG_, sH_]; rfl)) ?_; (with_reducible refine (laws_toTrie.calls k _ _ l0_0 t728 _ ?side1 ?side2 A9.out).mono ?_); (case side1 => exact Kd.C_below HR0_0.out (by repeat (first | (with_reducible first | exact HB.out | apply below_alloc | apply pw_below_drewN | apply below_drew1 | refine below_set ?_ GE718.out | refine below_set ?_ GE727.out) | exact HB.out))); (case side2 => exact HC0_0.out); rintro e w23 ⟨v729, rfl, ho0, hb⟩; refine ⟨_, rfl, ?_⟩; have HO730 := aM_ (Kd.R_lower (Kd.R_new' ho0 (Kd.R_lt (by exact (Kd.R_mono (Kd.R_far (p := ⟨gb727, 1, none⟩) (Kd.R_far (p := ⟨gb727, 0, none⟩) (Kd.R_types HO722.out BK727.out (by decide)) (fun _ hk => hk.2) (.int .i64 t724)) (fun _ hk => hk.2) (.int .i64 t725)) (fun _ h_ => h_.1))))) (below_size (by repeat (first | (with_reducible first | exact HB.out | apply below_alloc | apply pw_below_drewN | apply below_drew1 | refine below_set ?_ GE718.out | refine below_set ?_ GE727.out) | exact HB.out)))); replace HO722 := aM_ (Kd.R_elder' (by exact (Kd.R_mono (Kd.R_far (p := ⟨gb727, 1, none⟩) (Kd.R_far (p := ⟨gb727, 0, none⟩) (Kd.R_types HO722.out BK727.out (by decide)) (fun _ hk => hk.2) (.int .i64 t724)) (fun _ hk => hk.2) (.int .i64 t725)) (fun _ h_ => h_.1))) (Kd.R_base ho0) hb); replace BK718 := aM_ (blk_below (g := gb718) (o := .cells #[.slice A0_0 l0_0.length c0_0] 24 (0, 0)) (by refine blk_far ?_ NB718_727.out _; refine blk_far ?_ NB718_727.out _; exact BK718.out) hb); replace BK727 := aM_ (blk_below (g := gb727) (o := .cells #[.int .i64 t724, .int .i64 t725] 26 (0, 0)) (by refine blk_put (cs := #[.int .i64 t724, .int .i64 0]) ?_ 1 _ rfl; refine blk_put (cs := #[.int .i64 0, .int .i64 0]) ?_ 0 _ rfl; exact BK727.out) hb); replace HB := aM_ (below_step (by repeat (first | (with_reducible first | exact HB.out | apply below_alloc | apply pw_below_drewN | apply below_drew1 | refine below_set ?_ GE718.out | refine below_set ?_ GE727.out) | exact HB.out)) hb); (try clear hb); (try clear hb2); (try clear hk); (try clear hi); (try clear ho0)) | ((with_reducible refine gate_dst (N := 7) rfl ?_); refine box_event ?hg (N := 7) ?hd (cs := #[.slice none 0 0]) (t := 31) ?hr ?_; (case hd => rfl); (case hg => rfl); (case hr => first | (go_simp; done) | (go_simp; rfl)); intro gb731 hg w24 hbox hb; replace HO722 := aM_ (Kd.R_below HO722.out hb); replace HO730 := aM_ (Kd.R_below HO730.out hb); have BK731 := aM_ (hbox); have GW731 := aM_ ((by rw [hg]; exact (below_size HB.out) : w.heap.size ≤ gb731)); have GE731 := GW731; replace HB := aM_ (below_step HB.out hb); have NB718_731 := aM_ ((by rw [hg]; exact Nat.ne_of_lt (blk_lt BK718.out) : gb718 ≠ gb731)); have NB731_718 := aM_ NB718_731.out.symm; replace BK718 := aM_ (blk_below BK718.out hb); have NB727_731 := aM_ ((by rw [hg]; exact Nat.ne_of_lt (blk_lt BK727.out) : gb727 ≠ gb731)); have NB731_727 := aM_ NB727_731.out.symm; replace BK727 := aM_ (blk_below BK727.out hb); clear hb hbox hg; obtain ⟨Ao25, co25, eo25⟩ := Kd.R_slice HO730.out; subst eo25; have hnb26 := NB731_718.out; have hnc26 := NB718_731.out; have hnb27 := NB731_727.out; have hnc27 := NB727_731.out; have hcz28_0 : w24.cell? ⟨gb731, 0, none⟩ = some (.slice none 0 0) := (blk_cell BK731.out 0).trans rfl; have hfz28_0 := blk_frozen BK731.out 0) | ((with_reducible refine gate_callee (f := 30) rfl ?_); refine goesL_ (some 27) rfl rfl Try.func30 (by kernel_rfl) rfl #[.agg #[.slice Ao25 t728.length co25]] rfl (by (try simp only [sD_, sE_, sF_]); first | done | rfl | (simp only [sG_, sH_]; rfl)) ?_; (with_reducible refine (impl_LikeliestDescent.calls k _ _ t728 t732 t733 t734 t735 _ ?side1 ?side2 A10.out).mono ?_); (case side1 => refine (Kd.R_reads' (e := 80) (base := w.heap.size) (ok := fun k_ => (True ∧ some k_ ≠ (.slice Ao17 t720.length co17 : Value).ownBlock)) (n := t728.length) (c := co25) ?_).2.2; exact (by exact (Kd.R_mono (Kd.R_far (p := ⟨gb731, 0, none⟩) (Kd.R_types HO730.out BK731.out (by decide)) (fun _ hk => hk.2) (.slice Ao25 t728.length co25)) (fun _ h_ => h_.1)))); (case side2 => exact (Kd.R_reads' HO730.out).2.1); rintro e w29 ⟨rfl, hb⟩; refine ⟨_, rfl, ?_⟩; replace HO722 := aM_ (Kd.R_below (by exact (Kd.R_mono (Kd.R_far (p := ⟨gb731, 0, none⟩) (Kd.R_types HO722.out BK731.out (by decide)) (fun _ hk => hk.2) (.slice Ao25 t728.length co25)) (fun _ h_ => h_.1))) hb); replace HO730 := aM_ (Kd.R_below (by exact (Kd.R_mono (Kd.R_far (p := ⟨gb731, 0, none⟩) (Kd.R_types HO730.out BK731.out (by decide)) (fun _ hk => hk.2) (.slice Ao25 t728.length co25)) (fun _ h_ => h_.1))) hb); replace BK718 := aM_ (blk_below (g := gb718) (o := .cells #[.slice A0_0 l0_0.length c0_0] 24 (0, 0)) (by refine blk_far ?_ NB718_731.out _; exact BK718.out) hb); replace BK727 := aM_ (blk_below (g := gb727) (o := .cells #[.int .i64 t724, .int .i64 t725] 26 (0, 0)) (by refine blk_far ?_ NB727_731.out _; exact BK727.out) hb); replace BK731 := aM_ (blk_below (g := gb731) (o := .cells #[.slice Ao25 t728.length co25] 31 (0, 0)) (by refine blk_put (cs := #[.slice none 0 0]) ?_ 0 _ rfl; exact BK731.out) hb); replace HB := aM_ (below_step (by repeat (first | (with_reducible first | exact HB.out | apply below_alloc | apply pw_below_drewN | apply below_drew1 | refine below_set ?_ GE718.out | refine below_set ?_ GE727.out | refine below_set ?_ GE731.out) | exact HB.out)) hb); (try clear hb); (try clear hb2); (try clear hk); (try clear hi)) | ((with_reducible refine gate_dst (N := 9) rfl ?_); refine box_event ?hg (N := 9) ?hd (cs := #[.int .i64 0, .int .i64 0]) (t := 26) ?hr ?_; (case hd => rfl); (case hg => rfl); (case hr => first | (go_simp; done) | (go_simp; rfl)); intro gb736 hg w30 hbox hb; replace HO722 := aM_ (Kd.R_below HO722.out hb); replace HO730 := aM_ (Kd.R_below HO730.out hb); have BK736 := aM_ (hbox); have GW736 := aM_ ((by rw [hg]; exact (below_size HB.out) : w.heap.size ≤ gb736)); have GE736 := GW736; replace HB := aM_ (below_step HB.out hb); have NB718_736 := aM_ ((by rw [hg]; exact Nat.ne_of_lt (blk_lt BK718.out) : gb718 ≠ gb736)); have NB736_718 := aM_ NB718_736.out.symm; replace BK718 := aM_ (blk_below BK718.out hb); have NB727_736 := aM_ ((by rw [hg]; exact Nat.ne_of_lt (blk_lt BK727.out) : gb727 ≠ gb736)); have NB736_727 := aM_ NB727_736.out.symm; replace BK727 := aM_ (blk_below BK727.out hb); have NB731_736 := aM_ ((by rw [hg]; exact Nat.ne_of_lt (blk_lt BK731.out) : gb731 ≠ gb736)); have NB736_731 := aM_ NB731_736.out.symm; replace BK731 := aM_ (blk_below BK731.out hb); clear hb hbox hg; have hnb31 := NB736_718.out; have hnc31 := NB718_736.out; have hnb32 := NB736_727.out; have hnc32 := NB727_736.out; have hnb33 := NB736_731.out; have hnc33 := NB731_736.out; have hcz34_0 : w30.cell? ⟨gb736, 0, none⟩ = some (.int .i64 0) := (blk_cell BK736.out 0).trans rfl; have hcz34_1 : w30.cell? ⟨gb736, 1, none⟩ = some (.int .i64 0) := (blk_cell BK736.out 1).trans rfl; have hfz34_0 := blk_frozen BK736.out 0; have hfz34_1 := blk_frozen BK736.out 1))
  (try simp only [Act.put, sA_, sB_, sC_])
  go_cut [44] (fun v44 wc => ∃ (kq : Nat) (x44_10 : Bool), v44 = .bool x44_10 ∧ Aside0 (laws_FnExactLikeliestDescent.j0 kq x44_10 l0_0 t728 = some r) ∧ Aside0 (kq ≤ k) ∧ Aside0 (Kd.R k80 80 wc w.heap.size (fun _ => True) (.slice Ao25 t728.length co25) t728) ∧ Aside0 (wc.heap[gb718]? = some (.cells #[(.slice A0_0 l0_0.length c0_0)] 24 (0, 0))) ∧ Aside0 (wc.heap[gb727]? = some (.cells #[.int .i64 t724, .int .i64 t725] 26 (0, 0))) ∧ Aside0 (wc.heap[gb731]? = some (.cells #[(.slice Ao25 t728.length co25)] 31 (0, 0))) ∧ Aside0 (wc.heap[gb736]? = some (.cells #[.int .i64 t733, .int .i64 t734] 26 (0, 0))) ∧ Aside0 (Below w.heap.size w wc))
  case first =>
   have H := HC11.out
   clear HC11
   by_cases c35 : t732.toList = t723.toList
   ·
    rw [if_pos c35] at H
    have c35b0 : (t732.toList == t723.toList) = true := beq_iff_eq.mpr c35
    have c35b1 : (t732.toList != t723.toList) = false := bne_eq_false_iff_eq.mpr c35
    clear c35
    (first | rw [c35b0] | (simp only [i64_w, i32_w]; rw [c35b0]) | skip)
    replace H := Option.bind_eq_some_iff.mp H
    obtain ⟨t737, A360, H⟩ := H
    try dsimp only at H
    have A36 := aM_ A360
    clear A360
    by_cases c37 : t737 = true
    ·
     subst c37
     rw [if_pos rfl] at H
     have H' := aM_ H
     clear H
     have hnb38 := NB736_718.out
     have hnc38 := NB718_736.out
     have hnb39 := NB736_727.out
     have hnc39 := NB727_736.out
     have hnb40 := NB736_731.out
     have hnc40 := NB731_736.out
     have hcz41_0 : w30.cell? ⟨gb736, 0, none⟩ = some (.int .i64 0) := (blk_cell BK736.out 0).trans rfl
     have hcz41_1 : w30.cell? ⟨gb736, 1, none⟩ = some (.int .i64 0) := (blk_cell BK736.out 1).trans rfl
     have hfz41_0 := blk_frozen BK736.out 0
     have hfz41_1 := blk_frozen BK736.out 1
     have hnb42 := NB727_718.out
     have hnc42 := NB718_727.out
     have hnb43 := NB727_731.out
     have hnc43 := NB731_727.out
     have hcz44_0 : w30.cell? ⟨gb727, 0, none⟩ = some (.int .i64 t724) := (blk_cell BK727.out 0).trans rfl
     have hcz44_1 : w30.cell? ⟨gb727, 1, none⟩ = some (.int .i64 t725) := (blk_cell BK727.out 1).trans rfl
     have hfz44_0 := blk_frozen BK727.out 0
     have hfz44_1 := blk_frozen BK727.out 1
     go_wp2_with (first | (go_at_call 17; (with_reducible refine (laws_eqIntA2.calls t733 t734 t724 t725 true _ A36.out).mono ?_); rintro e w45 ⟨rfl, hb⟩; replace HO722 := aM_ (Kd.R_below (by exact (Kd.R_mono (Kd.R_far (p := ⟨gb736, 1, none⟩) (Kd.R_far (p := ⟨gb736, 0, none⟩) (Kd.R_types HO722.out BK736.out (by decide)) (fun _ hk => hk.2) (.int .i64 t733)) (fun _ hk => hk.2) (.int .i64 t734)) (fun _ h_ => h_.1))) hb); replace HO730 := aM_ (Kd.R_below (by exact (Kd.R_mono (Kd.R_far (p := ⟨gb736, 1, none⟩) (Kd.R_far (p := ⟨gb736, 0, none⟩) (Kd.R_types HO730.out BK736.out (by decide)) (fun _ hk => hk.2) (.int .i64 t733)) (fun _ hk => hk.2) (.int .i64 t734)) (fun _ h_ => h_.1))) hb); replace BK718 := aM_ (blk_below (g := gb718) (o := .cells #[.slice A0_0 l0_0.length c0_0] 24 (0, 0)) (by refine blk_far ?_ NB718_736.out _; refine blk_far ?_ NB718_736.out _; exact BK718.out) hb); replace BK727 := aM_ (blk_below (g := gb727) (o := .cells #[.int .i64 t724, .int .i64 t725] 26 (0, 0)) (by refine blk_far ?_ NB727_736.out _; refine blk_far ?_ NB727_736.out _; exact BK727.out) hb); replace BK731 := aM_ (blk_below (g := gb731) (o := .cells #[.slice Ao25 t728.length co25] 31 (0, 0)) (by refine blk_far ?_ NB731_736.out _; refine blk_far ?_ NB731_736.out _; exact BK731.out) hb); replace BK736 := aM_ (blk_below (g := gb736) (o := .cells #[.int .i64 t733, .int .i64 t734] 26 (0, 0)) (by refine blk_put (cs := #[.int .i64 t733, .int .i64 0]) ?_ 1 _ rfl; refine blk_put (cs := #[.int .i64 0, .int .i64 0]) ?_ 0 _ rfl; exact BK736.out) hb); replace HB := aM_ (below_step (by repeat (first | (with_reducible first | exact HB.out | apply below_alloc | apply pw_below_drewN | apply below_drew1 | refine below_set ?_ GE718.out | refine below_set ?_ GE727.out | refine below_set ?_ GE731.out | refine below_set ?_ GE736.out) | exact HB.out)) hb); (try clear hb); (try clear hb2); (try clear hk); (try clear hi)))
     go_meet
     case rel => exact ⟨_, ((t735 != t726)), (by first | rfl | (simp; done) | (simp [*]; done)), H', ⟨by first | omega | exact Nat.le_refl _⟩, ⟨by exact Kd.R_mono HO730.out (fun _ hk => trivial)⟩, ⟨BK718.out⟩, ⟨BK727.out⟩, ⟨BK731.out⟩, ⟨BK736.out⟩, ⟨HB.out⟩⟩
    ·
     replace c37 := Bool.eq_false_iff.mpr c37
     subst c37
     have H1 : (laws_FnExactLikeliestDescent.j0 k true l0_0 t728) = some r := by rw [if_neg (show ¬ (false = true) by decide)] at H; exact H
     clear H
     have H := H1
     clear H1
     have H' := aM_ H
     clear H
     have hnb46 := NB736_718.out
     have hnc46 := NB718_736.out
     have hnb47 := NB736_727.out
     have hnc47 := NB727_736.out
     have hnb48 := NB736_731.out
     have hnc48 := NB731_736.out
     have hcz49_0 : w30.cell? ⟨gb736, 0, none⟩ = some (.int .i64 0) := (blk_cell BK736.out 0).trans rfl
     have hcz49_1 : w30.cell? ⟨gb736, 1, none⟩ = some (.int .i64 0) := (blk_cell BK736.out 1).trans rfl
     have hfz49_0 := blk_frozen BK736.out 0
     have hfz49_1 := blk_frozen BK736.out 1
     have hnb50 := NB727_718.out
     have hnc50 := NB718_727.out
     have hnb51 := NB727_731.out
     have hnc51 := NB731_727.out
     have hcz52_0 : w30.cell? ⟨gb727, 0, none⟩ = some (.int .i64 t724) := (blk_cell BK727.out 0).trans rfl
     have hcz52_1 : w30.cell? ⟨gb727, 1, none⟩ = some (.int .i64 t725) := (blk_cell BK727.out 1).trans rfl
     have hfz52_0 := blk_frozen BK727.out 0
     have hfz52_1 := blk_frozen BK727.out 1
     go_wp2_with (first | (go_at_call 17; (with_reducible refine (laws_eqIntA2.calls t733 t734 t724 t725 false _ A36.out).mono ?_); rintro e w53 ⟨rfl, hb⟩; replace HO722 := aM_ (Kd.R_below (by exact (Kd.R_mono (Kd.R_far (p := ⟨gb736, 1, none⟩) (Kd.R_far (p := ⟨gb736, 0, none⟩) (Kd.R_types HO722.out BK736.out (by decide)) (fun _ hk => hk.2) (.int .i64 t733)) (fun _ hk => hk.2) (.int .i64 t734)) (fun _ h_ => h_.1))) hb); replace HO730 := aM_ (Kd.R_below (by exact (Kd.R_mono (Kd.R_far (p := ⟨gb736, 1, none⟩) (Kd.R_far (p := ⟨gb736, 0, none⟩) (Kd.R_types HO730.out BK736.out (by decide)) (fun _ hk => hk.2) (.int .i64 t733)) (fun _ hk => hk.2) (.int .i64 t734)) (fun _ h_ => h_.1))) hb); replace BK718 := aM_ (blk_below (g := gb718) (o := .cells #[.slice A0_0 l0_0.length c0_0] 24 (0, 0)) (by refine blk_far ?_ NB718_736.out _; refine blk_far ?_ NB718_736.out _; exact BK718.out) hb); replace BK727 := aM_ (blk_below (g := gb727) (o := .cells #[.int .i64 t724, .int .i64 t725] 26 (0, 0)) (by refine blk_far ?_ NB727_736.out _; refine blk_far ?_ NB727_736.out _; exact BK727.out) hb); replace BK731 := aM_ (blk_below (g := gb731) (o := .cells #[.slice Ao25 t728.length co25] 31 (0, 0)) (by refine blk_far ?_ NB731_736.out _; refine blk_far ?_ NB731_736.out _; exact BK731.out) hb); replace BK736 := aM_ (blk_below (g := gb736) (o := .cells #[.int .i64 t733, .int .i64 t734] 26 (0, 0)) (by refine blk_put (cs := #[.int .i64 t733, .int .i64 0]) ?_ 1 _ rfl; refine blk_put (cs := #[.int .i64 0, .int .i64 0]) ?_ 0 _ rfl; exact BK736.out) hb); replace HB := aM_ (below_step (by repeat (first | (with_reducible first | exact HB.out | apply below_alloc | apply pw_below_drewN | apply below_drew1 | refine below_set ?_ GE718.out | refine below_set ?_ GE727.out | refine below_set ?_ GE731.out | refine below_set ?_ GE736.out) | exact HB.out)) hb); (try clear hb); (try clear hb2); (try clear hk); (try clear hi)))
     go_meet
     case rel => exact ⟨_, (true), (by first | rfl | (simp; done) | (simp [*]; done)), H', ⟨by first | omega | exact Nat.le_refl _⟩, ⟨by exact Kd.R_mono HO730.out (fun _ hk => trivial)⟩, ⟨BK718.out⟩, ⟨BK727.out⟩, ⟨BK731.out⟩, ⟨BK736.out⟩, ⟨HB.out⟩⟩
   ·
    rw [if_neg c35] at H
    have c35b0 : (t732.toList == t723.toList) = false := beq_eq_false_iff_ne.mpr c35
    have c35b1 : (t732.toList != t723.toList) = true := bne_iff_ne.mpr c35
    (first | rw [c35b0] | (simp only [i64_w, i32_w]; rw [c35b0]) | skip)
    have H' := aM_ H
    clear H
    go_wp2
    go_meet
    case rel => exact ⟨_, (true), (by first | rfl | (simp; done) | (simp [*]; done)), H', ⟨by first | omega | exact Nat.le_refl _⟩, ⟨by exact Kd.R_mono (Kd.R_far (p := ⟨gb736, 1, none⟩) (Kd.R_far (p := ⟨gb736, 0, none⟩) (Kd.R_types HO730.out BK736.out (by decide)) (fun _ hk => hk.2) (.int .i64 t733)) (fun _ hk => hk.2) (.int .i64 t734)) (fun _ hk => trivial)⟩, ⟨by refine blk_far ?_ NB718_736.out _; refine blk_far ?_ NB718_736.out _; exact BK718.out⟩, ⟨by refine blk_far ?_ NB727_736.out _; refine blk_far ?_ NB727_736.out _; exact BK727.out⟩, ⟨by refine blk_far ?_ NB731_736.out _; refine blk_far ?_ NB731_736.out _; exact BK731.out⟩, ⟨by refine blk_put (cs := #[.int .i64 t733, .int .i64 0]) ?_ 1 _ rfl; refine blk_put (cs := #[.int .i64 0, .int .i64 0]) ?_ 0 _ rfl; exact BK736.out⟩, ⟨by repeat (first | (with_reducible first | exact HB.out | apply below_alloc | apply pw_below_drewN | apply below_drew1 | refine below_set ?_ GE718.out | refine below_set ?_ GE727.out | refine below_set ?_ GE731.out | refine below_set ?_ GE736.out) | exact HB.out)⟩⟩
  case rest =>
   clear HC11
   try clear c1
   try clear c2
   try clear p2
   try clear c3
   try clear c3b0
   try clear c4
   try clear c5
   try clear c9
   try clear c13
   try clear c15
   try clear c20
   try clear c26
   try clear c27
   try clear c29
   try clear c30
   try clear c31
   try clear c32
   try clear c33
   try clear c35
   try clear c35b0
   try clear c35b1
   try clear c37
   try clear c38
   try clear c39
   try clear c40
   try clear c42
   try clear c43
   try clear c46
   try clear c47
   try clear c48
   try clear c50
   try clear c51
   try clear hcz13_0
   try clear hcz15_0
   try clear hcz21_0
   try clear hcz21_1
   try clear hcz22_0
   try clear hcz28_0
   try clear hcz34_0
   try clear hcz34_1
   try clear hcz41_0
   try clear hcz41_1
   try clear hcz44_0
   try clear hcz44_1
   try clear hcz49_0
   try clear hcz49_1
   try clear hcz52_0
   try clear hcz52_1
   try clear hcz5_0
   try clear hfz13_0
   try clear hfz15_0
   try clear hfz21_0
   try clear hfz21_1
   try clear hfz22_0
   try clear hfz28_0
   try clear hfz34_0
   try clear hfz34_1
   try clear hfz41_0
   try clear hfz41_1
   try clear hfz44_0
   try clear hfz44_1
   try clear hfz49_0
   try clear hfz49_1
   try clear hfz52_0
   try clear hfz52_1
   try clear hfz5_0
   obtain ⟨kq, x44_10, rfl, HA, HJ10, HO_732000, BK718, BK727, BK731, BK736, HB⟩ := hcut
   cases kq with
   | zero => exact absurd HA.out (by simp [laws_FnExactLikeliestDescent.j0])
   | succ kj10 =>
    have H := HA.out
    clear HA
    simp only [laws_FnExactLikeliestDescent.j0] at H
    by_cases c54 : x44_10 = true
    ·
     subst c54
     rw [if_pos rfl] at H
     obtain rfl := Option.some.inj H
     go_wp2
     go_ret
     exact ⟨by first | rfl | (simp [errW_none, errW_some] <;> rfl) | (simp [*, errW_none, errW_some] <;> rfl), by exact HB.out⟩
    ·
     replace c54 := Bool.eq_false_iff.mpr c54
     subst c54
     have H1 : ((laws_toTrie.f kj10 l0_0).bind fun t738 => ((laws_eqTrie.f kj10 t728 t738).bind fun t741 => (if t741 = true then (some true) else (some false)))) = some r := by rw [if_neg (show ¬ (false = true) by decide)] at H; exact H
     clear H
     have H := H1
     clear H1
     replace H := Option.bind_eq_some_iff.mp H
     obtain ⟨t738, A550, H⟩ := H
     try dsimp only at H
     have A55 := aM_ A550
     clear A550
     replace H := Option.bind_eq_some_iff.mp H
     obtain ⟨t741, A560, H⟩ := H
     try dsimp only at H
     have A56 := aM_ A560
     clear A560
     by_cases c57 : t741 = true
     ·
      subst c57
      rw [if_pos rfl] at H
      obtain rfl := Option.some.inj H
      try go_wp2
      have n0_ := aM_ (Kd.R_drew HO_732000.out)
      have n1_ := aM_ (blk_drew BK718.out)
      have n2_ := aM_ (blk_drew BK727.out)
      have n3_ := aM_ (blk_drew BK731.out)
      have n4_ := aM_ (blk_drew BK736.out)
      have n5_ := aM_ (below_drew1 HB.out)
      clear HO_732000
      clear BK718
      clear BK727
      clear BK731
      clear BK736
      clear HB
      have HO_732000 := n0_
      have BK718 := n1_
      have BK727 := n2_
      have BK731 := n3_
      have BK736 := n4_
      have HB := n5_
      clear n0_ n1_ n2_ n3_ n4_ n5_
      refine start_ (n := 5) (S := fun w' => w'.cell? ⟨gb731, 0, none⟩ = some (.slice Ao25 t728.length co25) ∧ w'.cell? ⟨gb718, 0, none⟩ = some (.slice A0_0 l0_0.length c0_0)) (ds := []) #[fy, fy, fy, fy, fy] (by kernel_rfl) rfl rfl ⟨(blk_cell BK731.out 0).trans rfl, (blk_cell BK718.out 0).trans rfl⟩ (fun hHeld => ?_)
      generalize wc.drew = w58 at HO_732000 BK718 BK727 BK731 BK736 HB hHeld ⊢
      refine take_ (i := 0) (N := some 45) (v := ?_) (a' := ?_) #[ty, fy, fy, fy, fy] rfl rfl (by kernel_rfl) (fun _ _ _ h => h) (Or.inl ⟨by rfl, ?_⟩) hHeld ?_ ?_; rotate_left; (rintro w' ⟨s0, s1⟩; go_simp; with_reducible rfl); rotate_left; (simp only [Act.put, sA_, sB_, sC_, i64_w, i32_w]; rfl)
      refine take_ (i := 1) (N := some 46) (v := ?_) (a' := ?_) #[ty, ty, fy, fy, fy] rfl rfl (by kernel_rfl) (fun _ _ _ h => h) (Or.inl ⟨by rfl, ?_⟩) hHeld ?_ ?_; rotate_left; (rintro w' ⟨s0, s1⟩; go_simp; with_reducible rfl); rotate_left; (simp only [Act.put, sA_, sB_, sC_, i64_w, i32_w]; rfl)
      refine one_ (i := 2) (N := some 47) #[ty, ty, ty, fy, fy] rfl rfl (by kernel_rfl) (by decide) (fun K hK => ?_)
      refine goes_ Try.func15 (by kernel_rfl) rfl #[.agg #[.slice A0_0 l0_0.length c0_0]] (by rfl) rfl rfl (by (try simp only [sD_, sE_, sF_]); first | done | rfl | (simp only [sG_, sH_]; rfl)) ?_
      with_reducible refine (laws_toTrie.calls kj10 _ _ l0_0 t738 _ ?side1 ?side2 A55.out).mono ?_
      (case side1 => repeat (first | exact (Kd.C_below HR0_0.out HB.out) | (with_reducible refine Kd.C_alloc ?_ _) | (with_reducible refine Kd.C_drewN ?_ _) | (with_reducible refine Kd.C_drew ?_)))
      (case side2 => exact HC0_0.out)
      rintro e w59 ⟨v739, rfl, ho0, hb⟩
      refine ⟨_, rfl, ?_⟩
      have n0_ := aM_ (Kd.R_elder' HO_732000.out (Kd.R_base ho0) hb)
      have n1_ := aM_ (Kd.R_lower (Kd.R_new' ho0 (Kd.R_lt HO_732000.out)) (below_size HB.out))
      have n2_ := aM_ (blk_below BK718.out hb)
      have n3_ := aM_ (blk_below BK727.out hb)
      have n4_ := aM_ (blk_below BK731.out hb)
      have n5_ := aM_ (blk_below BK736.out hb)
      have n6_ := aM_ (below_step HB.out hb)
      clear HO_732000
      clear BK718
      clear BK727
      clear BK731
      clear BK736
      clear HB
      have HO_732000 := n0_
      have HO740 := n1_
      have BK718 := n2_
      have BK727 := n3_
      have BK731 := n4_
      have BK736 := n5_
      have HB := n6_
      clear n0_ n1_ n2_ n3_ n4_ n5_ n6_
      (try clear hb)
      (try clear hb2)
      (try clear hk)
      (try clear hi)
      (try clear ho0)
      obtain ⟨Ao60, co60, eo60⟩ := Kd.R_slice HO740.out
      (first | subst eo60 | (injection eo60 with f1_ f2_ f3_; have f4_ := f1_.symm; have f5_ := f3_.symm; clear f1_ f2_ f3_; subst f4_; subst f5_))
      refine hK.out _ _ ⟨(blk_cell BK731.out 0).trans rfl, (blk_cell BK718.out 0).trans rfl⟩ (fun hHeld => ?_)
      clear hK K
      refine norm_ (a' := ?_) ?_ ?_; rotate_left; (show Act.put _ (some 47) _ = _; simp only [Act.put, sA_, sB_, sC_, i64_w, i32_w]; rfl)
      refine one_ (i := 3) (N := some 48) #[ty, ty, ty, ty, fy] rfl rfl (by kernel_rfl) (by decide) (fun K hK => ?_)
      refine goes_ Try.func18 (by kernel_rfl) rfl #[.agg #[.slice Ao25 t728.length co25], .agg #[.slice Ao60 t738.length co60]] (by rfl) rfl rfl (by (try simp only [sD_, sE_, sF_]); first | done | rfl | (simp only [sG_, sH_]; rfl)) ?_
      with_reducible refine (laws_eqTrie.calls kj10 _ _ t728 _ _ t738 true _ ?side1 ?side2 ?side3 ?side4 A56.out).mono ?_
      (case side1 => repeat (first | exact (Kd.R_reads' HO_732000.out).2.2 | (with_reducible refine Kd.C_alloc ?_ _) | (with_reducible refine Kd.C_drewN ?_ _) | (with_reducible refine Kd.C_drew ?_)))
      (case side2 => exact (Kd.R_reads' HO_732000.out).2.1)
      (case side3 => repeat (first | exact (Kd.R_reads' HO740.out).2.2 | (with_reducible refine Kd.C_alloc ?_ _) | (with_reducible refine Kd.C_drewN ?_ _) | (with_reducible refine Kd.C_drew ?_)))
      (case side4 => exact (Kd.R_reads' HO740.out).2.1)
      rintro e w61 ⟨rfl, hb⟩
      refine ⟨_, rfl, ?_⟩
      have n0_ := aM_ (Kd.R_below HO_732000.out hb)
      have n1_ := aM_ (Kd.R_below HO740.out hb)
      have n2_ := aM_ (blk_below BK718.out hb)
      have n3_ := aM_ (blk_below BK727.out hb)
      have n4_ := aM_ (blk_below BK731.out hb)
      have n5_ := aM_ (blk_below BK736.out hb)
      have n6_ := aM_ (below_step HB.out hb)
      clear HO_732000
      clear HO740
      clear BK718
      clear BK727
      clear BK731
      clear BK736
      clear HB
      have HO_732000 := n0_
      have HO740 := n1_
      have BK718 := n2_
      have BK727 := n3_
      have BK731 := n4_
      have BK736 := n5_
      have HB := n6_
      clear n0_ n1_ n2_ n3_ n4_ n5_ n6_
      (try clear hb)
      (try clear hb2)
      (try clear hk)
      (try clear hi)
      refine hK.out _ _ ⟨(blk_cell BK731.out 0).trans rfl, (blk_cell BK718.out 0).trans rfl⟩ (fun hHeld => ?_)
      clear hK K
      refine norm_ (a' := ?_) ?_ ?_; rotate_left; (show Act.put _ (some 48) _ = _; simp only [Act.put, sA_, sB_, sC_, i64_w, i32_w]; rfl)
      refine pure_ (i := 4) (N := some 49) (v := ?_) (a' := ?_) #[ty, ty, ty, ty, ty] rfl rfl (by kernel_rfl) (fun _ _ _ h => h) (Or.inl ⟨by rfl, ?_⟩) ?_ ?_; rotate_left; (intro w'; go_simp; with_reducible rfl); rotate_left; (simp only [Act.put, sA_, sB_, sC_, i64_w, i32_w]; rfl)
      refine done_ (by kernel_rfl) ?_
      try go_wp2
      go_ret
      exact ⟨by first | rfl | (simp [errW_none, errW_some] <;> rfl) | (simp [*, errW_none, errW_some] <;> rfl), by exact HB.out⟩
     ·
      replace c57 := Bool.eq_false_iff.mpr c57
      subst c57
      have H1 : (some false) = some r := by rw [if_neg (show ¬ (false = true) by decide)] at H; exact H
      clear H
      have H := H1
      clear H1
      obtain rfl := Option.some.inj H
      try go_wp2
      have n0_ := aM_ (Kd.R_drew HO_732000.out)
      have n1_ := aM_ (blk_drew BK718.out)
      have n2_ := aM_ (blk_drew BK727.out)
      have n3_ := aM_ (blk_drew BK731.out)
      have n4_ := aM_ (blk_drew BK736.out)
      have n5_ := aM_ (below_drew1 HB.out)
      clear HO_732000
      clear BK718
      clear BK727
      clear BK731
      clear BK736
      clear HB
      have HO_732000 := n0_
      have BK718 := n1_
      have BK727 := n2_
      have BK731 := n3_
      have BK736 := n4_
      have HB := n5_
      clear n0_ n1_ n2_ n3_ n4_ n5_
      refine start_ (n := 5) (S := fun w' => w'.cell? ⟨gb731, 0, none⟩ = some (.slice Ao25 t728.length co25) ∧ w'.cell? ⟨gb718, 0, none⟩ = some (.slice A0_0 l0_0.length c0_0)) (ds := []) #[fy, fy, fy, fy, fy] (by kernel_rfl) rfl rfl ⟨(blk_cell BK731.out 0).trans rfl, (blk_cell BK718.out 0).trans rfl⟩ (fun hHeld => ?_)
      generalize wc.drew = w62 at HO_732000 BK718 BK727 BK731 BK736 HB hHeld ⊢
      refine take_ (i := 0) (N := some 45) (v := ?_) (a' := ?_) #[ty, fy, fy, fy, fy] rfl rfl (by kernel_rfl) (fun _ _ _ h => h) (Or.inl ⟨by rfl, ?_⟩) hHeld ?_ ?_; rotate_left; (rintro w' ⟨s0, s1⟩; go_simp; with_reducible rfl); rotate_left; (simp only [Act.put, sA_, sB_, sC_, i64_w, i32_w]; rfl)
      refine take_ (i := 1) (N := some 46) (v := ?_) (a' := ?_) #[ty, ty, fy, fy, fy] rfl rfl (by kernel_rfl) (fun _ _ _ h => h) (Or.inl ⟨by rfl, ?_⟩) hHeld ?_ ?_; rotate_left; (rintro w' ⟨s0, s1⟩; go_simp; with_reducible rfl); rotate_left; (simp only [Act.put, sA_, sB_, sC_, i64_w, i32_w]; rfl)
      refine one_ (i := 2) (N := some 47) #[ty, ty, ty, fy, fy] rfl rfl (by kernel_rfl) (by decide) (fun K hK => ?_)
      refine goes_ Try.func15 (by kernel_rfl) rfl #[.agg #[.slice A0_0 l0_0.length c0_0]] (by rfl) rfl rfl (by (try simp only [sD_, sE_, sF_]); first | done | rfl | (simp only [sG_, sH_]; rfl)) ?_
      with_reducible refine (laws_toTrie.calls kj10 _ _ l0_0 t738 _ ?side1 ?side2 A55.out).mono ?_
      (case side1 => repeat (first | exact (Kd.C_below HR0_0.out HB.out) | (with_reducible refine Kd.C_alloc ?_ _) | (with_reducible refine Kd.C_drewN ?_ _) | (with_reducible refine Kd.C_drew ?_)))
      (case side2 => exact HC0_0.out)
      rintro e w63 ⟨v739, rfl, ho0, hb⟩
      refine ⟨_, rfl, ?_⟩
      have n0_ := aM_ (Kd.R_elder' HO_732000.out (Kd.R_base ho0) hb)
      have n1_ := aM_ (Kd.R_lower (Kd.R_new' ho0 (Kd.R_lt HO_732000.out)) (below_size HB.out))
      have n2_ := aM_ (blk_below BK718.out hb)
      have n3_ := aM_ (blk_below BK727.out hb)
      have n4_ := aM_ (blk_below BK731.out hb)
      have n5_ := aM_ (blk_below BK736.out hb)
      have n6_ := aM_ (below_step HB.out hb)
      clear HO_732000
      clear BK718
      clear BK727
      clear BK731
      clear BK736
      clear HB
      have HO_732000 := n0_
      have HO740 := n1_
      have BK718 := n2_
      have BK727 := n3_
      have BK731 := n4_
      have BK736 := n5_
      have HB := n6_
      clear n0_ n1_ n2_ n3_ n4_ n5_ n6_
      (try clear hb)
      (try clear hb2)
      (try clear hk)
      (try clear hi)
      (try clear ho0)
      obtain ⟨Ao64, co64, eo64⟩ := Kd.R_slice HO740.out
      (first | subst eo64 | (injection eo64 with f1_ f2_ f3_; have f4_ := f1_.symm; have f5_ := f3_.symm; clear f1_ f2_ f3_; subst f4_; subst f5_))
      refine hK.out _ _ ⟨(blk_cell BK731.out 0).trans rfl, (blk_cell BK718.out 0).trans rfl⟩ (fun hHeld => ?_)
      clear hK K
      refine norm_ (a' := ?_) ?_ ?_; rotate_left; (show Act.put _ (some 47) _ = _; simp only [Act.put, sA_, sB_, sC_, i64_w, i32_w]; rfl)
      refine one_ (i := 3) (N := some 48) #[ty, ty, ty, ty, fy] rfl rfl (by kernel_rfl) (by decide) (fun K hK => ?_)
      refine goes_ Try.func18 (by kernel_rfl) rfl #[.agg #[.slice Ao25 t728.length co25], .agg #[.slice Ao64 t738.length co64]] (by rfl) rfl rfl (by (try simp only [sD_, sE_, sF_]); first | done | rfl | (simp only [sG_, sH_]; rfl)) ?_
      with_reducible refine (laws_eqTrie.calls kj10 _ _ t728 _ _ t738 false _ ?side1 ?side2 ?side3 ?side4 A56.out).mono ?_
      (case side1 => repeat (first | exact (Kd.R_reads' HO_732000.out).2.2 | (with_reducible refine Kd.C_alloc ?_ _) | (with_reducible refine Kd.C_drewN ?_ _) | (with_reducible refine Kd.C_drew ?_)))
      (case side2 => exact (Kd.R_reads' HO_732000.out).2.1)
      (case side3 => repeat (first | exact (Kd.R_reads' HO740.out).2.2 | (with_reducible refine Kd.C_alloc ?_ _) | (with_reducible refine Kd.C_drewN ?_ _) | (with_reducible refine Kd.C_drew ?_)))
      (case side4 => exact (Kd.R_reads' HO740.out).2.1)
      rintro e w65 ⟨rfl, hb⟩
      refine ⟨_, rfl, ?_⟩
      have n0_ := aM_ (Kd.R_below HO_732000.out hb)
      have n1_ := aM_ (Kd.R_below HO740.out hb)
      have n2_ := aM_ (blk_below BK718.out hb)
      have n3_ := aM_ (blk_below BK727.out hb)
      have n4_ := aM_ (blk_below BK731.out hb)
      have n5_ := aM_ (blk_below BK736.out hb)
      have n6_ := aM_ (below_step HB.out hb)
      clear HO_732000
      clear HO740
      clear BK718
      clear BK727
      clear BK731
      clear BK736
      clear HB
      have HO_732000 := n0_
      have HO740 := n1_
      have BK718 := n2_
      have BK727 := n3_
      have BK731 := n4_
      have BK736 := n5_
      have HB := n6_
      clear n0_ n1_ n2_ n3_ n4_ n5_ n6_
      (try clear hb)
      (try clear hb2)
      (try clear hk)
      (try clear hi)
      refine hK.out _ _ ⟨(blk_cell BK731.out 0).trans rfl, (blk_cell BK718.out 0).trans rfl⟩ (fun hHeld => ?_)
      clear hK K
      refine norm_ (a' := ?_) ?_ ?_; rotate_left; (show Act.put _ (some 48) _ = _; simp only [Act.put, sA_, sB_, sC_, i64_w, i32_w]; rfl)
      refine pure_ (i := 4) (N := some 49) (v := ?_) (a' := ?_) #[ty, ty, ty, ty, ty] rfl rfl (by kernel_rfl) (fun _ _ _ h => h) (Or.inl ⟨by rfl, ?_⟩) ?_ ?_; rotate_left; (intro w'; go_simp; with_reducible rfl); rotate_left; (simp only [Act.put, sA_, sB_, sC_, i64_w, i32_w]; rfl)
      refine done_ (by kernel_rfl) ?_
      try go_wp2
      go_ret
      exact ⟨by first | rfl | (simp [errW_none, errW_some] <;> rfl) | (simp [*, errW_none, errW_some] <;> rfl), by exact HB.out⟩
def laws_FnExactLikeliestDescent.Pure : Prop := ∀ (l0_0 : List S82), l0_0.length ≤ 9223372036854775807 → ∃ k, laws_FnExactLikeliestDescent.f k l0_0 = some true
theorem laws_FnExactLikeliestDescent.walk (P : laws_FnExactLikeliestDescent.Pure) (w : World) (A0 : Option Addr) (c0 : Nat) (l0_0 : List S82) (hr0 : Kd.C k82 w A0 l0_0.length l0_0) (hc0 : l0_0.length ≤ c0) :
  Calls Try.prog 9 #[.agg #[.slice A0 l0_0.length c0]] w fun e w' => e = .returned (.bool true) ∧ Below w.heap.size w w' := by
 obtain ⟨k, h⟩ := P l0_0 hr0.2.1
 refine (laws_FnExactLikeliestDescent.calls k _ _ l0_0 true w hr0 hc0 h).mono ?_
 rintro e w' ⟨rfl, hd⟩
 exact ⟨rfl, hd⟩
end Go.Proofs.Ytgagmodkjmegeaa.P
namespace Go.Proofs.Ytgagmodkjmegeaa.Pure
open Go.RowKit Go.Proofs.Ytgagmodkjmegeaa.P Go.Proofs.Ytgagmodkjmegeaa.M Go.Proofs.YtgagmodkjmegeaaW.PrintWords Go.Proofs.YtgagmodkjmegeaaW.PrintLast Go.Proofs.YtgagmodkjmegeaaW.PrintMore
set_option linter.unusedVariables false
open Go.Proofs.Ytgagmodkjmegeaa.L
namespace LikeliestDescent
def bg (f : Nat → Int) : Nat → Nat → Nat → Nat
 | 0, _, b => b
 | d + 1, i, b => bg f d (i + 1) (if f i < f b then i else b)
theorem bg_lt (f : Nat → Int) (n : Nat) : ∀ d i b, i + d = n → b < n → bg f d i b < n
 | 0, _, _, _, h => h
 | d + 1, i, b, h, hb => by
  rw [bg]
  refine bg_lt f n d (i + 1) _ (by omega) ?_
  by_cases c : f i < f b
  ·
   rw [if_pos c]; omega
  ·
   rw [if_neg c]; exact hb
def wd (ws : List Txt) (i : Nat) : Int := wrap64 (den (preL ws) ws (ws.getD i []) : Nat)
theorem spec_loop {ws : List Txt} (h : OkW ws) : ∀ d i b, i + d = ws.length → b < ws.length →
  Ev (fun k => spec_LikeliestDescent.l0 k (ws.map B) (B (ws.getD b [])) (i : Int) (trN (preL ws) ws) 1 (wd ws b)) (B (ws.getD (bg (wd ws) d i b) []), 1, wd ws (bg (wd ws) d i b), true) := by
 have h40 := h.len
 have hpl := h.pre
 intro d
 induction d with
 | zero =>
  intro i b h1 h2
  exact Ev.step (fun k => spec_LikeliestDescent.l0.eq_2 ..) (Ev.ifF (by rw [List.length_map]; omega) (Ev.now _))
 | succ d ih =>
  intro i b h1 h2
  have hi : i < ws.length := by omega
  have hm := getD_mem hi
  have hd := descent_ev ws (asc_preL ws) (clo_preL ws) (fun p hp => preL_word h.word hp) (by omega) (ws.getD i []) (by have := h.le _ hm; omega)
  rw [if_pos ⟨self_preL hm, hm⟩] at hd
  refine Ev.step (fun k => spec_LikeliestDescent.l0.eq_2 ..) (Ev.ifT (by rw [List.length_map]; omega) (Ev.ifT (by omega) ?_))
  rw [rdB ws i hi]
  refine Ev.bind hd ?_
  rw [bg, wrap64_succ i (by omega)]
  by_cases c : wd ws i < wd ws b
  ·
   rw [if_pos c]
   exact Ev.ifT c (ih (i + 1) i (by omega) hi)
  ·
   rw [if_neg c]
   exact Ev.ifF c (ih (i + 1) b (by omega) h2)
theorem rd_dens (ws : List Txt) (i : Nat) (hi : i < ws.length) : rd (dens (preL ws) ws ws) (i : Int) = wd ws i := by
 unfold dens wd
 rw [rd_nat, getD_lt 0 (by rw [List.length_map]; exact hi), List.getElem_map, ← getD_lt [] hi]
theorem impl_loop {ws : List Txt} (h : OkW ws) : ∀ d i b, i + d = ws.length → b < ws.length →
  Ev (fun k => impl_LikeliestDescent.l0 k (b : Int) (dens (preL ws) ws ws) (dens (preL ws) ws ws) ((dens (preL ws) ws ws).length : Int) (i : Int) (trN (preL ws) ws)) (B (ws.getD (bg (wd ws) d i b) []), 1, wd ws (bg (wd ws) d i b), true) := by
 have h40 := h.len
 have hdl : (dens (preL ws) ws ws).length = ws.length := by unfold dens; rw [List.length_map]
 intro d
 induction d with
 | zero =>
  intro i b h1 h2
  refine Ev.step (fun k => impl_LikeliestDescent.l0.eq_2 ..) (Ev.ifF (by omega) (Ev.bind (words_ev h) (Ev.ifT (by omega) (Ev.ifT (by rw [List.length_map]; omega) (Ev.ifT (by omega) ?_)))))
  rw [rdB ws b h2, rd_dens ws b h2]
  exact Ev.now _
 | succ d ih =>
  intro i b h1 h2
  have hi : i < ws.length := by omega
  refine Ev.step (fun k => impl_LikeliestDescent.l0.eq_2 ..) (Ev.ifT (by omega) (Ev.ifT (by omega) (Ev.ifT (by omega) (Ev.ifT (by omega) (Ev.ifT (by omega) ?_)))))
  rw [rd_dens ws i hi, rd_dens ws b h2, bg, wrap64_succ i (by omega)]
  by_cases c : wd ws i < wd ws b
  ·
   rw [if_pos c]
   exact Ev.ifT c (ih (i + 1) i (by omega) hi)
  ·
   rw [if_neg c]
   exact Ev.ifF c (ih (i + 1) b (by omega) h2)
theorem both (N : List Nd) : ∃ r : ByteArray × Int × Int × Bool, Ev (fun k => spec_LikeliestDescent.f k N) r ∧ Ev (fun k => impl_LikeliestDescent.f k N) r := by
 unfold spec_LikeliestDescent.f impl_LikeliestDescent.f
 rcases drawn_both N with ⟨ws, h, h0, rfl, e1, e2⟩ | ⟨e1, e2⟩
 ·
  have hpl := h.pre
  have hm := getD_mem h0
  have hd := descent_ev ws (asc_preL ws) (clo_preL ws) (fun p hp => preL_word h.word hp) (by omega) (ws.getD 0 []) (by have := h.le _ hm; omega)
  rw [if_pos ⟨self_preL hm, hm⟩] at hd
  have hr := rdB ws 0 h0
  obtain ⟨n, hn⟩ : ∃ n, ws.length = n + 1 := ⟨ws.length - 1, by omega⟩
  have hi := impl_loop h ws.length 0 0 (by omega) h0
  have hbg : bg (wd ws) ws.length 0 0 = bg (wd ws) n 1 0 := by rw [hn, bg, if_neg (by omega)]
  rw [hbg] at hi
  refine ⟨_, Ev.bind e1 (Ev.ifT rfl (Ev.bind (l2Words_ev h) (Ev.ifT (by rw [List.length_map]; omega) ?_))), Ev.bind e2 (Ev.ifT rfl (Ev.bind (chances_ev h) hi))⟩
  rw [show rdOf ByteArray.empty (ws.map B) 0 = B (ws.getD 0 []) from hr]
  exact Ev.bind hd (spec_loop h n 1 0 (by omega) h0)
 ·
  exact ⟨(⟨#[]⟩, 0, 0, false), Ev.bind e1 (Ev.ifF Bool.false_ne_true (Ev.now _)), Ev.bind e2 (Ev.ifF Bool.false_ne_true (Ev.now _))⟩
end LikeliestDescent
theorem FnExactLikeliestDescent : laws_FnExactLikeliestDescent.Pure := by
 intro l hl
 by_cases hs : l.length ≤ 1048576
 ·
  obtain ⟨r, h1, h2⟩ := LikeliestDescent.both (toN l)
  refine Ev.rounds ?_
  unfold laws_FnExactLikeliestDescent.f
  rw [szTrie_eq l hl, if_pos hs]
  refine Ev.some_bind (Ev.ifF (by omega) (Ev.bind (toTrie_ev l hs) (Ev.bind h1 (Ev.bind (toTrie_ev l hs) (Ev.bind h2 (Ev.ifT rfl ?_))))))
  rw [eqA2_self]
  refine Ev.some_bind (Ev.ifT rfl (Ev.step (fun k => laws_FnExactLikeliestDescent.j0.eq_2 ..) (Ev.ifF (by simp) (Ev.bind (toTrie_ev l hs) (Ev.bind (eqTrie_ev _ (by rw [toN_length]; omega)) (Ev.ifT rfl (Ev.now _)))))))
 ·
  exact ⟨0, by unfold laws_FnExactLikeliestDescent.f; rw [szTrie_eq l hl, if_neg hs]; rfl⟩
end Go.Proofs.Ytgagmodkjmegeaa.Pure
namespace Go.Proofs.Ytgagmodkjmegeaa.fnExactLikeliestDescent
open Go.ChangeShapes Go.WideShapes Go.ChangeAt Go.RowKit Go.Proofs.Ytgagmodkjmegeaa.P
open Go.ChangeMaps (open_string shut_string)
set_option linter.unusedVariables false
theorem own : ownKnob Try.prog.godebug = none := by kernel_rfl
theorem laidOut : laidOutB Try.prog = true := by kernel_rfl
set_option maxRecDepth 100000 in
theorem lifted (os : Os) (started : os.Started) (H : Type) (enc : TypeId × Value → H) :
    ReturnsInHanded {} Try.checked os 9 .any (Rows.fnExactLikeliestDescentSpec.pre6 enc Try.prog Try.f9 Rows.fnExactLikeliestDescentRow.domain false) (Rows.fnExactLikeliestDescentSpec.post enc Try.prog Try.f9 false true false false) := by
  refine returnsInHanded_of_change_sized (C := Try.checked) own started (by kernel_rfl) Try.func9
    (ChangeSpec.witness6 (enc := enc) (C := Try.checked) false ⟨#[], #[.agg #[.slice none 0 0]], []⟩ 8 (by kernel_rfl) (by kernel_rfl) (by kernel_rfl) (by kernel_rfl)) ?_
  intro W base args ds gs before hval0 hW hcnd hsz0 _
  have hsz : (DataW.weightsEach Try.prog (Try.f9.params.toList ++ Rows.fnExactLikeliestDescentSpec.plain.varTypes Try.prog) (ds ++ gs)).all (· ≤ reachBytes) = true := hsz0
  have hval : ∀ (j : Nat) t v, Try.f9.params[j]? = some t → args[j]? = some v → Value.okWide Try.prog W .any base t v := hval0
  have hW' := hW
  obtain ⟨p, q, hA0, hV, rfl, hfz, hnd⟩ := hW
  have hA : DataW.TrodAll enc Try.prog W 0 (fun _ => true) true Try.f9.params.toList args.toList ds p := hA0
  rw [Try.params9] at hA hval hsz
  obtain ⟨v0, vs0, d0, ds0, p0, q0, hargs, rfl, rfl, h0, r0⟩ := trodAll_cons hA
  obtain ⟨rfl, rfl, rfl⟩ := trodAll_nil r0
  obtain rfl : args = #[v0] := by cases args; simp_all
  obtain ⟨rfl, rfl⟩ := trodVars_none hV
  have k0 := h0
  have lt0 : ∀ x ∈ p0, x.block < W.heap.size := by obtain ⟨m, hm⟩ := k0; exact DataW.trod_lt m _ _ _ hm
  obtain ⟨A0, c0, l0, ev0, hc0, hr0⟩ := OT.trie (hval 0 24 v0 rfl rfl) h0
  subst ev0
  clear hA0 hval0 hsz0 hsz
  refine (laws_FnExactLikeliestDescent.walk Pure.FnExactLikeliestDescent W A0 c0 l0 hr0 hc0).mono fun e W' ⟨he, bel⟩ => ?_
  subst he
  exact ⟨_, rfl, _, _, _, [], _, [], hW', trodAll_mk1 (shut_bool Try.underlying4 _), (trodAll_cons_mk (Below.trod laidOut (by kernel_rfl) (of_decide_eq_true (by kernel_rfl)) k0 bel lt0) trodAll_mk0), rfl, bel.frame _, fun h => by cases h⟩
theorem over : Rows.fnExactLikeliestDescentRow.holds Try.pinned (OpenSpec.ofChange Rows.fnExactLikeliestDescentSpec) :=
  OpenClaim.holds_of_wide 9 Try.f9 rfl rfl rfl rfl rfl rfl rfl ⟨rfl, rfl, rfl, rfl, rfl⟩ rfl rfl rfl rfl rfl (by kernel_rfl) Try.func9 (by kernel_rfl)
    (of_decide_eq_true (by kernel_rfl)) (by unfold Func.isWrapper; first | (rw [if_pos (by decide +kernel)]; kernel_rfl) | (rw [if_neg (by decide +kernel)]; exact ⟨rfl, rfl⟩))
    (fun os started H enc _ => lifted os started H enc)
theorem proved : Rows.FnExactLikeliestDescentSaid := over
end Go.Proofs.Ytgagmodkjmegeaa.fnExactLikeliestDescent
namespace Go.Proofs.Ytgagmodkjmegeaa
theorem fnExactLikeliestDescent_holds : Rows.FnExactLikeliestDescentSaid := fnExactLikeliestDescent.proved
end Go.Proofs.Ytgagmodkjmegeaa
