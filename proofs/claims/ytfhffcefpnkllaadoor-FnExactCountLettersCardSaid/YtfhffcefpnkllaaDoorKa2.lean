/-
  Part 3 of what several laws reach in common: functions of the program, each with its contract, and plain lemmas.
  Conditions: those of the given statement, no others.
-/
import Derived.Test.YtfhffcefpnkllaaDoorKaW0
import Derived.WalkKit
import Derived.ProofKit
import Derived.OpenShut
import Derived.Deep.Slices
import Derived.Deep.Fields
import Derived.ChangeSame
import Derived.Lib.SmallJoins
import Derived.Test.YtfhffcefpnkllaaDoorKa0
import Derived.Test.YtfhffcefpnkllaaDoorKa1
set_option linter.unusedVariables false
set_option linter.unusedSimpArgs false
set_option maxHeartbeats 8000000
set_option maxRecDepth 100000
namespace Go.Proofs.YtfhffcefpnkllaaDoor.P
open Go.RowKit Go.Proofs.YtfhffcefpnkllaaDoorW.PrintWords Go.Proofs.YtfhffcefpnkllaaDoorW.PrintLast Go.Proofs.YtfhffcefpnkllaaDoorW.PrintMore
open List renaming setIfInBounds_toArray → sA_, set_cons_zero → sB_, set_cons_succ → sC_, map_toArray → sD_, map_cons → sE_, map_nil → sF_, length_drop → sG_, length_take → sH_
open Bool renaming true → ty, false → fy
open Aside0 renaming mk → aM_
attribute [local go_sem] max2_int min2_int max_two min_two max_three min_three max_four min_four
def laws_eqBranchS.l0 : Nat → List (S56) → List (S56) → Int → Option (Bool)
 | 0, _, _, _ => none
 | k + 1, x0, x1, x5 => if x5 < (x0.length : Int) then (if 0 ≤ x5 then (if x5 < (x1.length : Int) then ((laws_eqBranch.f ((rd_T56 x0 x5).f0) ((rd_T56 x0 x5).f1) ((rd_T56 x0 x5).f2) ((rd_T56 x1 x5).f0) ((rd_T56 x1 x5).f1) ((rd_T56 x1 x5).f2)).bind fun t445 => (if t445 = true then (laws_eqBranchS.l0 k x0 x1 (wrap64 (x5 + 1))) else (some false))) else (none)) else (none)) else (some true)
def laws_eqBranchS.f (k : Nat) (l0 : List (S56)) (l1 : List (S56)) : Option (Bool) := if (l0.length : Int) = (l1.length : Int) then (laws_eqBranchS.l0 k l0 l1 0) else (some false)
theorem laws_eqBranchS.mono_l : ∀ k, (∀ y0 y1 y2, LeO (laws_eqBranchS.l0 k y0 y1 y2) (laws_eqBranchS.l0 (k + 1) y0 y1 y2))
 | 0 => fun _ _ _ r h => by simp [laws_eqBranchS.l0] at h
 | k + 1 => by
  have ih0 := laws_eqBranchS.mono_l k
  ·
   intro y0 y1 y2
   unfold laws_eqBranchS.l0
   repeat' first
   | (with_reducible exact ih0 _ _ _)
   | (with_reducible exact LeO.refl _)
   | (with_reducible exact LeO.none _)
   | (with_reducible refine LeO.ite ?_ ?_)
   | (with_reducible refine LeO.bind ?_ (fun _ => ?_))
   | exact ih0 _ _ _
   | exact LeO.none _
   | refine LeO.ite ?_ ?_
   | refine LeO.bind ?_ (fun _ => ?_)
theorem laws_eqBranchS.mono : ∀ a0 a1 k, LeO (laws_eqBranchS.f k a0 a1) (laws_eqBranchS.f (k + 1) a0 a1) := by
 intro a0 a1 k
 have ih0 := laws_eqBranchS.mono_l k
 unfold laws_eqBranchS.f
 repeat' first
   | (with_reducible exact ih0 _ _ _)
   | (with_reducible exact LeO.refl _)
   | (with_reducible exact LeO.none _)
   | (with_reducible refine LeO.ite ?_ ?_)
   | (with_reducible refine LeO.bind ?_ (fun _ => ?_))
   | exact ih0 _ _ _
   | exact LeO.none _
   | refine LeO.ite ?_ ?_
   | refine LeO.bind ?_ (fun _ => ?_)
def laws_eqBranchS.T6 : Bool × List (List Nat × List Nat) := (true, [([], []), ([], []), ([0, 1], [0, 1]), ([2], [2]), ([], []), ([], []), ([4, 5], [4, 5]), ([6], [6]), ([3, 7], [3, 7]), ([8], [8])])
def laws_eqBranchS.B6 : List Nat := [0, 0, 3, 7, 0, 0, 48, 112, 255, 511]
theorem laws_eqBranchS.tab6 : rtab .any (opsOf Tryd.f25 6) = laws_eqBranchS.T6 := by kernel_rfl
theorem laws_eqBranchS.bits6 : waitsOk laws_eqBranchS.T6.2 laws_eqBranchS.B6 = true := by kernel_rfl
theorem laws_eqBranchS.calls (k : Nat) (A0 : Option Addr) (c0 : Nat) (l0 : List (S56)) (A1 : Option Addr) (c1 : Nat) (l1 : List (S56)) (r : Bool) (w : World) (hr0 : Kd.C k56 w A0 l0.length l0) (hc0 : l0.length ≤ c0) (hr1 : Kd.C k56 w A1 l1.length l1) (hc1 : l1.length ≤ c1) (h : laws_eqBranchS.f k l0 l1 = some r) :
  Calls Tryd.prog 25 #[.slice A0 l0.length c0, .slice A1 l1.length c1] w fun e w' => e = .returned (.bool r) ∧ Below w.heap.size w w' := by
 have hu56 := Tryd.underlying56
 have HR0 := aM_ hr0
 have HC0 := aM_ hc0
 clear hr0 hc0
 have HR1 := aM_ hr1
 have HC1 := aM_ hc1
 clear hr1 hc1
 have HB := aM_ (Below.refl w.heap.size w)
 have H : (if (l0.length : Int) = (l1.length : Int) then (laws_eqBranchS.l0 k l0 l1 0) else (some false)) = some r := h
 clear h
 by_cases c3 : (l0.length : Int) = (l1.length : Int)
 ·
  rw [if_pos c3] at H
  have c3b0 : ((l0.length : Int) == (l1.length : Int)) = true := beq_iff_eq.mpr c3
  have c3b1 : ((l0.length : Int) != (l1.length : Int)) = false := bne_eq_false_iff_eq.mpr c3
  have c3b2 : (l0.length == l1.length) = true := by first | simpa using c3 | (simp at c3 ⊢; omega)
  clear c3
  have H' := aM_ H
  clear H
  go_enter Tryd.func25, Tryd.ntmps25
  go_wp2
  go_loopg [5] k (fun kq v5 w' => ∃ (x5_1 : Int), v5 = .int .i64 x5_1 ∧ Aside0 (laws_eqBranchS.l0 kq l0 l1 x5_1 = some r) ∧ Aside0 (kq ≤ k) ∧ Aside0 (Below w.heap.size w w'))
  case atStart => exact ⟨(0), (by rfl), H', ⟨Nat.le_refl _⟩, ⟨HB.out⟩⟩
  case round =>
   clear H'
   try clear c1
   try clear c2
   try clear p2
   try clear c3
   try clear c3b0
   try clear c3b1
   try clear c3b2
   obtain ⟨x5_1, rfl, HA, HK1, HB⟩ := hrel
   cases gk with
   | zero => exact absurd HA.out (by simp [laws_eqBranchS.l0])
   | succ k1 =>
    have H := HA.out
    clear HA
    simp only [laws_eqBranchS.l0] at H
    by_cases c4 : x5_1 < (l0.length : Int)
    ·
     rw [if_pos c4] at H
     have c4b0 := decide_eq_true c4
     clear c4
     by_cases c5 : 0 ≤ x5_1
     ·
      rw [if_pos c5] at H
      have c5b0 := decide_eq_true c5
      clear c5
      by_cases c6 : x5_1 < (l1.length : Int)
      ·
       rw [if_pos c6] at H
       have c6b0 := decide_eq_true c6
       clear c6
       replace H := Option.bind_eq_some_iff.mp H
       obtain ⟨t445, A70, H⟩ := H
       try dsimp only at H
       have A7 := aM_ A70
       clear A70
       by_cases c8 : t445 = true
       ·
        subst c8
        rw [if_pos rfl] at H
        have H' := aM_ H
        clear H
        try go_wp2
        have n0_ := aM_ (below_drew1 HB.out)
        clear HB
        have HB := n0_
        clear n0_
        have p443 : 0 ≤ (x5_1 : Int) := of_decide_eq_true (by (with_reducible assumption))
        have q443 : x5_1 < (l0.length : Int) := of_decide_eq_true (by (with_reducible assumption))
        obtain ⟨ad443, e443, hx443_0, hx443_1, hx443_2⟩ := at_T56 HR0.out x5_1 p443 q443
        have hw443_2 := hx443_2
        have hw443_1 := hx443_1
        have hw443_0 := hx443_0
        cases e443
        replace hx443_0 := (HB.out.cell (World.block_lt_of_cell? w _ hx443_0)).trans hx443_0
        replace hx443_1 := (HB.out.cell (World.block_lt_of_cell? w _ hx443_1)).trans hx443_1
        replace hx443_2 := (HB.out.cell (World.block_lt_of_cell? w _ hx443_2)).trans hx443_2
        replace p443 := eq_true p443
        replace q443 := eq_true q443
        have p444 : 0 ≤ (x5_1 : Int) := of_decide_eq_true (by (with_reducible assumption))
        have q444 : x5_1 < (l1.length : Int) := of_decide_eq_true (by (with_reducible assumption))
        obtain ⟨ad444, e444, hx444_0, hx444_1, hx444_2⟩ := at_T56 HR1.out x5_1 p444 q444
        have hw444_2 := hx444_2
        have hw444_1 := hx444_1
        have hw444_0 := hx444_0
        cases e444
        replace hx444_0 := (HB.out.cell (World.block_lt_of_cell? w _ hx444_0)).trans hx444_0
        replace hx444_1 := (HB.out.cell (World.block_lt_of_cell? w _ hx444_1)).trans hx444_1
        replace hx444_2 := (HB.out.cell (World.block_lt_of_cell? w _ hx444_2)).trans hx444_2
        replace p444 := eq_true p444
        replace q444 := eq_true q444
        refine start_ (n := 10) (S := fun w' => w'.cell? (ad443.add ((x5_1).toNat * 3)) = some (.string ((rd_T56 l0 x5_1).f0)) ∧ w'.cell? ⟨(ad443.add ((x5_1).toNat * 3)).block, (ad443.add ((x5_1).toNat * 3)).off + 1, none⟩ = some (.int .i64 ((rd_T56 l0 x5_1).f1)) ∧ w'.cell? ⟨(ad443.add ((x5_1).toNat * 3)).block, (ad443.add ((x5_1).toNat * 3)).off + 2, none⟩ = some (.bool ((rd_T56 l0 x5_1).f2)) ∧ w'.cell? (ad444.add ((x5_1).toNat * 3)) = some (.string ((rd_T56 l1 x5_1).f0)) ∧ w'.cell? ⟨(ad444.add ((x5_1).toNat * 3)).block, (ad444.add ((x5_1).toNat * 3)).off + 1, none⟩ = some (.int .i64 ((rd_T56 l1 x5_1).f1)) ∧ w'.cell? ⟨(ad444.add ((x5_1).toNat * 3)).block, (ad444.add ((x5_1).toNat * 3)).off + 2, none⟩ = some (.bool ((rd_T56 l1 x5_1).f2))) (ds := []) #[fy, fy, fy, fy, fy, fy, fy, fy, fy, fy] (by kernel_rfl) rfl rfl ⟨((HB.out.cell (World.block_lt_of_cell? w _ hw443_0)).trans hw443_0), ((HB.out.cell (World.block_lt_of_cell? w _ hw443_1)).trans hw443_1), ((HB.out.cell (World.block_lt_of_cell? w _ hw443_2)).trans hw443_2), ((HB.out.cell (World.block_lt_of_cell? w _ hw444_0)).trans hw444_0), ((HB.out.cell (World.block_lt_of_cell? w _ hw444_1)).trans hw444_1), ((HB.out.cell (World.block_lt_of_cell? w _ hw444_2)).trans hw444_2)⟩ (fun hHeld => ?_); refine with_tabW laws_eqBranchS.tab6 laws_eqBranchS.bits6 (fun HT_ HW_ => ?_)
        generalize wr.drew = w9 at HB hx443_0 hx443_1 hx443_2 hx444_0 hx444_1 hx444_2 hHeld ⊢
        refine pure_ (i := 0) (N := some 17) (v := ?_) (a' := ?_) #[ty, fy, fy, fy, fy, fy, fy, fy, fy, fy] rfl rfl (any_of HT_.out (by kernel_rfl)) (fun _ _ _ h => h) (Or.inl ⟨by rfl, ?_⟩) ?_ ?_; rotate_left; (intro w'; go_simp; with_reducible rfl); rotate_left; (simp only [Act.put, sA_, sB_, sC_, i64_w, i32_w]; rfl)
        refine pure_ (i := 1) (N := some 18) (v := ?_) (a' := ?_) #[ty, ty, fy, fy, fy, fy, fy, fy, fy, fy] rfl rfl (any_of HT_.out (by kernel_rfl)) (fun _ _ _ h => h) (Or.inl ⟨by rfl, ?_⟩) ?_ ?_; rotate_left; (intro w'; go_simp; with_reducible rfl); rotate_left; (simp only [Act.put, sA_, sB_, sC_, i64_w, i32_w]; rfl)
        refine pure_ (i := 2) (N := some 19) (v := ?_) (a' := ?_) #[ty, ty, ty, fy, fy, fy, fy, fy, fy, fy] rfl rfl (any_of HT_.out (by kernel_rfl)) (fun _ _ _ h => h) (Or.inl ⟨by rfl, ?_⟩) ?_ ?_; rotate_left; (intro w'; go_simp; with_reducible rfl); rotate_left; (simp only [Act.put, sA_, sB_, sC_, i64_w, i32_w]; rfl)
        refine pure_ (i := 4) (N := some 21) (v := ?_) (a' := ?_) #[ty, ty, ty, fy, ty, fy, fy, fy, fy, fy] rfl rfl (any_of HT_.out (by kernel_rfl)) (fun _ _ _ h => h) (Or.inl ⟨by rfl, ?_⟩) ?_ ?_; rotate_left; (intro w'; go_simp; with_reducible rfl); rotate_left; (simp only [Act.put, sA_, sB_, sC_, i64_w, i32_w]; rfl)
        refine pure_ (i := 5) (N := some 22) (v := ?_) (a' := ?_) #[ty, ty, ty, fy, ty, ty, fy, fy, fy, fy] rfl rfl (any_of HT_.out (by kernel_rfl)) (fun _ _ _ h => h) (Or.inl ⟨by rfl, ?_⟩) ?_ ?_; rotate_left; (intro w'; go_simp; with_reducible rfl); rotate_left; (simp only [Act.put, sA_, sB_, sC_, i64_w, i32_w]; rfl)
        refine pure_ (i := 6) (N := some 23) (v := ?_) (a' := ?_) #[ty, ty, ty, fy, ty, ty, ty, fy, fy, fy] rfl rfl (any_of HT_.out (by kernel_rfl)) (fun _ _ _ h => h) (Or.inl ⟨by rfl, ?_⟩) ?_ ?_; rotate_left; (intro w'; go_simp; with_reducible rfl); rotate_left; (simp only [Act.put, sA_, sB_, sC_, i64_w, i32_w]; rfl)
        refine take_ (i := 3) (N := some 20) (v := ?_) (a' := ?_) #[ty, ty, ty, ty, ty, ty, ty, fy, fy, fy] rfl rfl (take_ofW HT_.out HW_.out (by kernel_rfl)) (fun _ _ _ h => h) (Or.inl ⟨by rfl, ?_⟩) hHeld ?_ ?_; rotate_left; (rintro w' ⟨s0, s1, s2, s3, s4, s5⟩; go_simp; with_reducible rfl); rotate_left; (simp only [Act.put, sA_, sB_, sC_, i64_w, i32_w]; rfl)
        refine take_ (i := 7) (N := some 24) (v := ?_) (a' := ?_) #[ty, ty, ty, ty, ty, ty, ty, ty, fy, fy] rfl rfl (take_ofW HT_.out HW_.out (by kernel_rfl)) (fun _ _ _ h => h) (Or.inl ⟨by rfl, ?_⟩) hHeld ?_ ?_; rotate_left; (rintro w' ⟨s0, s1, s2, s3, s4, s5⟩; go_simp; with_reducible rfl); rotate_left; (simp only [Act.put, sA_, sB_, sC_, i64_w, i32_w]; rfl)
        refine one_ (i := 8) (N := some 25) #[ty, ty, ty, ty, ty, ty, ty, ty, ty, fy] rfl rfl (one_of HT_.out (by kernel_rfl)) (by decide) (fun K hK => ?_)
        refine goes_ Tryd.func44 (by kernel_rfl) rfl #[.agg #[.string ((rd_T56 l0 x5_1).f0), .int .i64 ((rd_T56 l0 x5_1).f1), .bool ((rd_T56 l0 x5_1).f2)], .agg #[.string ((rd_T56 l1 x5_1).f0), .int .i64 ((rd_T56 l1 x5_1).f1), .bool ((rd_T56 l1 x5_1).f2)]] (by rfl) rfl rfl (by (try simp only [sD_, sE_, sF_]); rfl) ?_
        with_reducible refine (laws_eqBranch.calls ((rd_T56 l0 x5_1).f0) ((rd_T56 l0 x5_1).f1) ((rd_T56 l0 x5_1).f2) ((rd_T56 l1 x5_1).f0) ((rd_T56 l1 x5_1).f1) ((rd_T56 l1 x5_1).f2) true _ A7.out).mono ?_
        rintro e w10 ⟨rfl, hb⟩
        refine ⟨_, rfl, ?_⟩
        have n0_ := aM_ (below_step HB.out hb)
        clear HB
        have HB := n0_
        clear n0_
        (try clear hb)
        (try clear hb2)
        (try clear hk)
        (try clear hi)
        refine hK.out _ _ ⟨((HB.out.cell (World.block_lt_of_cell? w _ hw443_0)).trans hw443_0), ((HB.out.cell (World.block_lt_of_cell? w _ hw443_1)).trans hw443_1), ((HB.out.cell (World.block_lt_of_cell? w _ hw443_2)).trans hw443_2), ((HB.out.cell (World.block_lt_of_cell? w _ hw444_0)).trans hw444_0), ((HB.out.cell (World.block_lt_of_cell? w _ hw444_1)).trans hw444_1), ((HB.out.cell (World.block_lt_of_cell? w _ hw444_2)).trans hw444_2)⟩ (fun hHeld => ?_)
        clear hK K
        refine norm_ (a' := ?_) ?_ ?_; rotate_left; (show Act.put _ (some 25) _ = _; simp only [Act.put, sA_, sB_, sC_, i64_w, i32_w]; rfl)
        refine pure_ (i := 9) (N := some 26) (v := ?_) (a' := ?_) #[ty, ty, ty, ty, ty, ty, ty, ty, ty, ty] rfl rfl (any_of HT_.out (by kernel_rfl)) (fun _ _ _ h => h) (Or.inl ⟨by rfl, ?_⟩) ?_ ?_; rotate_left; (intro w'; go_simp; with_reducible rfl); rotate_left; (simp only [Act.put, sA_, sB_, sC_, i64_w, i32_w]; rfl)
        refine done_ (done_of HT_.out (by kernel_rfl)) ?_
        try go_wp2
        go_roundg k1
        case measure => have := HK1.out; omega
        case rel => exact ⟨(wrap64 (x5_1 + 1)), (by rfl), H', ⟨by have := HK1.out; omega⟩, ⟨HB.out⟩⟩
       ·
        replace c8 := Bool.eq_false_iff.mpr c8
        subst c8
        have H1 : (some false) = some r := by rw [if_neg (show ¬ (false = true) by decide)] at H; exact H
        clear H
        have H := H1
        clear H1
        obtain rfl := Option.some.inj H
        try go_wp2
        have n0_ := aM_ (below_drew1 HB.out)
        clear HB
        have HB := n0_
        clear n0_
        have p443 : 0 ≤ (x5_1 : Int) := of_decide_eq_true (by (with_reducible assumption))
        have q443 : x5_1 < (l0.length : Int) := of_decide_eq_true (by (with_reducible assumption))
        obtain ⟨ad443, e443, hx443_0, hx443_1, hx443_2⟩ := at_T56 HR0.out x5_1 p443 q443
        have hw443_2 := hx443_2
        have hw443_1 := hx443_1
        have hw443_0 := hx443_0
        cases e443
        replace hx443_0 := (HB.out.cell (World.block_lt_of_cell? w _ hx443_0)).trans hx443_0
        replace hx443_1 := (HB.out.cell (World.block_lt_of_cell? w _ hx443_1)).trans hx443_1
        replace hx443_2 := (HB.out.cell (World.block_lt_of_cell? w _ hx443_2)).trans hx443_2
        replace p443 := eq_true p443
        replace q443 := eq_true q443
        have p444 : 0 ≤ (x5_1 : Int) := of_decide_eq_true (by (with_reducible assumption))
        have q444 : x5_1 < (l1.length : Int) := of_decide_eq_true (by (with_reducible assumption))
        obtain ⟨ad444, e444, hx444_0, hx444_1, hx444_2⟩ := at_T56 HR1.out x5_1 p444 q444
        have hw444_2 := hx444_2
        have hw444_1 := hx444_1
        have hw444_0 := hx444_0
        cases e444
        replace hx444_0 := (HB.out.cell (World.block_lt_of_cell? w _ hx444_0)).trans hx444_0
        replace hx444_1 := (HB.out.cell (World.block_lt_of_cell? w _ hx444_1)).trans hx444_1
        replace hx444_2 := (HB.out.cell (World.block_lt_of_cell? w _ hx444_2)).trans hx444_2
        replace p444 := eq_true p444
        replace q444 := eq_true q444
        refine start_ (n := 10) (S := fun w' => w'.cell? (ad443.add ((x5_1).toNat * 3)) = some (.string ((rd_T56 l0 x5_1).f0)) ∧ w'.cell? ⟨(ad443.add ((x5_1).toNat * 3)).block, (ad443.add ((x5_1).toNat * 3)).off + 1, none⟩ = some (.int .i64 ((rd_T56 l0 x5_1).f1)) ∧ w'.cell? ⟨(ad443.add ((x5_1).toNat * 3)).block, (ad443.add ((x5_1).toNat * 3)).off + 2, none⟩ = some (.bool ((rd_T56 l0 x5_1).f2)) ∧ w'.cell? (ad444.add ((x5_1).toNat * 3)) = some (.string ((rd_T56 l1 x5_1).f0)) ∧ w'.cell? ⟨(ad444.add ((x5_1).toNat * 3)).block, (ad444.add ((x5_1).toNat * 3)).off + 1, none⟩ = some (.int .i64 ((rd_T56 l1 x5_1).f1)) ∧ w'.cell? ⟨(ad444.add ((x5_1).toNat * 3)).block, (ad444.add ((x5_1).toNat * 3)).off + 2, none⟩ = some (.bool ((rd_T56 l1 x5_1).f2))) (ds := []) #[fy, fy, fy, fy, fy, fy, fy, fy, fy, fy] (by kernel_rfl) rfl rfl ⟨((HB.out.cell (World.block_lt_of_cell? w _ hw443_0)).trans hw443_0), ((HB.out.cell (World.block_lt_of_cell? w _ hw443_1)).trans hw443_1), ((HB.out.cell (World.block_lt_of_cell? w _ hw443_2)).trans hw443_2), ((HB.out.cell (World.block_lt_of_cell? w _ hw444_0)).trans hw444_0), ((HB.out.cell (World.block_lt_of_cell? w _ hw444_1)).trans hw444_1), ((HB.out.cell (World.block_lt_of_cell? w _ hw444_2)).trans hw444_2)⟩ (fun hHeld => ?_); refine with_tabW laws_eqBranchS.tab6 laws_eqBranchS.bits6 (fun HT_ HW_ => ?_)
        generalize wr.drew = w11 at HB hx443_0 hx443_1 hx443_2 hx444_0 hx444_1 hx444_2 hHeld ⊢
        refine pure_ (i := 0) (N := some 17) (v := ?_) (a' := ?_) #[ty, fy, fy, fy, fy, fy, fy, fy, fy, fy] rfl rfl (any_of HT_.out (by kernel_rfl)) (fun _ _ _ h => h) (Or.inl ⟨by rfl, ?_⟩) ?_ ?_; rotate_left; (intro w'; go_simp; with_reducible rfl); rotate_left; (simp only [Act.put, sA_, sB_, sC_, i64_w, i32_w]; rfl)
        refine pure_ (i := 1) (N := some 18) (v := ?_) (a' := ?_) #[ty, ty, fy, fy, fy, fy, fy, fy, fy, fy] rfl rfl (any_of HT_.out (by kernel_rfl)) (fun _ _ _ h => h) (Or.inl ⟨by rfl, ?_⟩) ?_ ?_; rotate_left; (intro w'; go_simp; with_reducible rfl); rotate_left; (simp only [Act.put, sA_, sB_, sC_, i64_w, i32_w]; rfl)
        refine pure_ (i := 2) (N := some 19) (v := ?_) (a' := ?_) #[ty, ty, ty, fy, fy, fy, fy, fy, fy, fy] rfl rfl (any_of HT_.out (by kernel_rfl)) (fun _ _ _ h => h) (Or.inl ⟨by rfl, ?_⟩) ?_ ?_; rotate_left; (intro w'; go_simp; with_reducible rfl); rotate_left; (simp only [Act.put, sA_, sB_, sC_, i64_w, i32_w]; rfl)
        refine pure_ (i := 4) (N := some 21) (v := ?_) (a' := ?_) #[ty, ty, ty, fy, ty, fy, fy, fy, fy, fy] rfl rfl (any_of HT_.out (by kernel_rfl)) (fun _ _ _ h => h) (Or.inl ⟨by rfl, ?_⟩) ?_ ?_; rotate_left; (intro w'; go_simp; with_reducible rfl); rotate_left; (simp only [Act.put, sA_, sB_, sC_, i64_w, i32_w]; rfl)
        refine pure_ (i := 5) (N := some 22) (v := ?_) (a' := ?_) #[ty, ty, ty, fy, ty, ty, fy, fy, fy, fy] rfl rfl (any_of HT_.out (by kernel_rfl)) (fun _ _ _ h => h) (Or.inl ⟨by rfl, ?_⟩) ?_ ?_; rotate_left; (intro w'; go_simp; with_reducible rfl); rotate_left; (simp only [Act.put, sA_, sB_, sC_, i64_w, i32_w]; rfl)
        refine pure_ (i := 6) (N := some 23) (v := ?_) (a' := ?_) #[ty, ty, ty, fy, ty, ty, ty, fy, fy, fy] rfl rfl (any_of HT_.out (by kernel_rfl)) (fun _ _ _ h => h) (Or.inl ⟨by rfl, ?_⟩) ?_ ?_; rotate_left; (intro w'; go_simp; with_reducible rfl); rotate_left; (simp only [Act.put, sA_, sB_, sC_, i64_w, i32_w]; rfl)
        refine take_ (i := 3) (N := some 20) (v := ?_) (a' := ?_) #[ty, ty, ty, ty, ty, ty, ty, fy, fy, fy] rfl rfl (take_ofW HT_.out HW_.out (by kernel_rfl)) (fun _ _ _ h => h) (Or.inl ⟨by rfl, ?_⟩) hHeld ?_ ?_; rotate_left; (rintro w' ⟨s0, s1, s2, s3, s4, s5⟩; go_simp; with_reducible rfl); rotate_left; (simp only [Act.put, sA_, sB_, sC_, i64_w, i32_w]; rfl)
        refine take_ (i := 7) (N := some 24) (v := ?_) (a' := ?_) #[ty, ty, ty, ty, ty, ty, ty, ty, fy, fy] rfl rfl (take_ofW HT_.out HW_.out (by kernel_rfl)) (fun _ _ _ h => h) (Or.inl ⟨by rfl, ?_⟩) hHeld ?_ ?_; rotate_left; (rintro w' ⟨s0, s1, s2, s3, s4, s5⟩; go_simp; with_reducible rfl); rotate_left; (simp only [Act.put, sA_, sB_, sC_, i64_w, i32_w]; rfl)
        refine one_ (i := 8) (N := some 25) #[ty, ty, ty, ty, ty, ty, ty, ty, ty, fy] rfl rfl (one_of HT_.out (by kernel_rfl)) (by decide) (fun K hK => ?_)
        refine goes_ Tryd.func44 (by kernel_rfl) rfl #[.agg #[.string ((rd_T56 l0 x5_1).f0), .int .i64 ((rd_T56 l0 x5_1).f1), .bool ((rd_T56 l0 x5_1).f2)], .agg #[.string ((rd_T56 l1 x5_1).f0), .int .i64 ((rd_T56 l1 x5_1).f1), .bool ((rd_T56 l1 x5_1).f2)]] (by rfl) rfl rfl (by (try simp only [sD_, sE_, sF_]); rfl) ?_
        with_reducible refine (laws_eqBranch.calls ((rd_T56 l0 x5_1).f0) ((rd_T56 l0 x5_1).f1) ((rd_T56 l0 x5_1).f2) ((rd_T56 l1 x5_1).f0) ((rd_T56 l1 x5_1).f1) ((rd_T56 l1 x5_1).f2) false _ A7.out).mono ?_
        rintro e w12 ⟨rfl, hb⟩
        refine ⟨_, rfl, ?_⟩
        have n0_ := aM_ (below_step HB.out hb)
        clear HB
        have HB := n0_
        clear n0_
        (try clear hb)
        (try clear hb2)
        (try clear hk)
        (try clear hi)
        refine hK.out _ _ ⟨((HB.out.cell (World.block_lt_of_cell? w _ hw443_0)).trans hw443_0), ((HB.out.cell (World.block_lt_of_cell? w _ hw443_1)).trans hw443_1), ((HB.out.cell (World.block_lt_of_cell? w _ hw443_2)).trans hw443_2), ((HB.out.cell (World.block_lt_of_cell? w _ hw444_0)).trans hw444_0), ((HB.out.cell (World.block_lt_of_cell? w _ hw444_1)).trans hw444_1), ((HB.out.cell (World.block_lt_of_cell? w _ hw444_2)).trans hw444_2)⟩ (fun hHeld => ?_)
        clear hK K
        refine norm_ (a' := ?_) ?_ ?_; rotate_left; (show Act.put _ (some 25) _ = _; simp only [Act.put, sA_, sB_, sC_, i64_w, i32_w]; rfl)
        refine pure_ (i := 9) (N := some 26) (v := ?_) (a' := ?_) #[ty, ty, ty, ty, ty, ty, ty, ty, ty, ty] rfl rfl (any_of HT_.out (by kernel_rfl)) (fun _ _ _ h => h) (Or.inl ⟨by rfl, ?_⟩) ?_ ?_; rotate_left; (intro w'; go_simp; with_reducible rfl); rotate_left; (simp only [Act.put, sA_, sB_, sC_, i64_w, i32_w]; rfl)
        refine done_ (done_of HT_.out (by kernel_rfl)) ?_
        try go_wp2
        go_ret
        exact ⟨by rfl, by exact HB.out⟩
      ·
       rw [if_neg c6] at H
       exact absurd H (by simp)
     ·
      rw [if_neg c5] at H
      exact absurd H (by simp)
    ·
     rw [if_neg c4] at H
     have c4b0 := decide_eq_false c4
     clear c4
     obtain rfl := Option.some.inj H
     go_wp2
     go_ret
     exact ⟨by rfl, by exact HB.out⟩
 ·
  rw [if_neg c3] at H
  have c3b0 : ((l0.length : Int) == (l1.length : Int)) = false := beq_eq_false_iff_ne.mpr c3
  have c3b1 : ((l0.length : Int) != (l1.length : Int)) = true := bne_iff_ne.mpr c3
  have c3b2 : (l0.length == l1.length) = false := by first | simpa using c3 | (simp at c3 ⊢; omega)
  obtain rfl := Option.some.inj H
  go_enter Tryd.func25, Tryd.ntmps25
  go_wp2
  go_ret
  exact ⟨by rfl, by exact HB.out⟩
def laws_eqPressed.f (k : Nat) (l0_0 : List (S56)) (l1_0 : List (S56)) : Option (Bool) := (laws_eqBranchS.f k l0_0 l1_0).bind fun t448 => (if t448 = true then (some true) else (some false))
theorem laws_eqPressed.mono : ∀ a0 a1 k, LeO (laws_eqPressed.f k a0 a1) (laws_eqPressed.f (k + 1) a0 a1) := by
 intro a0 a1 k
 unfold laws_eqPressed.f
 repeat' first
   | (with_reducible exact laws_eqBranchS.mono _ _ _)
   | (with_reducible exact LeO.refl _)
   | (with_reducible exact LeO.none _)
   | (with_reducible refine LeO.ite ?_ ?_)
   | (with_reducible refine LeO.bind ?_ (fun _ => ?_))
   | exact laws_eqBranchS.mono _ _ _
   | exact LeO.none _
   | refine LeO.ite ?_ ?_
   | refine LeO.bind ?_ (fun _ => ?_)
theorem laws_eqPressed.calls (k : Nat) (A0_0 : Option Addr) (c0_0 : Nat) (l0_0 : List (S56)) (A1_0 : Option Addr) (c1_0 : Nat) (l1_0 : List (S56)) (r : Bool) (w : World) (hr0_0 : Kd.C k56 w A0_0 l0_0.length l0_0) (hc0_0 : l0_0.length ≤ c0_0) (hr1_0 : Kd.C k56 w A1_0 l1_0.length l1_0) (hc1_0 : l1_0.length ≤ c1_0) (h : laws_eqPressed.f k l0_0 l1_0 = some r) :
  Calls Tryd.prog 12 #[.agg #[.slice A0_0 l0_0.length c0_0], .agg #[.slice A1_0 l1_0.length c1_0]] w fun e w' => e = .returned (.bool r) ∧ Below w.heap.size w w' := by
 have hu29 := Tryd.underlying29
 have HR0_0 := aM_ hr0_0
 have HC0_0 := aM_ hc0_0
 clear hr0_0 hc0_0
 have HR1_0 := aM_ hr1_0
 have HC1_0 := aM_ hc1_0
 clear hr1_0 hc1_0
 have HB := aM_ (Below.refl w.heap.size w)
 have H : ((laws_eqBranchS.f k l0_0 l1_0).bind fun t448 => (if t448 = true then (some true) else (some false))) = some r := h
 clear h
 replace H := Option.bind_eq_some_iff.mp H
 obtain ⟨t448, A30, H⟩ := H
 try dsimp only at H
 have A3 := aM_ A30
 clear A30
 by_cases c4 : t448 = true
 ·
  subst c4
  rw [if_pos rfl] at H
  obtain rfl := Option.some.inj H
  go_enter Tryd.func12, Tryd.ntmps12
  go_wp2_with (first | ((with_reducible refine gate_dst (N := 2) rfl ?_); refine box_event ?hg (N := 2) ?hd (cs := #[.slice A0_0 l0_0.length c0_0]) (t := 29) ?hr ?_; (case hd => rfl); (case hg => rfl); (case hr => (go_simp; done)); intro gb446 hg w5 hbox hb; have BK446 := aM_ (hbox); have GW446 := aM_ ((by rw [hg]; exact (below_size HB.out) : w.heap.size ≤ gb446)); have GE446 := GW446; replace HB := aM_ (below_step HB.out hb); clear hb hbox hg) | ((with_reducible refine gate_dst (N := 3) rfl ?_); refine box_event ?hg (N := 3) ?hd (cs := #[.slice A1_0 l1_0.length c1_0]) (t := 29) ?hr ?_; (case hd => rfl); (case hg => rfl); (case hr => (go_simp; done)); intro gb447 hg w6 hbox hb; have BK447 := aM_ (hbox); have GW447 := aM_ ((by rw [hg]; exact (below_size HB.out) : w.heap.size ≤ gb447)); have GE447 := GW447; replace HB := aM_ (below_step HB.out hb); have NB446_447 := aM_ ((by rw [hg]; exact Nat.ne_of_lt (blk_lt BK446.out) : gb446 ≠ gb447)); have NB447_446 := aM_ NB446_447.out.symm; replace BK446 := aM_ (blk_below BK446.out hb); clear hb hbox hg; have hnb7 := NB446_447.out; have hnc7 := NB447_446.out; have hcz8_0 : w6.cell? ⟨gb446, 0, none⟩ = some (.slice A0_0 l0_0.length c0_0) := (blk_cell BK446.out 0).trans rfl; have hfz8_0 := blk_frozen BK446.out 0; have hcz9_0 : w6.cell? ⟨gb447, 0, none⟩ = some (.slice A1_0 l1_0.length c1_0) := (blk_cell BK447.out 0).trans rfl; have hfz9_0 := blk_frozen BK447.out 0) | ((with_reducible refine gate_callee (f := 25) rfl ?_); refine goesL_ (some 9) rfl rfl Tryd.func25 (by kernel_rfl) rfl #[.slice A0_0 l0_0.length c0_0, .slice A1_0 l1_0.length c1_0] rfl (by (try simp only [sD_, sE_, sF_]); rfl) ?_; (with_reducible refine (laws_eqBranchS.calls k _ _ l0_0 _ _ l1_0 true _ ?side1 ?side2 ?side3 ?side4 A3.out).mono ?_); (case side1 => repeat (first | exact (Kd.C_below HR0_0.out HB.out) | (with_reducible refine Kd.C_alloc ?_ _) | (with_reducible refine Kd.C_drewN ?_ _) | (with_reducible refine Kd.C_drew ?_))); (case side2 => exact HC0_0.out); (case side3 => repeat (first | exact (Kd.C_below HR1_0.out HB.out) | (with_reducible refine Kd.C_alloc ?_ _) | (with_reducible refine Kd.C_drewN ?_ _) | (with_reducible refine Kd.C_drew ?_))); (case side4 => exact HC1_0.out); rintro e w10 ⟨rfl, hb⟩; refine ⟨_, rfl, ?_⟩; replace BK446 := aM_ (blk_below BK446.out hb); replace BK447 := aM_ (blk_below BK447.out hb); replace HB := aM_ (below_step HB.out hb); (try clear hb); (try clear hb2); (try clear hk); (try clear hi)))
  go_ret
  exact ⟨by rfl, by exact HB.out⟩
 ·
  replace c4 := Bool.eq_false_iff.mpr c4
  subst c4
  have H1 : (some false) = some r := by rw [if_neg (show ¬ (false = true) by decide)] at H; exact H
  clear H
  have H := H1
  clear H1
  obtain rfl := Option.some.inj H
  go_enter Tryd.func12, Tryd.ntmps12
  go_wp2_with (first | ((with_reducible refine gate_dst (N := 2) rfl ?_); refine box_event ?hg (N := 2) ?hd (cs := #[.slice A0_0 l0_0.length c0_0]) (t := 29) ?hr ?_; (case hd => rfl); (case hg => rfl); (case hr => (go_simp; done)); intro gb446 hg w11 hbox hb; have BK446 := aM_ (hbox); have GW446 := aM_ ((by rw [hg]; exact (below_size HB.out) : w.heap.size ≤ gb446)); have GE446 := GW446; replace HB := aM_ (below_step HB.out hb); clear hb hbox hg) | ((with_reducible refine gate_dst (N := 3) rfl ?_); refine box_event ?hg (N := 3) ?hd (cs := #[.slice A1_0 l1_0.length c1_0]) (t := 29) ?hr ?_; (case hd => rfl); (case hg => rfl); (case hr => (go_simp; done)); intro gb447 hg w12 hbox hb; have BK447 := aM_ (hbox); have GW447 := aM_ ((by rw [hg]; exact (below_size HB.out) : w.heap.size ≤ gb447)); have GE447 := GW447; replace HB := aM_ (below_step HB.out hb); have NB446_447 := aM_ ((by rw [hg]; exact Nat.ne_of_lt (blk_lt BK446.out) : gb446 ≠ gb447)); have NB447_446 := aM_ NB446_447.out.symm; replace BK446 := aM_ (blk_below BK446.out hb); clear hb hbox hg; have hnb13 := NB446_447.out; have hnc13 := NB447_446.out; have hcz14_0 : w12.cell? ⟨gb446, 0, none⟩ = some (.slice A0_0 l0_0.length c0_0) := (blk_cell BK446.out 0).trans rfl; have hfz14_0 := blk_frozen BK446.out 0; have hcz15_0 : w12.cell? ⟨gb447, 0, none⟩ = some (.slice A1_0 l1_0.length c1_0) := (blk_cell BK447.out 0).trans rfl; have hfz15_0 := blk_frozen BK447.out 0) | ((with_reducible refine gate_callee (f := 25) rfl ?_); refine goesL_ (some 9) rfl rfl Tryd.func25 (by kernel_rfl) rfl #[.slice A0_0 l0_0.length c0_0, .slice A1_0 l1_0.length c1_0] rfl (by (try simp only [sD_, sE_, sF_]); rfl) ?_; (with_reducible refine (laws_eqBranchS.calls k _ _ l0_0 _ _ l1_0 false _ ?side1 ?side2 ?side3 ?side4 A3.out).mono ?_); (case side1 => repeat (first | exact (Kd.C_below HR0_0.out HB.out) | (with_reducible refine Kd.C_alloc ?_ _) | (with_reducible refine Kd.C_drewN ?_ _) | (with_reducible refine Kd.C_drew ?_))); (case side2 => exact HC0_0.out); (case side3 => repeat (first | exact (Kd.C_below HR1_0.out HB.out) | (with_reducible refine Kd.C_alloc ?_ _) | (with_reducible refine Kd.C_drewN ?_ _) | (with_reducible refine Kd.C_drew ?_))); (case side4 => exact HC1_0.out); rintro e w16 ⟨rfl, hb⟩; refine ⟨_, rfl, ?_⟩; replace BK446 := aM_ (blk_below BK446.out hb); replace BK447 := aM_ (blk_below BK447.out hb); replace HB := aM_ (below_step HB.out hb); (try clear hb); (try clear hb2); (try clear hk); (try clear hi)))
  go_ret
  exact ⟨by rfl, by exact HB.out⟩
def laws_szBranch.f (a0_0 : ByteArray) (a0_1 : Int) (a0_2 : Bool) (a1 : Int) : Option (Int) := if (wrap64 (a1 - (a0_0.size : Int))) < 0 then (some (-1)) else (some (wrap64 (a1 - (a0_0.size : Int))))
theorem laws_szBranch.calls (a0_0 : ByteArray) (a0_1 : Int) (a0_2 : Bool) (a1 : Int) (r : Int) (w : World) (h : laws_szBranch.f a0_0 a0_1 a0_2 a1 = some r) :
  Calls Tryd.prog 35 #[.agg #[.string a0_0, .int .i64 a0_1, .bool a0_2], .int .i64 a1] w fun e w' => e = .returned (.int .i64 r) ∧ Below w.heap.size w w' := by
 have hu61 := Tryd.underlying61
 have HB := aM_ (Below.refl w.heap.size w)
 have H : (if (wrap64 (a1 - (a0_0.size : Int))) < 0 then (some (-1)) else (some (wrap64 (a1 - (a0_0.size : Int))))) = some r := h
 clear h
 by_cases c3 : (wrap64 (a1 - (a0_0.size : Int))) < 0
 ·
  rw [if_pos c3] at H
  have c3b0 := decide_eq_true c3
  clear c3
  obtain rfl := Option.some.inj H
  go_enter Tryd.func35, Tryd.ntmps35
  go_wp2_with (first | ((with_reducible refine gate_dst (N := 2) rfl ?_); refine box_event ?hg (N := 2) ?hd (cs := #[.string a0_0, .int .i64 a0_1, .bool a0_2]) (t := 61) ?hr ?_; (case hd => rfl); (case hg => rfl); (case hr => (go_simp; done)); intro gb101 hg w4 hbox hb; have BK101 := aM_ (hbox); have GW101 := aM_ ((by rw [hg]; exact (below_size HB.out) : w.heap.size ≤ gb101)); have GE101 := GW101; replace HB := aM_ (below_step HB.out hb); clear hb hbox hg; have hcz5_0 : w4.cell? ⟨gb101, 0, none⟩ = some (.string a0_0) := (blk_cell BK101.out 0).trans rfl; have hcz5_1 : w4.cell? ⟨gb101, 1, none⟩ = some (.int .i64 a0_1) := (blk_cell BK101.out 1).trans rfl; have hcz5_2 : w4.cell? ⟨gb101, 2, none⟩ = some (.bool a0_2) := (blk_cell BK101.out 2).trans rfl; have hfz5_0 := blk_frozen BK101.out 0; have hfz5_1 := blk_frozen BK101.out 1; have hfz5_2 := blk_frozen BK101.out 2))
  go_ret
  exact ⟨by rfl, by exact HB.out⟩
 ·
  rw [if_neg c3] at H
  have c3b0 := decide_eq_false c3
  clear c3
  obtain rfl := Option.some.inj H
  go_enter Tryd.func35, Tryd.ntmps35
  go_wp2_with (first | ((with_reducible refine gate_dst (N := 2) rfl ?_); refine box_event ?hg (N := 2) ?hd (cs := #[.string a0_0, .int .i64 a0_1, .bool a0_2]) (t := 61) ?hr ?_; (case hd => rfl); (case hg => rfl); (case hr => (go_simp; done)); intro gb101 hg w6 hbox hb; have BK101 := aM_ (hbox); have GW101 := aM_ ((by rw [hg]; exact (below_size HB.out) : w.heap.size ≤ gb101)); have GE101 := GW101; replace HB := aM_ (below_step HB.out hb); clear hb hbox hg; have hcz7_0 : w6.cell? ⟨gb101, 0, none⟩ = some (.string a0_0) := (blk_cell BK101.out 0).trans rfl; have hcz7_1 : w6.cell? ⟨gb101, 1, none⟩ = some (.int .i64 a0_1) := (blk_cell BK101.out 1).trans rfl; have hcz7_2 : w6.cell? ⟨gb101, 2, none⟩ = some (.bool a0_2) := (blk_cell BK101.out 2).trans rfl; have hfz7_0 := blk_frozen BK101.out 0; have hfz7_1 := blk_frozen BK101.out 1; have hfz7_2 := blk_frozen BK101.out 2))
  go_ret
  exact ⟨by rfl, by exact HB.out⟩
def laws_szBranchS.l0 : Nat → List (S61) → Int → Int → Option (Int)
 | 0, _, _, _ => none
 | k + 1, x0, x1, x5 => if x5 < (x0.length : Int) then (if 0 ≤ x5 then ((laws_szBranch.f ((rd_T61 x0 x5).f0) ((rd_T61 x0 x5).f1) ((rd_T61 x0 x5).f2) x1).bind fun t103 => (if t103 < 0 then (some (-1)) else (laws_szBranchS.l0 k x0 t103 (wrap64 (x5 + 1))))) else (none)) else (some x1)
def laws_szBranchS.f (k : Nat) (l0 : List (S61)) (a1 : Int) : Option (Int) := if (wrap64 (a1 - (l0.length : Int))) < 0 then (some (-1)) else (laws_szBranchS.l0 k l0 (wrap64 (a1 - (l0.length : Int))) 0)
theorem laws_szBranchS.mono_l : ∀ k, (∀ y0 y1 y2, LeO (laws_szBranchS.l0 k y0 y1 y2) (laws_szBranchS.l0 (k + 1) y0 y1 y2))
 | 0 => fun _ _ _ r h => by simp [laws_szBranchS.l0] at h
 | k + 1 => by
  have ih0 := laws_szBranchS.mono_l k
  ·
   intro y0 y1 y2
   unfold laws_szBranchS.l0
   repeat' first
   | (with_reducible exact ih0 _ _ _)
   | (with_reducible exact LeO.refl _)
   | (with_reducible exact LeO.none _)
   | (with_reducible refine LeO.ite ?_ ?_)
   | (with_reducible refine LeO.bind ?_ (fun _ => ?_))
   | exact ih0 _ _ _
   | exact LeO.none _
   | refine LeO.ite ?_ ?_
   | refine LeO.bind ?_ (fun _ => ?_)
theorem laws_szBranchS.mono : ∀ a0 a1 k, LeO (laws_szBranchS.f k a0 a1) (laws_szBranchS.f (k + 1) a0 a1) := by
 intro a0 a1 k
 have ih0 := laws_szBranchS.mono_l k
 unfold laws_szBranchS.f
 repeat' first
   | (with_reducible exact ih0 _ _ _)
   | (with_reducible exact LeO.refl _)
   | (with_reducible exact LeO.none _)
   | (with_reducible refine LeO.ite ?_ ?_)
   | (with_reducible refine LeO.bind ?_ (fun _ => ?_))
   | exact ih0 _ _ _
   | exact LeO.none _
   | refine LeO.ite ?_ ?_
   | refine LeO.bind ?_ (fun _ => ?_)
theorem laws_szBranchS.calls (k : Nat) (A0 : Option Addr) (c0 : Nat) (l0 : List (S61)) (a1 : Int) (r : Int) (w : World) (hr0 : Kd.C k61 w A0 l0.length l0) (hc0 : l0.length ≤ c0) (h : laws_szBranchS.f k l0 a1 = some r) :
  Calls Tryd.prog 21 #[.slice A0 l0.length c0, .int .i64 a1] w fun e w' => e = .returned (.int .i64 r) ∧ Below w.heap.size w w' := by
 have hu61 := Tryd.underlying61
 have HR0 := aM_ hr0
 have HC0 := aM_ hc0
 clear hr0 hc0
 have HB := aM_ (Below.refl w.heap.size w)
 have H : (if (wrap64 (a1 - (l0.length : Int))) < 0 then (some (-1)) else (laws_szBranchS.l0 k l0 (wrap64 (a1 - (l0.length : Int))) 0)) = some r := h
 clear h
 by_cases c3 : (wrap64 (a1 - (l0.length : Int))) < 0
 ·
  rw [if_pos c3] at H
  have c3b0 := decide_eq_true c3
  clear c3
  obtain rfl := Option.some.inj H
  go_enter Tryd.func21, Tryd.ntmps21
  go_wp2
  go_ret
  exact ⟨by rfl, by exact HB.out⟩
 ·
  rw [if_neg c3] at H
  have c3b0 := decide_eq_false c3
  clear c3
  have H' := aM_ H
  clear H
  go_enter Tryd.func21, Tryd.ntmps21
  go_wp2
  go_loopg [1, 5] k (fun kq v1 v5 w' => ∃ (x1_1 : Int) (x5_1 : Int), v1 = .int .i64 x1_1 ∧ v5 = .int .i64 x5_1 ∧ Aside0 (laws_szBranchS.l0 kq l0 x1_1 x5_1 = some r) ∧ Aside0 (kq ≤ k) ∧ Aside0 (Below w.heap.size w w'))
  case atStart => exact ⟨(wrap64 (a1 - (l0.length : Int))), (0), (by rfl), (by rfl), H', ⟨Nat.le_refl _⟩, ⟨HB.out⟩⟩
  case round =>
   clear H'
   try clear c2
   try clear p2
   try clear c3
   try clear c3b0
   obtain ⟨x1_1, x5_1, rfl, rfl, HA, HK1, HB⟩ := hrel
   cases gk with
   | zero => exact absurd HA.out (by simp [laws_szBranchS.l0])
   | succ k1 =>
    have H := HA.out
    clear HA
    simp only [laws_szBranchS.l0] at H
    by_cases c4 : x5_1 < (l0.length : Int)
    ·
     rw [if_pos c4] at H
     have c4b0 := decide_eq_true c4
     clear c4
     by_cases c5 : 0 ≤ x5_1
     ·
      rw [if_pos c5] at H
      have c5b0 := decide_eq_true c5
      clear c5
      replace H := Option.bind_eq_some_iff.mp H
      obtain ⟨t103, A60, H⟩ := H
      try dsimp only at H
      have A6 := aM_ A60
      clear A60
      by_cases c7 : t103 < 0
      ·
       rw [if_pos c7] at H
       have c7b0 := decide_eq_true c7
       clear c7
       obtain rfl := Option.some.inj H
       have p102 : 0 ≤ (x5_1 : Int) := of_decide_eq_true (by (with_reducible assumption))
       have q102 : x5_1 < (l0.length : Int) := of_decide_eq_true (by (with_reducible assumption))
       obtain ⟨ad102, e102, hx102_0, hx102_1, hx102_2⟩ := at_T61 HR0.out x5_1 p102 q102
       cases e102
       replace hx102_0 := (HB.out.cell (World.block_lt_of_cell? w _ hx102_0)).trans hx102_0
       replace hx102_1 := (HB.out.cell (World.block_lt_of_cell? w _ hx102_1)).trans hx102_1
       replace hx102_2 := (HB.out.cell (World.block_lt_of_cell? w _ hx102_2)).trans hx102_2
       replace p102 := eq_true p102
       replace q102 := eq_true q102
       go_wp2_with (first | ((with_reducible refine gate_callee (f := 35) rfl ?_); refine goesL_ (some 23) rfl rfl Tryd.func35 (by kernel_rfl) rfl #[.agg #[.string ((rd_T61 l0 x5_1).f0), .int .i64 ((rd_T61 l0 x5_1).f1), .bool ((rd_T61 l0 x5_1).f2)], .int .i64 x1_1] rfl (by (try simp only [sD_, sE_, sF_]); rfl) ?_; (with_reducible refine (laws_szBranch.calls ((rd_T61 l0 x5_1).f0) ((rd_T61 l0 x5_1).f1) ((rd_T61 l0 x5_1).f2) x1_1 t103 _ A6.out).mono ?_); rintro e w8 ⟨rfl, hb⟩; refine ⟨_, rfl, ?_⟩; replace HB := aM_ (below_step HB.out hb); (try clear hb); (try clear hb2); (try clear hk); (try clear hi)))
       go_ret
       exact ⟨by rfl, by exact HB.out⟩
      ·
       rw [if_neg c7] at H
       have c7b0 := decide_eq_false c7
       clear c7
       have H' := aM_ H
       clear H
       have p102 : 0 ≤ (x5_1 : Int) := of_decide_eq_true (by (with_reducible assumption))
       have q102 : x5_1 < (l0.length : Int) := of_decide_eq_true (by (with_reducible assumption))
       obtain ⟨ad102, e102, hx102_0, hx102_1, hx102_2⟩ := at_T61 HR0.out x5_1 p102 q102
       cases e102
       replace hx102_0 := (HB.out.cell (World.block_lt_of_cell? w _ hx102_0)).trans hx102_0
       replace hx102_1 := (HB.out.cell (World.block_lt_of_cell? w _ hx102_1)).trans hx102_1
       replace hx102_2 := (HB.out.cell (World.block_lt_of_cell? w _ hx102_2)).trans hx102_2
       replace p102 := eq_true p102
       replace q102 := eq_true q102
       go_wp2_with (first | ((with_reducible refine gate_callee (f := 35) rfl ?_); refine goesL_ (some 23) rfl rfl Tryd.func35 (by kernel_rfl) rfl #[.agg #[.string ((rd_T61 l0 x5_1).f0), .int .i64 ((rd_T61 l0 x5_1).f1), .bool ((rd_T61 l0 x5_1).f2)], .int .i64 x1_1] rfl (by (try simp only [sD_, sE_, sF_]); rfl) ?_; (with_reducible refine (laws_szBranch.calls ((rd_T61 l0 x5_1).f0) ((rd_T61 l0 x5_1).f1) ((rd_T61 l0 x5_1).f2) x1_1 t103 _ A6.out).mono ?_); rintro e w9 ⟨rfl, hb⟩; refine ⟨_, rfl, ?_⟩; replace HB := aM_ (below_step HB.out hb); (try clear hb); (try clear hb2); (try clear hk); (try clear hi)))
       go_roundg k1
       case measure => have := HK1.out; omega
       case rel => exact ⟨(t103), (wrap64 (x5_1 + 1)), (by rfl), (by rfl), H', ⟨by have := HK1.out; omega⟩, ⟨HB.out⟩⟩
     ·
      rw [if_neg c5] at H
      exact absurd H (by simp)
    ·
     rw [if_neg c4] at H
     have c4b0 := decide_eq_false c4
     clear c4
     obtain rfl := Option.some.inj H
     go_wp2
     go_ret
     exact ⟨by rfl, by exact HB.out⟩
def laws_szPressed.f (k : Nat) (l0_0 : List (S61)) (a1 : Int) : Option (Int) := (laws_szBranchS.f k l0_0 a1).bind fun t105 => (if t105 < 0 then (some (-1)) else (some t105))
theorem laws_szPressed.mono : ∀ a0 a1 k, LeO (laws_szPressed.f k a0 a1) (laws_szPressed.f (k + 1) a0 a1) := by
 intro a0 a1 k
 unfold laws_szPressed.f
 repeat' first
   | (with_reducible exact laws_szBranchS.mono _ _ _)
   | (with_reducible exact LeO.refl _)
   | (with_reducible exact LeO.none _)
   | (with_reducible refine LeO.ite ?_ ?_)
   | (with_reducible refine LeO.bind ?_ (fun _ => ?_))
   | exact laws_szBranchS.mono _ _ _
   | exact LeO.none _
   | refine LeO.ite ?_ ?_
   | refine LeO.bind ?_ (fun _ => ?_)
theorem laws_szPressed.calls (k : Nat) (A0_0 : Option Addr) (c0_0 : Nat) (l0_0 : List (S61)) (a1 : Int) (r : Int) (w : World) (hr0_0 : Kd.C k61 w A0_0 l0_0.length l0_0) (hc0_0 : l0_0.length ≤ c0_0) (h : laws_szPressed.f k l0_0 a1 = some r) :
  Calls Tryd.prog 8 #[.agg #[.slice A0_0 l0_0.length c0_0], .int .i64 a1] w fun e w' => e = .returned (.int .i64 r) ∧ Below w.heap.size w w' := by
 have hu24 := Tryd.underlying24
 have HR0_0 := aM_ hr0_0
 have HC0_0 := aM_ hc0_0
 clear hr0_0 hc0_0
 have HB := aM_ (Below.refl w.heap.size w)
 have H : ((laws_szBranchS.f k l0_0 a1).bind fun t105 => (if t105 < 0 then (some (-1)) else (some t105))) = some r := h
 clear h
 replace H := Option.bind_eq_some_iff.mp H
 obtain ⟨t105, A30, H⟩ := H
 try dsimp only at H
 have A3 := aM_ A30
 clear A30
 by_cases c4 : t105 < 0
 ·
  rw [if_pos c4] at H
  have c4b0 := decide_eq_true c4
  clear c4
  obtain rfl := Option.some.inj H
  go_enter Tryd.func8, Tryd.ntmps8
  go_wp2_with (first | ((with_reducible refine gate_dst (N := 2) rfl ?_); refine box_event ?hg (N := 2) ?hd (cs := #[.slice A0_0 l0_0.length c0_0]) (t := 24) ?hr ?_; (case hd => rfl); (case hg => rfl); (case hr => (go_simp; done)); intro gb104 hg w5 hbox hb; have BK104 := aM_ (hbox); have GW104 := aM_ ((by rw [hg]; exact (below_size HB.out) : w.heap.size ≤ gb104)); have GE104 := GW104; replace HB := aM_ (below_step HB.out hb); clear hb hbox hg; have hcz6_0 : w5.cell? ⟨gb104, 0, none⟩ = some (.slice A0_0 l0_0.length c0_0) := (blk_cell BK104.out 0).trans rfl; have hfz6_0 := blk_frozen BK104.out 0) | ((with_reducible refine gate_callee (f := 21) rfl ?_); refine goesL_ (some 8) rfl rfl Tryd.func21 (by kernel_rfl) rfl #[.slice A0_0 l0_0.length c0_0, .int .i64 a1] rfl (by (try simp only [sD_, sE_, sF_]); rfl) ?_; (with_reducible refine (laws_szBranchS.calls k _ _ l0_0 a1 t105 _ ?side1 ?side2 A3.out).mono ?_); (case side1 => repeat (first | exact (Kd.C_below HR0_0.out HB.out) | (with_reducible refine Kd.C_alloc ?_ _) | (with_reducible refine Kd.C_drewN ?_ _) | (with_reducible refine Kd.C_drew ?_))); (case side2 => exact HC0_0.out); rintro e w7 ⟨rfl, hb⟩; refine ⟨_, rfl, ?_⟩; replace BK104 := aM_ (blk_below BK104.out hb); replace HB := aM_ (below_step HB.out hb); (try clear hb); (try clear hb2); (try clear hk); (try clear hi)))
  go_ret
  exact ⟨by rfl, by exact HB.out⟩
 ·
  rw [if_neg c4] at H
  have c4b0 := decide_eq_false c4
  clear c4
  obtain rfl := Option.some.inj H
  go_enter Tryd.func8, Tryd.ntmps8
  go_wp2_with (first | ((with_reducible refine gate_dst (N := 2) rfl ?_); refine box_event ?hg (N := 2) ?hd (cs := #[.slice A0_0 l0_0.length c0_0]) (t := 24) ?hr ?_; (case hd => rfl); (case hg => rfl); (case hr => (go_simp; done)); intro gb104 hg w8 hbox hb; have BK104 := aM_ (hbox); have GW104 := aM_ ((by rw [hg]; exact (below_size HB.out) : w.heap.size ≤ gb104)); have GE104 := GW104; replace HB := aM_ (below_step HB.out hb); clear hb hbox hg; have hcz9_0 : w8.cell? ⟨gb104, 0, none⟩ = some (.slice A0_0 l0_0.length c0_0) := (blk_cell BK104.out 0).trans rfl; have hfz9_0 := blk_frozen BK104.out 0) | ((with_reducible refine gate_callee (f := 21) rfl ?_); refine goesL_ (some 8) rfl rfl Tryd.func21 (by kernel_rfl) rfl #[.slice A0_0 l0_0.length c0_0, .int .i64 a1] rfl (by (try simp only [sD_, sE_, sF_]); rfl) ?_; (with_reducible refine (laws_szBranchS.calls k _ _ l0_0 a1 t105 _ ?side1 ?side2 A3.out).mono ?_); (case side1 => repeat (first | exact (Kd.C_below HR0_0.out HB.out) | (with_reducible refine Kd.C_alloc ?_ _) | (with_reducible refine Kd.C_drewN ?_ _) | (with_reducible refine Kd.C_drew ?_))); (case side2 => exact HC0_0.out); rintro e w10 ⟨rfl, hb⟩; refine ⟨_, rfl, ?_⟩; replace BK104 := aM_ (blk_below BK104.out hb); replace HB := aM_ (below_step HB.out hb); (try clear hb); (try clear hb2); (try clear hk); (try clear hi)))
  go_ret
  exact ⟨by rfl, by exact HB.out⟩
def spec_l1In.f (a0 : Int) (a1 : Int) (a2 : Int) : Option (Bool) := if a0 ≥ a1 then (some (decide (a0 ≤ a2))) else (some false)
theorem spec_l1In.calls (a0 : Int) (a1 : Int) (a2 : Int) (r : Bool) (w : World) (h : spec_l1In.f a0 a1 a2 = some r) :
  Calls Tryd.prog 26 #[.int .i64 a0, .int .i64 a1, .int .i64 a2] w fun e w' => e = .returned (.bool r) ∧ Drawn0 w w' := by
 have H : (if a0 ≥ a1 then (some (decide (a0 ≤ a2))) else (some false)) = some r := h
 clear h
 by_cases c4 : a0 ≥ a1
 ·
  rw [if_pos c4] at H
  have c4b0 := decide_eq_true c4
  clear c4
  obtain rfl := Option.some.inj H
  go_enter Tryd.func26, Tryd.ntmps26
  go_wp2
  go_ret
  exact ⟨by rfl, by repeat (first | exact Drawn0.refl _ | apply Drawn0.step)⟩
 ·
  rw [if_neg c4] at H
  have c4b0 := decide_eq_false c4
  clear c4
  obtain rfl := Option.some.inj H
  go_enter Tryd.func26, Tryd.ntmps26
  go_wp2
  go_ret
  exact ⟨by rfl, by repeat (first | exact Drawn0.refl _ | apply Drawn0.step)⟩
mutual
def spec_l2Word.l0 : Nat → ByteArray → Int → Option (Bool)
 | 0, _, _ => none
 | k + 1, x0, x3 => if x3 < (x0.size : Int) then (spec_l2Word.j1 k x0 x3 (decide (x3 ≤ 12))) else (spec_l2Word.j1 k x0 x3 false)
def spec_l2Word.j1 : Nat → ByteArray → Int → Bool → Option (Bool)
 | 0, _, _, _ => none
 | k + 1, x0, x3, x11 => if x11 = true then (if 0 ≤ x3 then (if x3 < (x0.size : Int) then (if (bt x0 x3) < 97 then (some false) else (if (bt x0 x3) > 122 then (some false) else (spec_l2Word.l0 k x0 (wrap64 (x3 + 1))))) else (none)) else (none)) else (some (decide ((x0.size : Int) ≤ 12)))
end
def spec_l2Word.f (k : Nat) (a0 : ByteArray) : Option (Bool) := spec_l2Word.l0 k a0 0
theorem spec_l2Word.mono_l : ∀ k, (∀ y0 y1, LeO (spec_l2Word.l0 k y0 y1) (spec_l2Word.l0 (k + 1) y0 y1)) ∧ (∀ y0 y1 y2, LeO (spec_l2Word.j1 k y0 y1 y2) (spec_l2Word.j1 (k + 1) y0 y1 y2))
 | 0 => ⟨fun _ _ r h => by simp [spec_l2Word.l0] at h, fun _ _ _ r h => by simp [spec_l2Word.j1] at h⟩
 | k + 1 => by
  obtain ⟨ih0, ih1⟩ := spec_l2Word.mono_l k
  refine ⟨?_, ?_⟩
  ·
   intro y0 y1
   unfold spec_l2Word.l0
   repeat' first
   | (with_reducible exact ih0 _ _)
   | (with_reducible exact ih1 _ _ _)
   | (with_reducible exact LeO.refl _)
   | (with_reducible exact LeO.none _)
   | (with_reducible refine LeO.ite ?_ ?_)
   | (with_reducible refine LeO.bind ?_ (fun _ => ?_))
   | exact ih0 _ _
   | exact ih1 _ _ _
   | exact LeO.none _
   | refine LeO.ite ?_ ?_
   | refine LeO.bind ?_ (fun _ => ?_)
  ·
   intro y0 y1 y2
   unfold spec_l2Word.j1
   repeat' first
   | (with_reducible exact ih0 _ _)
   | (with_reducible exact ih1 _ _ _)
   | (with_reducible exact LeO.refl _)
   | (with_reducible exact LeO.none _)
   | (with_reducible refine LeO.ite ?_ ?_)
   | (with_reducible refine LeO.bind ?_ (fun _ => ?_))
   | exact ih0 _ _
   | exact ih1 _ _ _
   | exact LeO.none _
   | refine LeO.ite ?_ ?_
   | refine LeO.bind ?_ (fun _ => ?_)
theorem spec_l2Word.mono : ∀ a0 k, LeO (spec_l2Word.f k a0) (spec_l2Word.f (k + 1) a0) := by
 intro a0 k
 obtain ⟨ih0, ih1⟩ := spec_l2Word.mono_l k
 unfold spec_l2Word.f
 repeat' first
   | (with_reducible exact ih0 _ _)
   | (with_reducible exact ih1 _ _ _)
   | (with_reducible exact LeO.refl _)
   | (with_reducible exact LeO.none _)
   | (with_reducible refine LeO.ite ?_ ?_)
   | (with_reducible refine LeO.bind ?_ (fun _ => ?_))
   | exact ih0 _ _
   | exact ih1 _ _ _
   | exact LeO.none _
   | refine LeO.ite ?_ ?_
   | refine LeO.bind ?_ (fun _ => ?_)
theorem spec_l2Word.calls (k : Nat) (a0 : ByteArray) (r : Bool) (w : World) (h : spec_l2Word.f k a0 = some r) :
  Calls Tryd.prog 30 #[.string a0] w fun e w' => e = .returned (.bool r) ∧ Drawn0 w w' := by
 have H : (spec_l2Word.l0 k a0 0) = some r := h
 clear h
 have H' := aM_ H
 clear H
 go_enter Tryd.func30, Tryd.ntmps30
 go_wp2
 go_loopg [3] k (fun kq v3 w' => ∃ (x3_1 : Int), v3 = .int .i64 x3_1 ∧ Aside0 (spec_l2Word.l0 kq a0 x3_1 = some r) ∧ Aside0 (kq ≤ k) ∧ Drawn0 w w')
 case atStart => exact ⟨(0), (by rfl), H', ⟨Nat.le_refl _⟩, by repeat (first | exact Drawn0.refl _ | apply Drawn0.step)⟩
 case round =>
  clear H'
  obtain ⟨x3_1, rfl, HA, HK1, ⟨m1, rfl⟩⟩ := hrel
  cases gk with
  | zero => exact absurd HA.out (by simp [spec_l2Word.l0])
  | succ k1 =>
   have H := HA.out
   clear HA
   simp only [spec_l2Word.l0] at H
   have HC2 := aM_ H
   clear H
   go_upto_region 2 with (fail)
   go_cut [11] (fun v11 wc => ∃ (kq : Nat) (x11_1 : Bool), v11 = .bool x11_1 ∧ Aside0 (spec_l2Word.j1 kq a0 x3_1 x11_1 = some r) ∧ Aside0 (kq ≤ k1) ∧ Drawn0 w wc)
   case first =>
    have H := HC2.out
    clear HC2
    by_cases c3 : x3_1 < (a0.size : Int)
    ·
     rw [if_pos c3] at H
     have c3b0 := decide_eq_true c3
     clear c3
     (skip)
     have H' := aM_ H
     clear H
     go_wp2
     go_meet
     case rel => exact ⟨_, (decide (x3_1 ≤ 12)), (by rfl), H', ⟨by have := HK1.out; omega⟩, by repeat (first | exact Drawn0.refl _ | apply Drawn0.step)⟩
    ·
     rw [if_neg c3] at H
     have c3b0 := decide_eq_false c3
     clear c3
     (skip)
     have H' := aM_ H
     clear H
     go_wp2
     go_meet
     case rel => exact ⟨_, (false), (by rfl), H', ⟨by have := HK1.out; omega⟩, by repeat (first | exact Drawn0.refl _ | apply Drawn0.step)⟩
   case rest =>
    clear HC2
    try clear p2
    try clear c3
    try clear c3b0
    obtain ⟨kq, x11_1, rfl, HA, HJ1, ⟨mc1, rfl⟩⟩ := hcut
    cases kq with
    | zero => exact absurd HA.out (by simp [spec_l2Word.j1])
    | succ kj1 =>
     have H := HA.out
     clear HA
     simp only [spec_l2Word.j1] at H
     by_cases c4 : x11_1 = true
     ·
      subst c4
      rw [if_pos rfl] at H
      by_cases c5 : 0 ≤ x3_1
      ·
       rw [if_pos c5] at H
       have c5b0 := decide_eq_true c5
       clear c5
       by_cases c6 : x3_1 < (a0.size : Int)
       ·
        rw [if_pos c6] at H
        have c6b0 := decide_eq_true c6
        clear c6
        by_cases c8 : (bt a0 x3_1) < 97
        ·
         rw [if_pos c8] at H
         have c8b0 := decide_eq_true c8
         clear c8
         obtain rfl := Option.some.inj H
         have p7 : 0 ≤ (x3_1 : Int) := of_decide_eq_true (by (with_reducible assumption))
         have q7 : x3_1 < (a0.size : Int) := of_decide_eq_true (by (with_reducible assumption))
         have hx7 := bt_at a0 x3_1
         replace p7 := eq_true p7
         replace q7 := eq_true q7
         go_wp2
         go_ret
         exact ⟨by rfl, by repeat (first | exact Drawn0.refl _ | apply Drawn0.step)⟩
        ·
         rw [if_neg c8] at H
         have c8b0 := decide_eq_false c8
         clear c8
         by_cases c10 : (bt a0 x3_1) > 122
         ·
          rw [if_pos c10] at H
          have c10b0 := decide_eq_true c10
          clear c10
          obtain rfl := Option.some.inj H
          have p7 : 0 ≤ (x3_1 : Int) := of_decide_eq_true (by (with_reducible assumption))
          have q7 : x3_1 < (a0.size : Int) := of_decide_eq_true (by (with_reducible assumption))
          have hx7 := bt_at a0 x3_1
          replace p7 := eq_true p7
          replace q7 := eq_true q7
          have p9 : 0 ≤ (x3_1 : Int) := of_decide_eq_true (by (with_reducible assumption))
          have q9 : x3_1 < (a0.size : Int) := of_decide_eq_true (by (with_reducible assumption))
          have hx9 := bt_at a0 x3_1
          replace p9 := eq_true p9
          replace q9 := eq_true q9
          go_wp2
          go_ret
          exact ⟨by rfl, by repeat (first | exact Drawn0.refl _ | apply Drawn0.step)⟩
         ·
          rw [if_neg c10] at H
          have c10b0 := decide_eq_false c10
          clear c10
          have H' := aM_ H
          clear H
          have p7 : 0 ≤ (x3_1 : Int) := of_decide_eq_true (by (with_reducible assumption))
          have q7 : x3_1 < (a0.size : Int) := of_decide_eq_true (by (with_reducible assumption))
          have hx7 := bt_at a0 x3_1
          replace p7 := eq_true p7
          replace q7 := eq_true q7
          have p9 : 0 ≤ (x3_1 : Int) := of_decide_eq_true (by (with_reducible assumption))
          have q9 : x3_1 < (a0.size : Int) := of_decide_eq_true (by (with_reducible assumption))
          have hx9 := bt_at a0 x3_1
          replace p9 := eq_true p9
          replace q9 := eq_true q9
          go_wp2
          go_roundg kj1
          case measure => have := HK1.out; have := HJ1.out; omega
          case rel => exact ⟨(wrap64 (x3_1 + 1)), (by rfl), H', ⟨by have := HK1.out; have := HJ1.out; omega⟩, by repeat (first | exact Drawn0.refl _ | apply Drawn0.step)⟩
       ·
        rw [if_neg c6] at H
        exact absurd H (by simp)
      ·
       rw [if_neg c5] at H
       exact absurd H (by simp)
     ·
      replace c4 := Bool.eq_false_iff.mpr c4
      subst c4
      have H1 : (some (decide ((a0.size : Int) ≤ 12))) = some r := by rw [if_neg (show ¬ (false = true) by decide)] at H; exact H
      clear H
      have H := H1
      clear H1
      obtain rfl := Option.some.inj H
      go_wp2
      go_ret
      exact ⟨by rfl, by repeat (first | exact Drawn0.refl _ | apply Drawn0.step)⟩
mutual
def spec_l4Prefix.l0 : Nat → Int → ByteArray → List (S56) → Option (ByteArray)
 | 0, _, _, _ => none
 | k + 1, x1, x5, x107000 => if x1 > 0 then (spec_l4Prefix.j1 k x1 x5 (decide ((x5.size : Int) ≤ 12)) x107000) else (spec_l4Prefix.j1 k x1 x5 false x107000)
def spec_l4Prefix.j1 : Nat → Int → ByteArray → Bool → List (S56) → Option (ByteArray)
 | 0, _, _, _, _ => none
 | k + 1, x1, x5, x13, x107000 => if x13 = true then (if 0 ≤ x1 then (if x1 < (x107000.length : Int) then (if ((rd_T56 x107000 x1).f1) ≥ x1 then (some (⟨#[63]⟩ : ByteArray)) else (if ((rd_T56 x107000 x1).f0).toList = ([] : List UInt8) then (some (⟨#[63]⟩ : ByteArray)) else ((spec_l2Word.f k ((rd_T56 x107000 x1).f0)).bind fun t109 => (if t109 = true then (if ((rd_T56 x107000 x1).f0).size + x5.size ≤ 9223372036854775807 then (spec_l4Prefix.l0 k ((rd_T56 x107000 x1).f1) (((rd_T56 x107000 x1).f0) ++ x5) x107000) else (none)) else (some (⟨#[63]⟩ : ByteArray)))))) else (none)) else (none)) else (if x1 = 0 then (some x5) else (some (⟨#[63]⟩ : ByteArray)))
end
def spec_l4Prefix.f (k : Nat) (l0_0 : List (S56)) (a1 : Int) : Option (ByteArray) := spec_l4Prefix.l0 k a1 (⟨#[]⟩ : ByteArray) l0_0
theorem spec_l4Prefix.mono_l : ∀ k, (∀ y0 y1 y2, LeO (spec_l4Prefix.l0 k y0 y1 y2) (spec_l4Prefix.l0 (k + 1) y0 y1 y2)) ∧ (∀ y0 y1 y2 y3, LeO (spec_l4Prefix.j1 k y0 y1 y2 y3) (spec_l4Prefix.j1 (k + 1) y0 y1 y2 y3))
 | 0 => ⟨fun _ _ _ r h => by simp [spec_l4Prefix.l0] at h, fun _ _ _ _ r h => by simp [spec_l4Prefix.j1] at h⟩
 | k + 1 => by
  obtain ⟨ih0, ih1⟩ := spec_l4Prefix.mono_l k
  refine ⟨?_, ?_⟩
  ·
   intro y0 y1 y2
   unfold spec_l4Prefix.l0
   repeat' first
   | (with_reducible exact ih0 _ _ _)
   | (with_reducible exact ih1 _ _ _ _)
   | (with_reducible exact spec_l2Word.mono _ _)
   | (with_reducible exact LeO.refl _)
   | (with_reducible exact LeO.none _)
   | (with_reducible refine LeO.ite ?_ ?_)
   | (with_reducible refine LeO.bind ?_ (fun _ => ?_))
   | exact ih0 _ _ _
   | exact ih1 _ _ _ _
   | exact spec_l2Word.mono _ _
   | exact LeO.none _
   | refine LeO.ite ?_ ?_
   | refine LeO.bind ?_ (fun _ => ?_)
  ·
   intro y0 y1 y2 y3
   unfold spec_l4Prefix.j1
   repeat' first
   | (with_reducible exact ih0 _ _ _)
   | (with_reducible exact ih1 _ _ _ _)
   | (with_reducible exact spec_l2Word.mono _ _)
   | (with_reducible exact LeO.refl _)
   | (with_reducible exact LeO.none _)
   | (with_reducible refine LeO.ite ?_ ?_)
   | (with_reducible refine LeO.bind ?_ (fun _ => ?_))
   | exact ih0 _ _ _
   | exact ih1 _ _ _ _
   | exact spec_l2Word.mono _ _
   | exact LeO.none _
   | refine LeO.ite ?_ ?_
   | refine LeO.bind ?_ (fun _ => ?_)
theorem spec_l4Prefix.mono : ∀ a0 a1 k, LeO (spec_l4Prefix.f k a0 a1) (spec_l4Prefix.f (k + 1) a0 a1) := by
 intro a0 a1 k
 obtain ⟨ih0, ih1⟩ := spec_l4Prefix.mono_l k
 unfold spec_l4Prefix.f
 repeat' first
   | (with_reducible exact ih0 _ _ _)
   | (with_reducible exact ih1 _ _ _ _)
   | (with_reducible exact spec_l2Word.mono _ _)
   | (with_reducible exact LeO.refl _)
   | (with_reducible exact LeO.none _)
   | (with_reducible refine LeO.ite ?_ ?_)
   | (with_reducible refine LeO.bind ?_ (fun _ => ?_))
   | exact ih0 _ _ _
   | exact ih1 _ _ _ _
   | exact spec_l2Word.mono _ _
   | exact LeO.none _
   | refine LeO.ite ?_ ?_
   | refine LeO.bind ?_ (fun _ => ?_)
theorem spec_l4Prefix.calls (k : Nat) (A0_0 : Option Addr) (c0_0 : Nat) (l0_0 : List (S56)) (a1 : Int) (r : ByteArray) (w : World) (hr0_0 : Kd.C k56 w A0_0 l0_0.length l0_0) (hc0_0 : l0_0.length ≤ c0_0) (h : spec_l4Prefix.f k l0_0 a1 = some r) :
  Calls Tryd.prog 27 #[.agg #[.slice A0_0 l0_0.length c0_0], .int .i64 a1] w fun e w' => e = .returned (.string r) ∧ Below w.heap.size w w' := by
 have hu29 := Tryd.underlying29
 have hu56 := Tryd.underlying56
 have HR0_0 := aM_ hr0_0
 have HC0_0 := aM_ hc0_0
 clear hr0_0 hc0_0
 have HB := aM_ (Below.refl w.heap.size w)
 have H : (spec_l4Prefix.l0 k a1 (⟨#[]⟩ : ByteArray) l0_0) = some r := h
 clear h
 have H' := aM_ H
 clear H
 go_enter Tryd.func27, Tryd.ntmps27
 go_wp2_with (first | ((with_reducible refine gate_dst (N := 2) rfl ?_); (try (refine gate_guard (by rfl) ?_; dsimp only)); refine box_event ?hg (N := 2) ?hd (cs := #[.slice A0_0 l0_0.length c0_0]) (t := 29) ?hr ?_; (case hd => rfl); (case hg => rfl); (case hr => (go_simp; done)); intro gb106 hg w3 hbox hb; have BK106 := aM_ (hbox); have GW106 := aM_ ((by rw [hg]; exact (below_size HB.out) : w.heap.size ≤ gb106)); have GE106 := GW106; replace HB := aM_ (below_step HB.out hb); clear hb hbox hg))
 go_loopg [1, 5] k (fun kq v1 v5 w' => ∃ (x1_1 : Int) (x5_1 : ByteArray), v1 = .int .i64 x1_1 ∧ v5 = .string x5_1 ∧ Aside0 (spec_l4Prefix.l0 kq x1_1 x5_1 l0_0 = some r) ∧ Aside0 (kq ≤ k) ∧ Aside0 (w'.heap[gb106]? = some (.cells #[(.slice A0_0 l0_0.length c0_0)] 29 (0, 0))) ∧ Aside0 (Below w.heap.size w w'))
 case atStart => exact ⟨(a1), ((⟨#[]⟩ : ByteArray)), (by rfl), (by rfl), H', ⟨Nat.le_refl _⟩, ⟨BK106.out⟩, ⟨HB.out⟩⟩
 case round =>
  clear H'
  try clear c2
  try clear p2
  obtain ⟨x1_1, x5_1, rfl, rfl, HA, HK1, BK106, HB⟩ := hrel
  cases gk with
  | zero => exact absurd HA.out (by simp [spec_l4Prefix.l0])
  | succ k1 =>
   have H := HA.out
   clear HA
   simp only [spec_l4Prefix.l0] at H
   have HC4 := aM_ H
   clear H
   go_upto_region 2 with (fail)
   go_cut [13] (fun v13 wc => ∃ (kq : Nat) (x13_3 : Bool), v13 = .bool x13_3 ∧ Aside0 (spec_l4Prefix.j1 kq x1_1 x5_1 x13_3 l0_0 = some r) ∧ Aside0 (kq ≤ k1) ∧ Aside0 (wc.heap[gb106]? = some (.cells #[(.slice A0_0 l0_0.length c0_0)] 29 (0, 0))) ∧ Aside0 (Below w.heap.size w wc))
   case first =>
    have H := HC4.out
    clear HC4
    by_cases c5 : x1_1 > 0
    ·
     rw [if_pos c5] at H
     have c5b0 := decide_eq_true c5
     clear c5
     (skip)
     have H' := aM_ H
     clear H
     go_wp2
     go_meet
     case rel => exact ⟨_, (decide ((x5_1.size : Int) ≤ 12)), (by rfl), H', ⟨by have := HK1.out; omega⟩, ⟨BK106.out⟩, ⟨HB.out⟩⟩
    ·
     rw [if_neg c5] at H
     have c5b0 := decide_eq_false c5
     clear c5
     (skip)
     have H' := aM_ H
     clear H
     go_wp2
     go_meet
     case rel => exact ⟨_, (false), (by rfl), H', ⟨by have := HK1.out; omega⟩, ⟨BK106.out⟩, ⟨HB.out⟩⟩
   case rest =>
    clear HC4
    try clear c2
    try clear p2
    try clear c5
    try clear c5b0
    try clear p2
    obtain ⟨kq, x13_3, rfl, HA, HJ3, BK106, HB⟩ := hcut
    cases kq with
    | zero => exact absurd HA.out (by simp [spec_l4Prefix.j1])
    | succ kj3 =>
     have H := HA.out
     clear HA
     simp only [spec_l4Prefix.j1] at H
     by_cases c6 : x13_3 = true
     ·
      subst c6
      rw [if_pos rfl] at H
      by_cases c7 : 0 ≤ x1_1
      ·
       rw [if_pos c7] at H
       have c7b0 := decide_eq_true c7
       clear c7
       by_cases c8 : x1_1 < (l0_0.length : Int)
       ·
        rw [if_pos c8] at H
        have c8b0 := decide_eq_true c8
        clear c8
        by_cases c9 : ((rd_T56 l0_0 x1_1).f1) ≥ x1_1
        ·
         rw [if_pos c9] at H
         have c9b0 := decide_eq_true c9
         clear c9
         obtain rfl := Option.some.inj H
         have hcz10_0 : wc.cell? ⟨gb106, 0, none⟩ = some (.slice A0_0 l0_0.length c0_0) := (blk_cell BK106.out 0).trans rfl
         have hfz10_0 := blk_frozen BK106.out 0
         have p107 : 0 ≤ (x1_1 : Int) := of_decide_eq_true (by (with_reducible assumption))
         have q107 : x1_1 < (l0_0.length : Int) := of_decide_eq_true (by (with_reducible assumption))
         obtain ⟨ad107, e107, hx107_0, hx107_1, hx107_2⟩ := at_T56 HR0_0.out x1_1 p107 q107
         cases e107
         replace hx107_0 := (HB.out.cell (World.block_lt_of_cell? w _ hx107_0)).trans hx107_0
         replace hx107_1 := (HB.out.cell (World.block_lt_of_cell? w _ hx107_1)).trans hx107_1
         replace hx107_2 := (HB.out.cell (World.block_lt_of_cell? w _ hx107_2)).trans hx107_2
         replace p107 := eq_true p107
         replace q107 := eq_true q107
         go_wp2_with (first | ((with_reducible refine gate_dst (N := 6) rfl ?_); (try (refine gate_guard (by rfl) ?_; dsimp only)); refine box_event ?hg (N := 6) ?hd (cs := #[.string (⟨#[]⟩ : ByteArray), .int .i64 0, .bool false]) (t := 56) ?hr ?_; (case hd => rfl); (case hg => rfl); (case hr => (go_simp; done)); intro gb108 hg w11 hbox hb; have BK108 := aM_ (hbox); have GW108 := aM_ ((by rw [hg]; exact (below_size HB.out) : w.heap.size ≤ gb108)); have GE108 := GW108; replace HB := aM_ (below_step HB.out hb); have NB106_108 := aM_ ((by rw [hg]; exact Nat.ne_of_lt (blk_lt BK106.out) : gb106 ≠ gb108)); have NB108_106 := aM_ NB106_108.out.symm; replace BK106 := aM_ (blk_below BK106.out hb); clear hb hbox hg; have hnb12 := NB108_106.out; have hnc12 := NB106_108.out; have hcz13_0 : w11.cell? ⟨gb108, 0, none⟩ = some (.string (⟨#[]⟩ : ByteArray)) := (blk_cell BK108.out 0).trans rfl; have hcz13_1 : w11.cell? ⟨gb108, 1, none⟩ = some (.int .i64 0) := (blk_cell BK108.out 1).trans rfl; have hcz13_2 : w11.cell? ⟨gb108, 2, none⟩ = some (.bool false) := (blk_cell BK108.out 2).trans rfl; have hfz13_0 := blk_frozen BK108.out 0; have hfz13_1 := blk_frozen BK108.out 1; have hfz13_2 := blk_frozen BK108.out 2))
         go_ret
         exact ⟨by rfl, by repeat (first | (with_reducible first | exact HB.out | apply below_alloc | apply pw_below_drewN | apply below_drew1 | refine below_set ?_ GE106.out | refine below_set ?_ GE108.out) | exact HB.out)⟩
        ·
         rw [if_neg c9] at H
         have c9b0 := decide_eq_false c9
         clear c9
         by_cases c14 : ((rd_T56 l0_0 x1_1).f0).toList = ([] : List UInt8)
         ·
          rw [if_pos c14] at H
          have c14b0 : (((rd_T56 l0_0 x1_1).f0).toList == ([] : List UInt8)) = true := beq_iff_eq.mpr c14
          have c14b1 : (((rd_T56 l0_0 x1_1).f0).toList != ([] : List UInt8)) = false := bne_eq_false_iff_eq.mpr c14
          clear c14
          obtain rfl := Option.some.inj H
          have hcz15_0 : wc.cell? ⟨gb106, 0, none⟩ = some (.slice A0_0 l0_0.length c0_0) := (blk_cell BK106.out 0).trans rfl
          have hfz15_0 := blk_frozen BK106.out 0
          have p107 : 0 ≤ (x1_1 : Int) := of_decide_eq_true (by (with_reducible assumption))
          have q107 : x1_1 < (l0_0.length : Int) := of_decide_eq_true (by (with_reducible assumption))
          obtain ⟨ad107, e107, hx107_0, hx107_1, hx107_2⟩ := at_T56 HR0_0.out x1_1 p107 q107
          cases e107
          replace hx107_0 := (HB.out.cell (World.block_lt_of_cell? w _ hx107_0)).trans hx107_0
          replace hx107_1 := (HB.out.cell (World.block_lt_of_cell? w _ hx107_1)).trans hx107_1
          replace hx107_2 := (HB.out.cell (World.block_lt_of_cell? w _ hx107_2)).trans hx107_2
          replace p107 := eq_true p107
          replace q107 := eq_true q107
          go_wp2_with (first | ((with_reducible refine gate_dst (N := 6) rfl ?_); (try (refine gate_guard (by rfl) ?_; dsimp only)); refine box_event ?hg (N := 6) ?hd (cs := #[.string (⟨#[]⟩ : ByteArray), .int .i64 0, .bool false]) (t := 56) ?hr ?_; (case hd => rfl); (case hg => rfl); (case hr => (go_simp; done)); intro gb108 hg w16 hbox hb; have BK108 := aM_ (hbox); have GW108 := aM_ ((by rw [hg]; exact (below_size HB.out) : w.heap.size ≤ gb108)); have GE108 := GW108; replace HB := aM_ (below_step HB.out hb); have NB106_108 := aM_ ((by rw [hg]; exact Nat.ne_of_lt (blk_lt BK106.out) : gb106 ≠ gb108)); have NB108_106 := aM_ NB106_108.out.symm; replace BK106 := aM_ (blk_below BK106.out hb); clear hb hbox hg; have hnb17 := NB108_106.out; have hnc17 := NB106_108.out; have hcz18_0 : w16.cell? ⟨gb108, 0, none⟩ = some (.string (⟨#[]⟩ : ByteArray)) := (blk_cell BK108.out 0).trans rfl; have hcz18_1 : w16.cell? ⟨gb108, 1, none⟩ = some (.int .i64 0) := (blk_cell BK108.out 1).trans rfl; have hcz18_2 : w16.cell? ⟨gb108, 2, none⟩ = some (.bool false) := (blk_cell BK108.out 2).trans rfl; have hfz18_0 := blk_frozen BK108.out 0; have hfz18_1 := blk_frozen BK108.out 1; have hfz18_2 := blk_frozen BK108.out 2))
          go_ret
          exact ⟨by rfl, by repeat (first | (with_reducible first | exact HB.out | apply below_alloc | apply pw_below_drewN | apply below_drew1 | refine below_set ?_ GE106.out | refine below_set ?_ GE108.out) | exact HB.out)⟩
         ·
          rw [if_neg c14] at H
          have c14b0 : (((rd_T56 l0_0 x1_1).f0).toList == ([] : List UInt8)) = false := beq_eq_false_iff_ne.mpr c14
          have c14b1 : (((rd_T56 l0_0 x1_1).f0).toList != ([] : List UInt8)) = true := bne_iff_ne.mpr c14
          replace H := Option.bind_eq_some_iff.mp H
          obtain ⟨t109, A190, H⟩ := H
          try dsimp only at H
          have A19 := aM_ A190
          clear A190
          by_cases c20 : t109 = true
          ·
           subst c20
           rw [if_pos rfl] at H
           by_cases c21 : ((rd_T56 l0_0 x1_1).f0).size + x5_1.size ≤ 9223372036854775807
           ·
            rw [if_pos c21] at H
            have c21b0 := eq_true c21
            have c21b1 := decide_eq_true c21
            try have c21b2 : (9223372036854775807 < ((rd_T56 l0_0 x1_1).f0).size + x5_1.size) = False := eq_false (Nat.not_lt.2 c21)
            have H' := aM_ H
            clear H
            have hcz22_0 : wc.cell? ⟨gb106, 0, none⟩ = some (.slice A0_0 l0_0.length c0_0) := (blk_cell BK106.out 0).trans rfl
            have hfz22_0 := blk_frozen BK106.out 0
            have p107 : 0 ≤ (x1_1 : Int) := of_decide_eq_true (by (with_reducible assumption))
            have q107 : x1_1 < (l0_0.length : Int) := of_decide_eq_true (by (with_reducible assumption))
            obtain ⟨ad107, e107, hx107_0, hx107_1, hx107_2⟩ := at_T56 HR0_0.out x1_1 p107 q107
            cases e107
            replace hx107_0 := (HB.out.cell (World.block_lt_of_cell? w _ hx107_0)).trans hx107_0
            replace hx107_1 := (HB.out.cell (World.block_lt_of_cell? w _ hx107_1)).trans hx107_1
            replace hx107_2 := (HB.out.cell (World.block_lt_of_cell? w _ hx107_2)).trans hx107_2
            replace p107 := eq_true p107
            replace q107 := eq_true q107
            go_wp2_with (first | ((with_reducible refine gate_dst (N := 6) rfl ?_); (try (refine gate_guard (by rfl) ?_; dsimp only)); refine box_event ?hg (N := 6) ?hd (cs := #[.string (⟨#[]⟩ : ByteArray), .int .i64 0, .bool false]) (t := 56) ?hr ?_; (case hd => rfl); (case hg => rfl); (case hr => (go_simp; done)); intro gb108 hg w23 hbox hb; have BK108 := aM_ (hbox); have GW108 := aM_ ((by rw [hg]; exact (below_size HB.out) : w.heap.size ≤ gb108)); have GE108 := GW108; replace HB := aM_ (below_step HB.out hb); have NB106_108 := aM_ ((by rw [hg]; exact Nat.ne_of_lt (blk_lt BK106.out) : gb106 ≠ gb108)); have NB108_106 := aM_ NB106_108.out.symm; replace BK106 := aM_ (blk_below BK106.out hb); clear hb hbox hg; have hnb24 := NB108_106.out; have hnc24 := NB106_108.out; have hcz25_0 : w23.cell? ⟨gb108, 0, none⟩ = some (.string (⟨#[]⟩ : ByteArray)) := (blk_cell BK108.out 0).trans rfl; have hcz25_1 : w23.cell? ⟨gb108, 1, none⟩ = some (.int .i64 0) := (blk_cell BK108.out 1).trans rfl; have hcz25_2 : w23.cell? ⟨gb108, 2, none⟩ = some (.bool false) := (blk_cell BK108.out 2).trans rfl; have hfz25_0 := blk_frozen BK108.out 0; have hfz25_1 := blk_frozen BK108.out 1; have hfz25_2 := blk_frozen BK108.out 2) | (go_at_call 30; (with_reducible refine (spec_l2Word.calls kj3 ((rd_T56 l0_0 x1_1).f0) true _ A19.out).mono ?_); rintro e w' ⟨rfl, ⟨nd, rfl⟩⟩))
            go_roundg kj3
            case measure => have := HK1.out; have := HJ3.out; omega
            case rel => exact ⟨((rd_T56 l0_0 x1_1).f1), (((rd_T56 l0_0 x1_1).f0) ++ x5_1), (by rfl), (by rfl), H', ⟨by have := HK1.out; have := HJ3.out; omega⟩, ⟨by (with_reducible repeat (first | refine blk_drewN ?_ _ | refine blk_drew ?_ | refine blk_alloc ?_ _)); refine blk_far ?_ NB106_108.out _; refine blk_far ?_ NB106_108.out _; refine blk_far ?_ NB106_108.out _; exact BK106.out⟩, ⟨by repeat (first | (with_reducible first | exact HB.out | apply below_alloc | apply pw_below_drewN | apply below_drew1 | refine below_set ?_ GE106.out | refine below_set ?_ GE108.out) | exact HB.out)⟩⟩
           ·
            rw [if_neg c21] at H
            exact absurd H (by simp)
          ·
           replace c20 := Bool.eq_false_iff.mpr c20
           subst c20
           have H1 : (some (⟨#[63]⟩ : ByteArray)) = some r := by rw [if_neg (show ¬ (false = true) by decide)] at H; exact H
           clear H
           have H := H1
           clear H1
           obtain rfl := Option.some.inj H
           have hcz26_0 : wc.cell? ⟨gb106, 0, none⟩ = some (.slice A0_0 l0_0.length c0_0) := (blk_cell BK106.out 0).trans rfl
           have hfz26_0 := blk_frozen BK106.out 0
           have p107 : 0 ≤ (x1_1 : Int) := of_decide_eq_true (by (with_reducible assumption))
           have q107 : x1_1 < (l0_0.length : Int) := of_decide_eq_true (by (with_reducible assumption))
           obtain ⟨ad107, e107, hx107_0, hx107_1, hx107_2⟩ := at_T56 HR0_0.out x1_1 p107 q107
           cases e107
           replace hx107_0 := (HB.out.cell (World.block_lt_of_cell? w _ hx107_0)).trans hx107_0
           replace hx107_1 := (HB.out.cell (World.block_lt_of_cell? w _ hx107_1)).trans hx107_1
           replace hx107_2 := (HB.out.cell (World.block_lt_of_cell? w _ hx107_2)).trans hx107_2
           replace p107 := eq_true p107
           replace q107 := eq_true q107
           go_wp2_with (first | ((with_reducible refine gate_dst (N := 6) rfl ?_); (try (refine gate_guard (by rfl) ?_; dsimp only)); refine box_event ?hg (N := 6) ?hd (cs := #[.string (⟨#[]⟩ : ByteArray), .int .i64 0, .bool false]) (t := 56) ?hr ?_; (case hd => rfl); (case hg => rfl); (case hr => (go_simp; done)); intro gb108 hg w27 hbox hb; have BK108 := aM_ (hbox); have GW108 := aM_ ((by rw [hg]; exact (below_size HB.out) : w.heap.size ≤ gb108)); have GE108 := GW108; replace HB := aM_ (below_step HB.out hb); have NB106_108 := aM_ ((by rw [hg]; exact Nat.ne_of_lt (blk_lt BK106.out) : gb106 ≠ gb108)); have NB108_106 := aM_ NB106_108.out.symm; replace BK106 := aM_ (blk_below BK106.out hb); clear hb hbox hg; have hnb28 := NB108_106.out; have hnc28 := NB106_108.out; have hcz29_0 : w27.cell? ⟨gb108, 0, none⟩ = some (.string (⟨#[]⟩ : ByteArray)) := (blk_cell BK108.out 0).trans rfl; have hcz29_1 : w27.cell? ⟨gb108, 1, none⟩ = some (.int .i64 0) := (blk_cell BK108.out 1).trans rfl; have hcz29_2 : w27.cell? ⟨gb108, 2, none⟩ = some (.bool false) := (blk_cell BK108.out 2).trans rfl; have hfz29_0 := blk_frozen BK108.out 0; have hfz29_1 := blk_frozen BK108.out 1; have hfz29_2 := blk_frozen BK108.out 2) | (go_at_call 30; (with_reducible refine (spec_l2Word.calls kj3 ((rd_T56 l0_0 x1_1).f0) false _ A19.out).mono ?_); rintro e w' ⟨rfl, ⟨nd, rfl⟩⟩))
           go_ret
           exact ⟨by rfl, by repeat (first | (with_reducible first | exact HB.out | apply below_alloc | apply pw_below_drewN | apply below_drew1 | refine below_set ?_ GE106.out | refine below_set ?_ GE108.out) | exact HB.out)⟩
       ·
        rw [if_neg c8] at H
        exact absurd H (by simp)
      ·
       rw [if_neg c7] at H
       exact absurd H (by simp)
     ·
      replace c6 := Bool.eq_false_iff.mpr c6
      subst c6
      have H1 : (if x1_1 = 0 then (some x5_1) else (some (⟨#[63]⟩ : ByteArray))) = some r := by rw [if_neg (show ¬ (false = true) by decide)] at H; exact H
      clear H
      have H := H1
      clear H1
      by_cases c30 : x1_1 = 0
      ·
       rw [if_pos c30] at H
       have c30b0 : (x1_1 == 0) = true := beq_iff_eq.mpr c30
       have c30b1 : (x1_1 != 0) = false := bne_eq_false_iff_eq.mpr c30
       clear c30
       obtain rfl := Option.some.inj H
       go_wp2
       go_ret
       exact ⟨by rfl, by exact HB.out⟩
      ·
       rw [if_neg c30] at H
       have c30b0 : (x1_1 == 0) = false := beq_eq_false_iff_ne.mpr c30
       have c30b1 : (x1_1 != 0) = true := bne_iff_ne.mpr c30
       obtain rfl := Option.some.inj H
       go_wp2
       go_ret
       exact ⟨by rfl, by exact HB.out⟩
mutual
def spec_l2Before.l0 : Nat → ByteArray → ByteArray → Int → Option (Bool)
 | 0, _, _, _ => none
 | k + 1, x0, x1, x5 => if x5 < (x0.size : Int) then (spec_l2Before.j1 k x0 x1 x5 (decide (x5 < (x1.size : Int)))) else (spec_l2Before.j1 k x0 x1 x5 false)
def spec_l2Before.j1 : Nat → ByteArray → ByteArray → Int → Bool → Option (Bool)
 | 0, _, _, _, _ => none
 | k + 1, x0, x1, x5, x15 => if x15 = true then (if 0 ≤ x5 then (if x5 < (x0.size : Int) then (if x5 < (x1.size : Int) then (if (bt x0 x5) = (bt x1 x5) then (spec_l2Before.l0 k x0 x1 (wrap64 (x5 + 1))) else (some (decide ((bt x0 x5) < (bt x1 x5))))) else (none)) else (none)) else (none)) else (some (decide ((x0.size : Int) < (x1.size : Int))))
end
def spec_l2Before.f (k : Nat) (a0 : ByteArray) (a1 : ByteArray) : Option (Bool) := spec_l2Before.l0 k a0 a1 0
theorem spec_l2Before.mono_l : ∀ k, (∀ y0 y1 y2, LeO (spec_l2Before.l0 k y0 y1 y2) (spec_l2Before.l0 (k + 1) y0 y1 y2)) ∧ (∀ y0 y1 y2 y3, LeO (spec_l2Before.j1 k y0 y1 y2 y3) (spec_l2Before.j1 (k + 1) y0 y1 y2 y3))
 | 0 => ⟨fun _ _ _ r h => by simp [spec_l2Before.l0] at h, fun _ _ _ _ r h => by simp [spec_l2Before.j1] at h⟩
 | k + 1 => by
  obtain ⟨ih0, ih1⟩ := spec_l2Before.mono_l k
  refine ⟨?_, ?_⟩
  ·
   intro y0 y1 y2
   unfold spec_l2Before.l0
   repeat' first
   | (with_reducible exact ih0 _ _ _)
   | (with_reducible exact ih1 _ _ _ _)
   | (with_reducible exact LeO.refl _)
   | (with_reducible exact LeO.none _)
   | (with_reducible refine LeO.ite ?_ ?_)
   | (with_reducible refine LeO.bind ?_ (fun _ => ?_))
   | exact ih0 _ _ _
   | exact ih1 _ _ _ _
   | exact LeO.none _
   | refine LeO.ite ?_ ?_
   | refine LeO.bind ?_ (fun _ => ?_)
  ·
   intro y0 y1 y2 y3
   unfold spec_l2Before.j1
   repeat' first
   | (with_reducible exact ih0 _ _ _)
   | (with_reducible exact ih1 _ _ _ _)
   | (with_reducible exact LeO.refl _)
   | (with_reducible exact LeO.none _)
   | (with_reducible refine LeO.ite ?_ ?_)
   | (with_reducible refine LeO.bind ?_ (fun _ => ?_))
   | exact ih0 _ _ _
   | exact ih1 _ _ _ _
   | exact LeO.none _
   | refine LeO.ite ?_ ?_
   | refine LeO.bind ?_ (fun _ => ?_)
theorem spec_l2Before.mono : ∀ a0 a1 k, LeO (spec_l2Before.f k a0 a1) (spec_l2Before.f (k + 1) a0 a1) := by
 intro a0 a1 k
 obtain ⟨ih0, ih1⟩ := spec_l2Before.mono_l k
 unfold spec_l2Before.f
 repeat' first
   | (with_reducible exact ih0 _ _ _)
   | (with_reducible exact ih1 _ _ _ _)
   | (with_reducible exact LeO.refl _)
   | (with_reducible exact LeO.none _)
   | (with_reducible refine LeO.ite ?_ ?_)
   | (with_reducible refine LeO.bind ?_ (fun _ => ?_))
   | exact ih0 _ _ _
   | exact ih1 _ _ _ _
   | exact LeO.none _
   | refine LeO.ite ?_ ?_
   | refine LeO.bind ?_ (fun _ => ?_)
theorem spec_l2Before.calls (k : Nat) (a0 : ByteArray) (a1 : ByteArray) (r : Bool) (w : World) (h : spec_l2Before.f k a0 a1 = some r) :
  Calls Tryd.prog 59 #[.string a0, .string a1] w fun e w' => e = .returned (.bool r) ∧ Drawn0 w w' := by
 have H : (spec_l2Before.l0 k a0 a1 0) = some r := h
 clear h
 have H' := aM_ H
 clear H
 go_enter Tryd.func59, Tryd.ntmps59
 go_wp2
 repeat (go_quiet (fail); try go_wp2)
 go_loopg [5] k (fun kq v5 w' => ∃ (x5_1 : Int), v5 = .int .i64 x5_1 ∧ Aside0 (spec_l2Before.l0 kq a0 a1 x5_1 = some r) ∧ Aside0 (kq ≤ k) ∧ Drawn0 w w')
 case atStart => exact ⟨(0), (by rfl), H', ⟨Nat.le_refl _⟩, by repeat (first | exact Drawn0.refl _ | apply Drawn0.step)⟩
 case round =>
  clear H'
  try clear p2
  obtain ⟨x5_1, rfl, HA, HK1, ⟨m1, rfl⟩⟩ := hrel
  cases gk with
  | zero => exact absurd HA.out (by simp [spec_l2Before.l0])
  | succ k1 =>
   have H := HA.out
   clear HA
   simp only [spec_l2Before.l0] at H
   have HC3 := aM_ H
   clear H
   go_upto_region 2 with (fail)
   repeat (go_quiet (fail); go_upto_region 2 with (fail))
   go_cut [15] (fun v15 wc => ∃ (kq : Nat) (x15_2 : Bool), v15 = .bool x15_2 ∧ Aside0 (spec_l2Before.j1 kq a0 a1 x5_1 x15_2 = some r) ∧ Aside0 (kq ≤ k1) ∧ Drawn0 w wc)
   case first =>
    have H := HC3.out
    clear HC3
    by_cases c4 : x5_1 < (a0.size : Int)
    ·
     rw [if_pos c4] at H
     have c4b0 := decide_eq_true c4
     clear c4
     (skip)
     have H' := aM_ H
     clear H
     go_wp2
     repeat (go_quiet (fail); try go_wp2)
     go_meet
     case rel => exact ⟨_, (decide (x5_1 < (a1.size : Int))), (by rfl), H', ⟨by have := HK1.out; omega⟩, by repeat (first | exact Drawn0.refl _ | apply Drawn0.step)⟩
    ·
     rw [if_neg c4] at H
     have c4b0 := decide_eq_false c4
     clear c4
     (skip)
     have H' := aM_ H
     clear H
     go_wp2
     repeat (go_quiet (fail); try go_wp2)
     go_meet
     case rel => exact ⟨_, (false), (by rfl), H', ⟨by have := HK1.out; omega⟩, by repeat (first | exact Drawn0.refl _ | apply Drawn0.step)⟩
   case rest =>
    clear HC3
    try clear p2
    try clear c4
    try clear c4b0
    try clear p2
    obtain ⟨kq, x15_2, rfl, HA, HJ2, ⟨mc2, rfl⟩⟩ := hcut
    cases kq with
    | zero => exact absurd HA.out (by simp [spec_l2Before.j1])
    | succ kj2 =>
     have H := HA.out
     clear HA
     simp only [spec_l2Before.j1] at H
     by_cases c5 : x15_2 = true
     ·
      subst c5
      rw [if_pos rfl] at H
      by_cases c6 : 0 ≤ x5_1
      ·
       rw [if_pos c6] at H
       have c6b0 := decide_eq_true c6
       clear c6
       by_cases c7 : x5_1 < (a0.size : Int)
       ·
        rw [if_pos c7] at H
        have c7b0 := decide_eq_true c7
        clear c7
        by_cases c9 : x5_1 < (a1.size : Int)
        ·
         rw [if_pos c9] at H
         have c9b0 := decide_eq_true c9
         clear c9
         by_cases c11 : (bt a0 x5_1) = (bt a1 x5_1)
         ·
          rw [if_pos c11] at H
          have c11b0 : ((bt a0 x5_1) == (bt a1 x5_1)) = true := beq_iff_eq.mpr c11
          have c11b1 : ((bt a0 x5_1) != (bt a1 x5_1)) = false := bne_eq_false_iff_eq.mpr c11
          clear c11
          have H' := aM_ H
          clear H
          have p8 : 0 ≤ (x5_1 : Int) := of_decide_eq_true (by (with_reducible assumption))
          have q8 : x5_1 < (a0.size : Int) := of_decide_eq_true (by (with_reducible assumption))
          have hx8 := bt_at a0 x5_1
          replace p8 := eq_true p8
          replace q8 := eq_true q8
          have p10 : 0 ≤ (x5_1 : Int) := of_decide_eq_true (by (with_reducible assumption))
          have q10 : x5_1 < (a1.size : Int) := of_decide_eq_true (by (with_reducible assumption))
          have hx10 := bt_at a1 x5_1
          replace p10 := eq_true p10
          replace q10 := eq_true q10
          go_wp2
          repeat (go_quiet (fail); try go_wp2)
          go_roundg kj2
          case measure => have := HK1.out; have := HJ2.out; omega
          case rel => exact ⟨(wrap64 (x5_1 + 1)), (by rfl), H', ⟨by have := HK1.out; have := HJ2.out; omega⟩, by repeat (first | exact Drawn0.refl _ | apply Drawn0.step)⟩
         ·
          rw [if_neg c11] at H
          have c11b0 : ((bt a0 x5_1) == (bt a1 x5_1)) = false := beq_eq_false_iff_ne.mpr c11
          have c11b1 : ((bt a0 x5_1) != (bt a1 x5_1)) = true := bne_iff_ne.mpr c11
          obtain rfl := Option.some.inj H
          have p8 : 0 ≤ (x5_1 : Int) := of_decide_eq_true (by (with_reducible assumption))
          have q8 : x5_1 < (a0.size : Int) := of_decide_eq_true (by (with_reducible assumption))
          have hx8 := bt_at a0 x5_1
          replace p8 := eq_true p8
          replace q8 := eq_true q8
          have p10 : 0 ≤ (x5_1 : Int) := of_decide_eq_true (by (with_reducible assumption))
          have q10 : x5_1 < (a1.size : Int) := of_decide_eq_true (by (with_reducible assumption))
          have hx10 := bt_at a1 x5_1
          replace p10 := eq_true p10
          replace q10 := eq_true q10
          have p12 : 0 ≤ (x5_1 : Int) := of_decide_eq_true (by (with_reducible assumption))
          have q12 : x5_1 < (a0.size : Int) := of_decide_eq_true (by (with_reducible assumption))
          have hx12 := bt_at a0 x5_1
          replace p12 := eq_true p12
          replace q12 := eq_true q12
          have p13 : 0 ≤ (x5_1 : Int) := of_decide_eq_true (by (with_reducible assumption))
          have q13 : x5_1 < (a1.size : Int) := of_decide_eq_true (by (with_reducible assumption))
          have hx13 := bt_at a1 x5_1
          replace p13 := eq_true p13
          replace q13 := eq_true q13
          go_wp2
          repeat (go_quiet (fail); try go_wp2)
          go_ret
          exact ⟨by rfl, by repeat (first | exact Drawn0.refl _ | apply Drawn0.step)⟩
        ·
         rw [if_neg c9] at H
         exact absurd H (by simp)
       ·
        rw [if_neg c7] at H
        exact absurd H (by simp)
      ·
       rw [if_neg c6] at H
       exact absurd H (by simp)
     ·
      replace c5 := Bool.eq_false_iff.mpr c5
      subst c5
      have H1 : (some (decide ((a0.size : Int) < (a1.size : Int)))) = some r := by rw [if_neg (show ¬ (false = true) by decide)] at H; exact H
      clear H
      have H := H1
      clear H1
      obtain rfl := Option.some.inj H
      go_wp2
      repeat (go_quiet (fail); try go_wp2)
      go_ret
      exact ⟨by rfl, by repeat (first | exact Drawn0.refl _ | apply Drawn0.step)⟩
def spec_l2Own.f (l0 : List ByteArray) : Option (List ByteArray) := (some (([] : List ByteArray) : List ByteArray)).bind fun y110 => (if y110.length + l0.length < 8796093022208 then (some (y110 ++ l0)) else (none))
theorem spec_l2Own.calls (A0 : Option Addr) (c0 : Nat) (l0 : List ByteArray) (r : List ByteArray) (w : World) (hr0 : Kd.C Kd.string w A0 l0.length l0) (hc0 : l0.length ≤ c0) (h : spec_l2Own.f l0 = some r) :
  Calls Tryd.prog 60 #[.slice A0 l0.length c0] w fun e w' => ∃ v0_ : Value, e = .returned (v0_) ∧ Kd.R Kd.string 9 w' w.heap.size (fun _ => True) v0_ r ∧ Below w.heap.size w w' := by
 have HR0 := aM_ hr0
 have HC0 := aM_ hc0
 clear hr0 hc0
 have HB := aM_ (Below.refl w.heap.size w)
 have H : ((some (([] : List ByteArray) : List ByteArray)).bind fun y110 => (if y110.length + l0.length < 8796093022208 then (some (y110 ++ l0)) else (none))) = some r := h
 clear h
 obtain ⟨y110, hy110⟩ : ∃ y_ : List ByteArray, y_ = (([] : List ByteArray)) := ⟨_, rfl⟩
 replace H : (if y110.length + l0.length < 8796093022208 then (some (y110 ++ l0)) else (none)) = some r := by first | (rw [hy110]; with_reducible exact H) | (have H2_ := (Option.bind_some _ _).symm.trans H; rw [hy110]; with_reducible exact H2_) | (have H2_ := (Option.bind_some _ _).symm.trans H; with_reducible exact H2_) | with_reducible exact H | (rw [hy110]; exact H) | exact H
 have Ny110 := aM_ hy110
 clear hy110
 by_cases c2 : y110.length + l0.length < 8796093022208
 rotate_left
 ·
  rw [if_neg c2] at H
  exact absurd H (by simp)
 rw [if_pos c2] at H
 have LMc2 := aM_ c2
 clear c2
 obtain ⟨y113, hy113⟩ : ∃ y_ : List ByteArray, y_ = (y110 ++ l0) := ⟨_, rfl⟩
 replace H : (some y113) = some r := by first | (rw [hy113]; with_reducible exact H) | (have H2_ := (Option.bind_some _ _).symm.trans H; rw [hy113]; with_reducible exact H2_) | (have H2_ := (Option.bind_some _ _).symm.trans H; with_reducible exact H2_) | with_reducible exact H | (rw [hy113]; exact H) | exact H
 have Ny113 := aM_ hy113
 clear hy113
 obtain rfl := Option.some.inj H
 go_enter Tryd.func60, Tryd.ntmps60
 go_wp2_with (first | ((with_reducible refine gate_dst (N := 3) rfl ?_); refine Kd.R_lit Kd.string _ 9 ?hg (N := 3) ?hd (xs := ([] : List ByteArray)) (inner := []) (ok := fun _ => True) (okp := fun _ => True) ?hr ?hp (fun _ hk => hk) trivial (Below.refl _ _) (Nat.le_refl _) (by simp) ?_; (case hd => rfl); (case hg => rfl); (case hr => (go_simp; done)); (case hp => exact (Reps.none _ _)); intro v111 w3 ho4 hb hg_ hnew_; clear hg_ hnew_; (rw [← Ny110.out] at ho4); have HO112 := aM_ (Kd.R_lower ho4 (below_size HB.out)); replace HB := aM_ (below_step HB.out hb); clear hb ho4) | ((with_reducible refine gate_builtin (b := .append) (xs := #[.tmp 3, .tmp 4]) rfl ?_); at_builtin; refine Kd.R_append_rows Kd.string (w0 := w) w.heap.size rfl (.tmp 3) (.tmp 4) 52 9 (.string ⟨#[]⟩) 16 rfl Tryd.underlying52 info9 rfl (by decide) (by omega) v111 y110 l0 _ _ _ (fun _ => True) (fun _ => False) rfl rfl ?aO ?aR (fun _ _ h => h) (fun _ h => h.elim) ?aF ?aB ?aS ?aL ?_; (case aR => repeat (first | exact (Kd.C_below HR0.out HB.out) | (with_reducible refine Kd.C_alloc ?_ _) | (with_reducible refine Kd.C_drewN ?_ _) | (with_reducible refine Kd.C_drew ?_))); (case aB => exact HB.out); (case aF => exact (fun _ _ => trivial)); (case aO => exact HO112.out); (case aS => exact (below_size HB.out)); (case aL => have := LMc2.out; omega); intro v114 w5 ho hb hg hat; rw [← Ny113.out] at ho; have n0_ := aM_ (hb); have n1_ := aM_ (ho); clear HB; clear HO112; have HB := n0_; have HO115 := n1_; clear n0_ n1_; clear ho hb hg hat))
 go_ret
 exact ⟨_, by rfl, by exact HO115.out, by exact HB.out⟩
def spec_l2Has.l0 : Nat → List ByteArray → ByteArray → Int → Option (Bool)
 | 0, _, _, _ => none
 | k + 1, x0, x1, x5 => if x5 < (x0.length : Int) then (if 0 ≤ x5 then (if (rdOf ByteArray.empty x0 x5).toList = x1.toList then (some true) else (spec_l2Has.l0 k x0 x1 (wrap64 (x5 + 1)))) else (none)) else (some false)
def spec_l2Has.f (k : Nat) (l0 : List ByteArray) (a1 : ByteArray) : Option (Bool) := spec_l2Has.l0 k l0 a1 0
theorem spec_l2Has.mono_l : ∀ k, (∀ y0 y1 y2, LeO (spec_l2Has.l0 k y0 y1 y2) (spec_l2Has.l0 (k + 1) y0 y1 y2))
 | 0 => fun _ _ _ r h => by simp [spec_l2Has.l0] at h
 | k + 1 => by
  have ih0 := spec_l2Has.mono_l k
  ·
   intro y0 y1 y2
   unfold spec_l2Has.l0
   repeat' first
   | (with_reducible exact ih0 _ _ _)
   | (with_reducible exact LeO.refl _)
   | (with_reducible exact LeO.none _)
   | (with_reducible refine LeO.ite ?_ ?_)
   | (with_reducible refine LeO.bind ?_ (fun _ => ?_))
   | exact ih0 _ _ _
   | exact LeO.none _
   | refine LeO.ite ?_ ?_
   | refine LeO.bind ?_ (fun _ => ?_)
theorem spec_l2Has.mono : ∀ a0 a1 k, LeO (spec_l2Has.f k a0 a1) (spec_l2Has.f (k + 1) a0 a1) := by
 intro a0 a1 k
 have ih0 := spec_l2Has.mono_l k
 unfold spec_l2Has.f
 repeat' first
   | (with_reducible exact ih0 _ _ _)
   | (with_reducible exact LeO.refl _)
   | (with_reducible exact LeO.none _)
   | (with_reducible refine LeO.ite ?_ ?_)
   | (with_reducible refine LeO.bind ?_ (fun _ => ?_))
   | exact ih0 _ _ _
   | exact LeO.none _
   | refine LeO.ite ?_ ?_
   | refine LeO.bind ?_ (fun _ => ?_)
theorem spec_l2Has.calls (k : Nat) (A0 : Option Addr) (c0 : Nat) (l0 : List ByteArray) (a1 : ByteArray) (r : Bool) (w : World) (hr0 : Kd.C Kd.string w A0 l0.length l0) (hc0 : l0.length ≤ c0) (h : spec_l2Has.f k l0 a1 = some r) :
  Calls Tryd.prog 49 #[.slice A0 l0.length c0, .string a1] w fun e w' => e = .returned (.bool r) ∧ Drawn0 w w' := by
 have HR0 := aM_ hr0
 have HC0 := aM_ hc0
 clear hr0 hc0
 have H : (spec_l2Has.l0 k l0 a1 0) = some r := h
 clear h
 have H' := aM_ H
 clear H
 go_enter Tryd.func49, Tryd.ntmps49
 go_wp2
 go_loopg [5] k (fun kq v5 w' => ∃ (x5_1 : Int), v5 = .int .i64 x5_1 ∧ Aside0 (spec_l2Has.l0 kq l0 a1 x5_1 = some r) ∧ Aside0 (kq ≤ k) ∧ Drawn0 w w')
 case atStart => exact ⟨(0), (by rfl), H', ⟨Nat.le_refl _⟩, by repeat (first | exact Drawn0.refl _ | apply Drawn0.step)⟩
 case round =>
  clear H'
  try clear p2
  obtain ⟨x5_1, rfl, HA, HK1, ⟨m1, rfl⟩⟩ := hrel
  cases gk with
  | zero => exact absurd HA.out (by simp [spec_l2Has.l0])
  | succ k1 =>
   have H := HA.out
   clear HA
   simp only [spec_l2Has.l0] at H
   by_cases c3 : x5_1 < (l0.length : Int)
   ·
    rw [if_pos c3] at H
    have c3b0 := decide_eq_true c3
    clear c3
    by_cases c4 : 0 ≤ x5_1
    ·
     rw [if_pos c4] at H
     have c4b0 := decide_eq_true c4
     clear c4
     by_cases c5 : (rdOf ByteArray.empty l0 x5_1).toList = a1.toList
     ·
      rw [if_pos c5] at H
      have c5b0 : ((rdOf ByteArray.empty l0 x5_1).toList == a1.toList) = true := beq_iff_eq.mpr c5
      have c5b1 : ((rdOf ByteArray.empty l0 x5_1).toList != a1.toList) = false := bne_eq_false_iff_eq.mpr c5
      clear c5
      obtain rfl := Option.some.inj H
      have p162 : 0 ≤ (x5_1 : Int) := of_decide_eq_true (by (with_reducible assumption))
      have q162 : x5_1 < (l0.length : Int) := of_decide_eq_true (by (with_reducible assumption))
      obtain ⟨ad162, e162, hx162_0⟩ := Kd.at_string HR0.out x5_1 p162 q162
      cases e162
      replace p162 := eq_true p162
      replace q162 := eq_true q162
      go_wp2
      go_ret
      exact ⟨by rfl, by repeat (first | exact Drawn0.refl _ | apply Drawn0.step)⟩
     ·
      rw [if_neg c5] at H
      have c5b0 : ((rdOf ByteArray.empty l0 x5_1).toList == a1.toList) = false := beq_eq_false_iff_ne.mpr c5
      have c5b1 : ((rdOf ByteArray.empty l0 x5_1).toList != a1.toList) = true := bne_iff_ne.mpr c5
      have H' := aM_ H
      clear H
      have p162 : 0 ≤ (x5_1 : Int) := of_decide_eq_true (by (with_reducible assumption))
      have q162 : x5_1 < (l0.length : Int) := of_decide_eq_true (by (with_reducible assumption))
      obtain ⟨ad162, e162, hx162_0⟩ := Kd.at_string HR0.out x5_1 p162 q162
      cases e162
      replace p162 := eq_true p162
      replace q162 := eq_true q162
      go_wp2
      go_roundg k1
      case measure => have := HK1.out; omega
      case rel => exact ⟨(wrap64 (x5_1 + 1)), (by rfl), H', ⟨by have := HK1.out; omega⟩, by repeat (first | exact Drawn0.refl _ | apply Drawn0.step)⟩
    ·
     rw [if_neg c4] at H
     exact absurd H (by simp)
   ·
    rw [if_neg c3] at H
    have c3b0 := decide_eq_false c3
    clear c3
    obtain rfl := Option.some.inj H
    go_wp2
    go_ret
    exact ⟨by rfl, by repeat (first | exact Drawn0.refl _ | apply Drawn0.step)⟩
def spec_l2Place.l0 : Nat → List ByteArray → ByteArray → Int → Option (Int)
 | 0, _, _, _ => none
 | k + 1, x0, x1, x5 => if x5 < (x0.length : Int) then (if 0 ≤ x5 then (if (rdOf ByteArray.empty x0 x5).toList = x1.toList then (some x5) else (spec_l2Place.l0 k x0 x1 (wrap64 (x5 + 1)))) else (none)) else (some (-1))
def spec_l2Place.f (k : Nat) (l0 : List ByteArray) (a1 : ByteArray) : Option (Int) := spec_l2Place.l0 k l0 a1 0
theorem spec_l2Place.mono_l : ∀ k, (∀ y0 y1 y2, LeO (spec_l2Place.l0 k y0 y1 y2) (spec_l2Place.l0 (k + 1) y0 y1 y2))
 | 0 => fun _ _ _ r h => by simp [spec_l2Place.l0] at h
 | k + 1 => by
  have ih0 := spec_l2Place.mono_l k
  ·
   intro y0 y1 y2
   unfold spec_l2Place.l0
   repeat' first
   | (with_reducible exact ih0 _ _ _)
   | (with_reducible exact LeO.refl _)
   | (with_reducible exact LeO.none _)
   | (with_reducible refine LeO.ite ?_ ?_)
   | (with_reducible refine LeO.bind ?_ (fun _ => ?_))
   | exact ih0 _ _ _
   | exact LeO.none _
   | refine LeO.ite ?_ ?_
   | refine LeO.bind ?_ (fun _ => ?_)
theorem spec_l2Place.mono : ∀ a0 a1 k, LeO (spec_l2Place.f k a0 a1) (spec_l2Place.f (k + 1) a0 a1) := by
 intro a0 a1 k
 have ih0 := spec_l2Place.mono_l k
 unfold spec_l2Place.f
 repeat' first
   | (with_reducible exact ih0 _ _ _)
   | (with_reducible exact LeO.refl _)
   | (with_reducible exact LeO.none _)
   | (with_reducible refine LeO.ite ?_ ?_)
   | (with_reducible refine LeO.bind ?_ (fun _ => ?_))
   | exact ih0 _ _ _
   | exact LeO.none _
   | refine LeO.ite ?_ ?_
   | refine LeO.bind ?_ (fun _ => ?_)
theorem spec_l2Place.calls (k : Nat) (A0 : Option Addr) (c0 : Nat) (l0 : List ByteArray) (a1 : ByteArray) (r : Int) (w : World) (hr0 : Kd.C Kd.string w A0 l0.length l0) (hc0 : l0.length ≤ c0) (h : spec_l2Place.f k l0 a1 = some r) :
  Calls Tryd.prog 50 #[.slice A0 l0.length c0, .string a1] w fun e w' => e = .returned (.int .i64 r) ∧ Drawn0 w w' := by
 have HR0 := aM_ hr0
 have HC0 := aM_ hc0
 clear hr0 hc0
 have H : (spec_l2Place.l0 k l0 a1 0) = some r := h
 clear h
 have H' := aM_ H
 clear H
 go_enter Tryd.func50, Tryd.ntmps50
 go_wp2
 go_loopg [5] k (fun kq v5 w' => ∃ (x5_1 : Int), v5 = .int .i64 x5_1 ∧ Aside0 (spec_l2Place.l0 kq l0 a1 x5_1 = some r) ∧ Aside0 (kq ≤ k) ∧ Drawn0 w w')
 case atStart => exact ⟨(0), (by rfl), H', ⟨Nat.le_refl _⟩, by repeat (first | exact Drawn0.refl _ | apply Drawn0.step)⟩
 case round =>
  clear H'
  try clear p2
  obtain ⟨x5_1, rfl, HA, HK1, ⟨m1, rfl⟩⟩ := hrel
  cases gk with
  | zero => exact absurd HA.out (by simp [spec_l2Place.l0])
  | succ k1 =>
   have H := HA.out
   clear HA
   simp only [spec_l2Place.l0] at H
   by_cases c3 : x5_1 < (l0.length : Int)
   ·
    rw [if_pos c3] at H
    have c3b0 := decide_eq_true c3
    clear c3
    by_cases c4 : 0 ≤ x5_1
    ·
     rw [if_pos c4] at H
     have c4b0 := decide_eq_true c4
     clear c4
     by_cases c5 : (rdOf ByteArray.empty l0 x5_1).toList = a1.toList
     ·
      rw [if_pos c5] at H
      have c5b0 : ((rdOf ByteArray.empty l0 x5_1).toList == a1.toList) = true := beq_iff_eq.mpr c5
      have c5b1 : ((rdOf ByteArray.empty l0 x5_1).toList != a1.toList) = false := bne_eq_false_iff_eq.mpr c5
      clear c5
      obtain rfl := Option.some.inj H
      have p163 : 0 ≤ (x5_1 : Int) := of_decide_eq_true (by (with_reducible assumption))
      have q163 : x5_1 < (l0.length : Int) := of_decide_eq_true (by (with_reducible assumption))
      obtain ⟨ad163, e163, hx163_0⟩ := Kd.at_string HR0.out x5_1 p163 q163
      cases e163
      replace p163 := eq_true p163
      replace q163 := eq_true q163
      go_wp2
      go_ret
      exact ⟨by rfl, by repeat (first | exact Drawn0.refl _ | apply Drawn0.step)⟩
     ·
      rw [if_neg c5] at H
      have c5b0 : ((rdOf ByteArray.empty l0 x5_1).toList == a1.toList) = false := beq_eq_false_iff_ne.mpr c5
      have c5b1 : ((rdOf ByteArray.empty l0 x5_1).toList != a1.toList) = true := bne_iff_ne.mpr c5
      have H' := aM_ H
      clear H
      have p163 : 0 ≤ (x5_1 : Int) := of_decide_eq_true (by (with_reducible assumption))
      have q163 : x5_1 < (l0.length : Int) := of_decide_eq_true (by (with_reducible assumption))
      obtain ⟨ad163, e163, hx163_0⟩ := Kd.at_string HR0.out x5_1 p163 q163
      cases e163
      replace p163 := eq_true p163
      replace q163 := eq_true q163
      go_wp2
      go_roundg k1
      case measure => have := HK1.out; omega
      case rel => exact ⟨(wrap64 (x5_1 + 1)), (by rfl), H', ⟨by have := HK1.out; omega⟩, by repeat (first | exact Drawn0.refl _ | apply Drawn0.step)⟩
    ·
     rw [if_neg c4] at H
     exact absurd H (by simp)
   ·
    rw [if_neg c3] at H
    have c3b0 := decide_eq_false c3
    clear c3
    obtain rfl := Option.some.inj H
    go_wp2
    go_ret
    exact ⟨by rfl, by repeat (first | exact Drawn0.refl _ | apply Drawn0.step)⟩
end Go.Proofs.YtfhffcefpnkllaaDoor.P
namespace Go.Proofs.YtfhffcefpnkllaaDoor.P
open Go.RowKit Go.Proofs.YtfhffcefpnkllaaDoorW.PrintWords Go.Proofs.YtfhffcefpnkllaaDoorW.PrintLast Go.Proofs.YtfhffcefpnkllaaDoorW.PrintMore
open List renaming setIfInBounds_toArray → sA_, set_cons_zero → sB_, set_cons_succ → sC_, map_toArray → sD_, map_cons → sE_, map_nil → sF_, length_drop → sG_, length_take → sH_
open Bool renaming true → ty, false → fy
open Aside0 renaming mk → aM_
attribute [local go_sem] max2_int min2_int max_two min_two max_three min_three max_four min_four
attribute [local go_sem high] eqA56
mutual
def spec_l4Same.l0 : Nat → Int → List (S56) → List (S56) → Option (Bool)
 | 0, _, _, _ => none
 | k + 1, x5, x188000, x189000 => if x5 < (x188000.length : Int) then (spec_l4Same.j1 k x5 (decide (x5 < (x189000.length : Int))) x188000 x189000) else (spec_l4Same.j1 k x5 false x188000 x189000)
def spec_l4Same.j1 : Nat → Int → Bool → List (S56) → List (S56) → Option (Bool)
 | 0, _, _, _, _ => none
 | k + 1, x5, x17, x188000, x189000 => if x17 = true then (if 0 ≤ x5 then (if x5 < (x188000.length : Int) then (if x5 < (x189000.length : Int) then (if (!((((rd_T56 x188000 x5).f0).toList) == (((rd_T56 x189000 x5).f0).toList)) || (!(((rd_T56 x188000 x5).f1) == ((rd_T56 x189000 x5).f1)) || (!(((rd_T56 x188000 x5).f2) == ((rd_T56 x189000 x5).f2))))) = true then (some false) else (spec_l4Same.l0 k (wrap64 (x5 + 1)) x188000 x189000)) else (none)) else (none)) else (none)) else (some ((x188000.length : Int) == (x189000.length : Int)))
end
def spec_l4Same.f (k : Nat) (l0_0 : List (S56)) (l1_0 : List (S56)) : Option (Bool) := spec_l4Same.l0 k 0 l0_0 l1_0
theorem spec_l4Same.mono_l : ∀ k, (∀ y0 y1 y2, LeO (spec_l4Same.l0 k y0 y1 y2) (spec_l4Same.l0 (k + 1) y0 y1 y2)) ∧ (∀ y0 y1 y2 y3, LeO (spec_l4Same.j1 k y0 y1 y2 y3) (spec_l4Same.j1 (k + 1) y0 y1 y2 y3))
 | 0 => ⟨fun _ _ _ r h => by simp [spec_l4Same.l0] at h, fun _ _ _ _ r h => by simp [spec_l4Same.j1] at h⟩
 | k + 1 => by
  obtain ⟨ih0, ih1⟩ := spec_l4Same.mono_l k
  refine ⟨?_, ?_⟩
  ·
   intro y0 y1 y2
   unfold spec_l4Same.l0
   repeat' first
   | (with_reducible exact ih0 _ _ _)
   | (with_reducible exact ih1 _ _ _ _)
   | (with_reducible exact LeO.refl _)
   | (with_reducible exact LeO.none _)
   | (with_reducible refine LeO.ite ?_ ?_)
   | (with_reducible refine LeO.bind ?_ (fun _ => ?_))
   | exact ih0 _ _ _
   | exact ih1 _ _ _ _
   | exact LeO.none _
   | refine LeO.ite ?_ ?_
   | refine LeO.bind ?_ (fun _ => ?_)
  ·
   intro y0 y1 y2 y3
   unfold spec_l4Same.j1
   repeat' first
   | (with_reducible exact ih0 _ _ _)
   | (with_reducible exact ih1 _ _ _ _)
   | (with_reducible exact LeO.refl _)
   | (with_reducible exact LeO.none _)
   | (with_reducible refine LeO.ite ?_ ?_)
   | (with_reducible refine LeO.bind ?_ (fun _ => ?_))
   | exact ih0 _ _ _
   | exact ih1 _ _ _ _
   | exact LeO.none _
   | refine LeO.ite ?_ ?_
   | refine LeO.bind ?_ (fun _ => ?_)
theorem spec_l4Same.mono : ∀ a0 a1 k, LeO (spec_l4Same.f k a0 a1) (spec_l4Same.f (k + 1) a0 a1) := by
 intro a0 a1 k
 obtain ⟨ih0, ih1⟩ := spec_l4Same.mono_l k
 unfold spec_l4Same.f
 repeat' first
   | (with_reducible exact ih0 _ _ _)
   | (with_reducible exact ih1 _ _ _ _)
   | (with_reducible exact LeO.refl _)
   | (with_reducible exact LeO.none _)
   | (with_reducible refine LeO.ite ?_ ?_)
   | (with_reducible refine LeO.bind ?_ (fun _ => ?_))
   | exact ih0 _ _ _
   | exact ih1 _ _ _ _
   | exact LeO.none _
   | refine LeO.ite ?_ ?_
   | refine LeO.bind ?_ (fun _ => ?_)
theorem spec_l4Same.calls (k : Nat) (A0_0 : Option Addr) (c0_0 : Nat) (l0_0 : List (S56)) (A1_0 : Option Addr) (c1_0 : Nat) (l1_0 : List (S56)) (r : Bool) (w : World) (hr0_0 : Kd.C k56 w A0_0 l0_0.length l0_0) (hc0_0 : l0_0.length ≤ c0_0) (hr1_0 : Kd.C k56 w A1_0 l1_0.length l1_0) (hc1_0 : l1_0.length ≤ c1_0) (h : spec_l4Same.f k l0_0 l1_0 = some r) :
  Calls Tryd.prog 38 #[.agg #[.slice A0_0 l0_0.length c0_0], .agg #[.slice A1_0 l1_0.length c1_0]] w fun e w' => e = .returned (.bool r) ∧ Below w.heap.size w w' := by
 have hu29 := Tryd.underlying29
 have hu56 := Tryd.underlying56
 have HR0_0 := aM_ hr0_0
 have HC0_0 := aM_ hc0_0
 clear hr0_0 hc0_0
 have HR1_0 := aM_ hr1_0
 have HC1_0 := aM_ hc1_0
 clear hr1_0 hc1_0
 have HB := aM_ (Below.refl w.heap.size w)
 have H : (spec_l4Same.l0 k 0 l0_0 l1_0) = some r := h
 clear h
 have H' := aM_ H
 clear H
 go_enter Tryd.func38, Tryd.ntmps38
 go_wp2_with (first | ((with_reducible refine gate_dst (N := 2) rfl ?_); (try (refine gate_guard (by rfl) ?_; dsimp only)); refine box_event ?hg (N := 2) ?hd (cs := #[.slice A0_0 l0_0.length c0_0]) (t := 29) ?hr ?_; (case hd => rfl); (case hg => rfl); (case hr => (go_simp; done)); intro gb187 hg w3 hbox hb; have BK187 := aM_ (hbox); have GW187 := aM_ ((by rw [hg]; exact (below_size HB.out) : w.heap.size ≤ gb187)); have GE187 := GW187; replace HB := aM_ (below_step HB.out hb); clear hb hbox hg) | ((with_reducible refine gate_dst (N := 3) rfl ?_); (try (refine gate_guard (by rfl) ?_; dsimp only)); refine box_event ?hg (N := 3) ?hd (cs := #[.slice A1_0 l1_0.length c1_0]) (t := 29) ?hr ?_; (case hd => rfl); (case hg => rfl); (case hr => (go_simp; done)); intro gb188 hg w4 hbox hb; have BK188 := aM_ (hbox); have GW188 := aM_ ((by rw [hg]; exact (below_size HB.out) : w.heap.size ≤ gb188)); have GE188 := GW188; replace HB := aM_ (below_step HB.out hb); have NB187_188 := aM_ ((by rw [hg]; exact Nat.ne_of_lt (blk_lt BK187.out) : gb187 ≠ gb188)); have NB188_187 := aM_ NB187_188.out.symm; replace BK187 := aM_ (blk_below BK187.out hb); clear hb hbox hg))
 repeat (go_quiet (first | ((with_reducible refine gate_dst (N := 2) rfl ?_); (try (refine gate_guard (by rfl) ?_; dsimp only)); refine box_event ?hg (N := 2) ?hd (cs := #[.slice A0_0 l0_0.length c0_0]) (t := 29) ?hr ?_; (case hd => rfl); (case hg => rfl); (case hr => first | (go_simp; done) | (go_simp; rfl)); intro gb187 hg w3 hbox hb; have BK187 := aM_ (hbox); have GW187 := aM_ ((by rw [hg]; exact (below_size (by repeat (first | (with_reducible first | exact HB.out | apply below_alloc | apply pw_below_drewN | apply below_drew1) | exact HB.out))) : w.heap.size ≤ gb187)); have GE187 := GW187; replace HB := aM_ (below_step (by repeat (first | (with_reducible first | exact HB.out | apply below_alloc | apply pw_below_drewN | apply below_drew1) | exact HB.out)) hb); clear hb hbox hg) | ((with_reducible refine gate_dst (N := 3) rfl ?_); (try (refine gate_guard (by rfl) ?_; dsimp only)); refine box_event ?hg (N := 3) ?hd (cs := #[.slice A1_0 l1_0.length c1_0]) (t := 29) ?hr ?_; (case hd => rfl); (case hg => rfl); (case hr => first | (go_simp; done) | (go_simp; rfl)); intro gb188 hg w4 hbox hb; have BK188 := aM_ (hbox); have GW188 := aM_ ((by rw [hg]; exact (below_size (by repeat (first | (with_reducible first | exact HB.out | apply below_alloc | apply pw_below_drewN | apply below_drew1 | refine below_set ?_ GE187.out) | exact HB.out))) : w.heap.size ≤ gb188)); have GE188 := GW188; replace HB := aM_ (below_step (by repeat (first | (with_reducible first | exact HB.out | apply below_alloc | apply pw_below_drewN | apply below_drew1 | refine below_set ?_ GE187.out) | exact HB.out)) hb); have NB187_188 := aM_ ((by rw [hg]; exact Nat.ne_of_lt (blk_lt (g := gb187) (o := .cells #[.slice A0_0 l0_0.length c0_0] 29 (0, 0)) (by (with_reducible repeat (first | refine blk_drewN ?_ _ | refine blk_drew ?_ | refine blk_alloc ?_ _)); exact BK187.out)) : gb187 ≠ gb188)); have NB188_187 := aM_ ((by rw [hg]; exact Nat.ne_of_gt (blk_lt (g := gb187) (o := .cells #[.slice A0_0 l0_0.length c0_0] 29 (0, 0)) (by (with_reducible repeat (first | refine blk_drewN ?_ _ | refine blk_drew ?_ | refine blk_alloc ?_ _)); exact BK187.out)) : gb188 ≠ gb187)); replace BK187 := aM_ (blk_below (g := gb187) (o := .cells #[.slice A0_0 l0_0.length c0_0] 29 (0, 0)) (by (with_reducible repeat (first | refine blk_drewN ?_ _ | refine blk_drew ?_ | refine blk_alloc ?_ _)); exact BK187.out) hb); clear hb hbox hg)); try go_wp2_with (first | fail))
 go_loopg [5] k (fun kq v5 w' => ∃ (x5_1 : Int), v5 = .int .i64 x5_1 ∧ Aside0 (spec_l4Same.l0 kq x5_1 l0_0 l1_0 = some r) ∧ Aside0 (kq ≤ k) ∧ Aside0 (w'.heap[gb187]? = some (.cells #[(.slice A0_0 l0_0.length c0_0)] 29 (0, 0))) ∧ Aside0 (w'.heap[gb188]? = some (.cells #[(.slice A1_0 l1_0.length c1_0)] 29 (0, 0))) ∧ Aside0 (Below w.heap.size w w'))
 case atStart => exact ⟨(0), (by rfl), H', ⟨Nat.le_refl _⟩, ⟨BK187.out⟩, ⟨BK188.out⟩, ⟨HB.out⟩⟩
 case round =>
  clear H'
  try clear c1
  try clear p2
  try clear c3
  obtain ⟨x5_1, rfl, HA, HK1, BK187, BK188, HB⟩ := hrel
  cases gk with
  | zero => exact absurd HA.out (by simp [spec_l4Same.l0])
  | succ k1 =>
   have H := HA.out
   clear HA
   simp only [spec_l4Same.l0] at H
   have HC5 := aM_ H
   clear H
   go_upto_region 2 with (fail)
   repeat (go_quiet (fail); go_upto_region 2 with (fail))
   go_cut [17] (fun v17 wc => ∃ (kq : Nat) (x17_4 : Bool), v17 = .bool x17_4 ∧ Aside0 (spec_l4Same.j1 kq x5_1 x17_4 l0_0 l1_0 = some r) ∧ Aside0 (kq ≤ k1) ∧ Aside0 (wc.heap[gb187]? = some (.cells #[(.slice A0_0 l0_0.length c0_0)] 29 (0, 0))) ∧ Aside0 (wc.heap[gb188]? = some (.cells #[(.slice A1_0 l1_0.length c1_0)] 29 (0, 0))) ∧ Aside0 (Below w.heap.size w wc))
   case first =>
    have H := HC5.out
    clear HC5
    by_cases c6 : x5_1 < (l0_0.length : Int)
    ·
     rw [if_pos c6] at H
     have c6b0 := decide_eq_true c6
     clear c6
     (skip)
     have H' := aM_ H
     clear H
     have hnb7 := NB187_188.out
     have hnc7 := NB188_187.out
     have hcz8_0 : wr.cell? ⟨gb187, 0, none⟩ = some (.slice A0_0 l0_0.length c0_0) := (blk_cell BK187.out 0).trans rfl
     have hfz8_0 := blk_frozen BK187.out 0
     have hcz9_0 : wr.cell? ⟨gb188, 0, none⟩ = some (.slice A1_0 l1_0.length c1_0) := (blk_cell BK188.out 0).trans rfl
     have hfz9_0 := blk_frozen BK188.out 0
     go_wp2
     repeat (go_quiet (fail); try go_wp2)
     go_meet
     case rel => exact ⟨_, (decide (x5_1 < (l1_0.length : Int))), (by rfl), H', ⟨by have := HK1.out; omega⟩, ⟨BK187.out⟩, ⟨BK188.out⟩, ⟨HB.out⟩⟩
    ·
     rw [if_neg c6] at H
     have c6b0 := decide_eq_false c6
     clear c6
     (skip)
     have H' := aM_ H
     clear H
     have hnb10 := NB187_188.out
     have hnc10 := NB188_187.out
     have hcz11_0 : wr.cell? ⟨gb187, 0, none⟩ = some (.slice A0_0 l0_0.length c0_0) := (blk_cell BK187.out 0).trans rfl
     have hfz11_0 := blk_frozen BK187.out 0
     go_wp2
     repeat (go_quiet (fail); try go_wp2)
     go_meet
     case rel => exact ⟨_, (false), (by rfl), H', ⟨by have := HK1.out; omega⟩, ⟨BK187.out⟩, ⟨BK188.out⟩, ⟨HB.out⟩⟩
   case rest =>
    clear HC5
    try clear c1
    try clear p2
    try clear c3
    try clear c6
    try clear c6b0
    try clear c7
    try clear c10
    try clear hcz11_0
    try clear hcz8_0
    try clear hcz9_0
    try clear hfz11_0
    try clear hfz8_0
    try clear hfz9_0
    try clear p2
    obtain ⟨kq, x17_4, rfl, HA, HJ4, BK187, BK188, HB⟩ := hcut
    cases kq with
    | zero => exact absurd HA.out (by simp [spec_l4Same.j1])
    | succ kj4 =>
     have H := HA.out
     clear HA
     simp only [spec_l4Same.j1] at H
     by_cases c12 : x17_4 = true
     ·
      subst c12
      rw [if_pos rfl] at H
      by_cases c13 : 0 ≤ x5_1
      ·
       rw [if_pos c13] at H
       have c13b0 := decide_eq_true c13
       clear c13
       by_cases c14 : x5_1 < (l0_0.length : Int)
       ·
        rw [if_pos c14] at H
        have c14b0 := decide_eq_true c14
        clear c14
        by_cases c15 : x5_1 < (l1_0.length : Int)
        ·
         rw [if_pos c15] at H
         have c15b0 := decide_eq_true c15
         clear c15
         by_cases c16 : (!((((rd_T56 l0_0 x5_1).f0).toList) == (((rd_T56 l1_0 x5_1).f0).toList)) || (!(((rd_T56 l0_0 x5_1).f1) == ((rd_T56 l1_0 x5_1).f1)) || (!(((rd_T56 l0_0 x5_1).f2) == ((rd_T56 l1_0 x5_1).f2))))) = true
         ·
          rw [if_pos c16] at H
          have c16b0 : (!((((rd_T56 l0_0 x5_1).f0).toList) == (((rd_T56 l1_0 x5_1).f0).toList)) || (!(((rd_T56 l0_0 x5_1).f1) == ((rd_T56 l1_0 x5_1).f1)) || (!(((rd_T56 l0_0 x5_1).f2) == ((rd_T56 l1_0 x5_1).f2))))) = true := c16
          clear c16
          obtain rfl := Option.some.inj H
          have hnb17 := NB187_188.out
          have hnc17 := NB188_187.out
          have hcz18_0 : wc.cell? ⟨gb187, 0, none⟩ = some (.slice A0_0 l0_0.length c0_0) := (blk_cell BK187.out 0).trans rfl
          have hfz18_0 := blk_frozen BK187.out 0
          have p189 : 0 ≤ (x5_1 : Int) := of_decide_eq_true (by (with_reducible assumption))
          have q189 : x5_1 < (l0_0.length : Int) := of_decide_eq_true (by (with_reducible assumption))
          obtain ⟨ad189, e189, hx189_0, hx189_1, hx189_2⟩ := at_T56 HR0_0.out x5_1 p189 q189
          cases e189
          replace hx189_0 := (HB.out.cell (World.block_lt_of_cell? w _ hx189_0)).trans hx189_0
          replace hx189_1 := (HB.out.cell (World.block_lt_of_cell? w _ hx189_1)).trans hx189_1
          replace hx189_2 := (HB.out.cell (World.block_lt_of_cell? w _ hx189_2)).trans hx189_2
          replace p189 := eq_true p189
          replace q189 := eq_true q189
          have hcz19_0 : wc.cell? ⟨gb188, 0, none⟩ = some (.slice A1_0 l1_0.length c1_0) := (blk_cell BK188.out 0).trans rfl
          have hfz19_0 := blk_frozen BK188.out 0
          have p190 : 0 ≤ (x5_1 : Int) := of_decide_eq_true (by (with_reducible assumption))
          have q190 : x5_1 < (l1_0.length : Int) := of_decide_eq_true (by (with_reducible assumption))
          obtain ⟨ad190, e190, hx190_0, hx190_1, hx190_2⟩ := at_T56 HR1_0.out x5_1 p190 q190
          cases e190
          replace hx190_0 := (HB.out.cell (World.block_lt_of_cell? w _ hx190_0)).trans hx190_0
          replace hx190_1 := (HB.out.cell (World.block_lt_of_cell? w _ hx190_1)).trans hx190_1
          replace hx190_2 := (HB.out.cell (World.block_lt_of_cell? w _ hx190_2)).trans hx190_2
          replace p190 := eq_true p190
          replace q190 := eq_true q190
          go_wp2
          repeat (go_quiet (fail); try go_wp2)
          go_ret
          exact ⟨by rfl, by repeat (first | (with_reducible first | exact HB.out | apply below_alloc | apply pw_below_drewN | apply below_drew1 | refine below_set ?_ GE187.out | refine below_set ?_ GE188.out) | exact HB.out)⟩
         ·
          rw [if_neg c16] at H
          have c16b0 : (!((((rd_T56 l0_0 x5_1).f0).toList) == (((rd_T56 l1_0 x5_1).f0).toList)) || (!(((rd_T56 l0_0 x5_1).f1) == ((rd_T56 l1_0 x5_1).f1)) || (!(((rd_T56 l0_0 x5_1).f2) == ((rd_T56 l1_0 x5_1).f2))))) = false := by simpa using c16
          clear c16
          have H' := aM_ H
          clear H
          have hnb20 := NB187_188.out
          have hnc20 := NB188_187.out
          have hcz21_0 : wc.cell? ⟨gb187, 0, none⟩ = some (.slice A0_0 l0_0.length c0_0) := (blk_cell BK187.out 0).trans rfl
          have hfz21_0 := blk_frozen BK187.out 0
          have p189 : 0 ≤ (x5_1 : Int) := of_decide_eq_true (by (with_reducible assumption))
          have q189 : x5_1 < (l0_0.length : Int) := of_decide_eq_true (by (with_reducible assumption))
          obtain ⟨ad189, e189, hx189_0, hx189_1, hx189_2⟩ := at_T56 HR0_0.out x5_1 p189 q189
          cases e189
          replace hx189_0 := (HB.out.cell (World.block_lt_of_cell? w _ hx189_0)).trans hx189_0
          replace hx189_1 := (HB.out.cell (World.block_lt_of_cell? w _ hx189_1)).trans hx189_1
          replace hx189_2 := (HB.out.cell (World.block_lt_of_cell? w _ hx189_2)).trans hx189_2
          replace p189 := eq_true p189
          replace q189 := eq_true q189
          have hcz22_0 : wc.cell? ⟨gb188, 0, none⟩ = some (.slice A1_0 l1_0.length c1_0) := (blk_cell BK188.out 0).trans rfl
          have hfz22_0 := blk_frozen BK188.out 0
          have p190 : 0 ≤ (x5_1 : Int) := of_decide_eq_true (by (with_reducible assumption))
          have q190 : x5_1 < (l1_0.length : Int) := of_decide_eq_true (by (with_reducible assumption))
          obtain ⟨ad190, e190, hx190_0, hx190_1, hx190_2⟩ := at_T56 HR1_0.out x5_1 p190 q190
          cases e190
          replace hx190_0 := (HB.out.cell (World.block_lt_of_cell? w _ hx190_0)).trans hx190_0
          replace hx190_1 := (HB.out.cell (World.block_lt_of_cell? w _ hx190_1)).trans hx190_1
          replace hx190_2 := (HB.out.cell (World.block_lt_of_cell? w _ hx190_2)).trans hx190_2
          replace p190 := eq_true p190
          replace q190 := eq_true q190
          go_wp2
          repeat (go_quiet (fail); try go_wp2)
          go_roundg kj4
          case measure => have := HK1.out; have := HJ4.out; omega
          case rel => exact ⟨(wrap64 (x5_1 + 1)), (by rfl), H', ⟨by have := HK1.out; have := HJ4.out; omega⟩, ⟨by (with_reducible repeat (first | refine blk_drewN ?_ _ | refine blk_drew ?_ | refine blk_alloc ?_ _)); exact BK187.out⟩, ⟨by (with_reducible repeat (first | refine blk_drewN ?_ _ | refine blk_drew ?_ | refine blk_alloc ?_ _)); exact BK188.out⟩, ⟨by repeat (first | (with_reducible first | exact HB.out | apply below_alloc | apply pw_below_drewN | apply below_drew1 | refine below_set ?_ GE187.out | refine below_set ?_ GE188.out) | exact HB.out)⟩⟩
        ·
         rw [if_neg c15] at H
         exact absurd H (by simp)
       ·
        rw [if_neg c14] at H
        exact absurd H (by simp)
      ·
       rw [if_neg c13] at H
       exact absurd H (by simp)
     ·
      replace c12 := Bool.eq_false_iff.mpr c12
      subst c12
      have H1 : (some ((l0_0.length : Int) == (l1_0.length : Int))) = some r := by rw [if_neg (show ¬ (false = true) by decide)] at H; exact H
      clear H
      have H := H1
      clear H1
      obtain rfl := Option.some.inj H
      have hnb23 := NB187_188.out
      have hnc23 := NB188_187.out
      have hcz24_0 : wc.cell? ⟨gb187, 0, none⟩ = some (.slice A0_0 l0_0.length c0_0) := (blk_cell BK187.out 0).trans rfl
      have hfz24_0 := blk_frozen BK187.out 0
      have hcz25_0 : wc.cell? ⟨gb188, 0, none⟩ = some (.slice A1_0 l1_0.length c1_0) := (blk_cell BK188.out 0).trans rfl
      have hfz25_0 := blk_frozen BK188.out 0
      go_wp2
      repeat (go_quiet (fail); try go_wp2)
      go_ret
      exact ⟨by rfl, by exact HB.out⟩
end Go.Proofs.YtfhffcefpnkllaaDoor.P
namespace Go.Proofs.YtfhffcefpnkllaaDoor.P
open Go.RowKit Go.Proofs.YtfhffcefpnkllaaDoorW.PrintWords Go.Proofs.YtfhffcefpnkllaaDoorW.PrintLast Go.Proofs.YtfhffcefpnkllaaDoorW.PrintMore
open List renaming setIfInBounds_toArray → sA_, set_cons_zero → sB_, set_cons_succ → sC_, map_toArray → sD_, map_cons → sE_, map_nil → sF_, length_drop → sG_, length_take → sH_
open Bool renaming true → ty, false → fy
open Aside0 renaming mk → aM_
attribute [local go_sem] max2_int min2_int max_two min_two max_three min_three max_four min_four
def spec_l2Kids.l0 : Nat → Int → List Int → Int → List (S73) → Option (List Int)
 | 0, _, _, _, _ => none
 | k + 1, x1, x5, x6, x192000 => if x6 < (x192000.length : Int) then (if 0 ≤ x6 then (if ((rd_T73 x192000 x6).f1) = x1 then (if x5.length < 17592186044416 then (spec_l2Kids.l0 k x1 (x5 ++ [x6]) (wrap64 (x6 + 1)) x192000) else (none)) else (spec_l2Kids.l0 k x1 x5 (wrap64 (x6 + 1)) x192000)) else (none)) else (some x5)
def spec_l2Kids.f (k : Nat) (l0_0 : List (S73)) (a1 : Int) : Option (List Int) := spec_l2Kids.l0 k a1 (([] : List Int)) (wrap64 (a1 + 1)) l0_0
theorem spec_l2Kids.mono_l : ∀ k, (∀ y0 y1 y2 y3, LeO (spec_l2Kids.l0 k y0 y1 y2 y3) (spec_l2Kids.l0 (k + 1) y0 y1 y2 y3))
 | 0 => fun _ _ _ _ r h => by simp [spec_l2Kids.l0] at h
 | k + 1 => by
  have ih0 := spec_l2Kids.mono_l k
  ·
   intro y0 y1 y2 y3
   unfold spec_l2Kids.l0
   repeat' first
   | (with_reducible exact ih0 _ _ _ _)
   | (with_reducible exact LeO.refl _)
   | (with_reducible exact LeO.none _)
   | (with_reducible refine LeO.ite ?_ ?_)
   | (with_reducible refine LeO.bind ?_ (fun _ => ?_))
   | exact ih0 _ _ _ _
   | exact LeO.none _
   | refine LeO.ite ?_ ?_
   | refine LeO.bind ?_ (fun _ => ?_)
theorem spec_l2Kids.mono : ∀ a0 a1 k, LeO (spec_l2Kids.f k a0 a1) (spec_l2Kids.f (k + 1) a0 a1) := by
 intro a0 a1 k
 have ih0 := spec_l2Kids.mono_l k
 unfold spec_l2Kids.f
 repeat' first
   | (with_reducible exact ih0 _ _ _ _)
   | (with_reducible exact LeO.refl _)
   | (with_reducible exact LeO.none _)
   | (with_reducible refine LeO.ite ?_ ?_)
   | (with_reducible refine LeO.bind ?_ (fun _ => ?_))
   | exact ih0 _ _ _ _
   | exact LeO.none _
   | refine LeO.ite ?_ ?_
   | refine LeO.bind ?_ (fun _ => ?_)
theorem spec_l2Kids.calls (k : Nat) (A0_0 : Option Addr) (c0_0 : Nat) (l0_0 : List (S73)) (a1 : Int) (r : List Int) (w : World) (hr0_0 : Kd.C k73 w A0_0 l0_0.length l0_0) (hc0_0 : l0_0.length ≤ c0_0) (h : spec_l2Kids.f k l0_0 a1 = some r) :
  Calls Tryd.prog 61 #[.agg #[.slice A0_0 l0_0.length c0_0], .int .i64 a1] w fun e w' => ∃ v0_ : Value, e = .returned (v0_) ∧ Kd.R (Kd.int .i64) 3 w' w.heap.size (fun _ => True) v0_ r ∧ Below w.heap.size w w' := by
 have hu44 := Tryd.underlying44
 have HR0_0 := aM_ hr0_0
 have HC0_0 := aM_ hc0_0
 clear hr0_0 hc0_0
 have HB := aM_ (Below.refl w.heap.size w)
 have H : (spec_l2Kids.l0 k a1 (([] : List Int)) (wrap64 (a1 + 1)) l0_0) = some r := h
 clear h
 obtain ⟨y192, hy192⟩ : ∃ y_ : List Int, y_ = (([] : List Int)) := ⟨_, rfl⟩
 replace H : (spec_l2Kids.l0 k a1 y192 (wrap64 (a1 + 1)) l0_0) = some r := by first | (rw [hy192]; with_reducible exact H) | (have H2_ := (Option.bind_some _ _).symm.trans H; rw [hy192]; with_reducible exact H2_) | (have H2_ := (Option.bind_some _ _).symm.trans H; with_reducible exact H2_) | with_reducible exact H | (rw [hy192]; exact H) | exact H
 have Ny192 := aM_ hy192
 clear hy192
 have H' := aM_ H
 clear H
 go_enter Tryd.func61, Tryd.ntmps61
 go_wp2_with (first | ((with_reducible refine gate_dst (N := 2) rfl ?_); refine box_event ?hg (N := 2) ?hd (cs := #[.slice A0_0 l0_0.length c0_0]) (t := 44) ?hr ?_; (case hd => rfl); (case hg => rfl); (case hr => (go_simp; done)); intro gb191 hg w3 hbox hb; have BK191 := aM_ (hbox); have GW191 := aM_ ((by rw [hg]; exact (below_size HB.out) : w.heap.size ≤ gb191)); have GE191 := GW191; replace HB := aM_ (below_step HB.out hb); clear hb hbox hg) | ((with_reducible refine gate_dst (N := 7) rfl ?_); refine Kd.R_lit (Kd.int .i64) _ 3 ?hg (N := 7) ?hd (xs := ([] : List Int)) (inner := []) (ok := fun _ => True) (okp := fun _ => True) ?hr ?hp (fun _ hk => hk) trivial (Below.refl _ _) (Nat.le_refl _) (by simp) ?_; (case hd => rfl); (case hg => rfl); (case hr => (go_simp; done)); (case hp => exact (Reps.none _ _)); intro v193 w4 ho5 hb hg_ hnew_; clear hg_ hnew_; (rw [← Ny192.out] at ho5); have HO194 := aM_ (Kd.R_lower ho5 (below_size HB.out)); replace BK191 := aM_ (blk_below BK191.out hb); replace HB := aM_ (below_step HB.out hb); clear hb ho5))
 go_loopg [5, 6] k (fun kq v5 v6 w' => ∃ (x5_1 : List Int) (x6_1 : Int), v6 = .int .i64 x6_1 ∧ Aside0 (spec_l2Kids.l0 kq a1 x5_1 x6_1 l0_0 = some r) ∧ Aside0 (kq ≤ k) ∧ Aside0 (Kd.R (Kd.int .i64) 3 w' w.heap.size (fun _ => True) v5 x5_1) ∧ Aside0 (w'.heap[gb191]? = some (.cells #[(.slice A0_0 l0_0.length c0_0)] 44 (0, 0))) ∧ Aside0 (Below w.heap.size w w'))
 case atStart => exact ⟨(y192), (wrap64 (a1 + 1)), (by rfl), H', ⟨Nat.le_refl _⟩, ⟨HO194.out⟩, ⟨BK191.out⟩, ⟨HB.out⟩⟩
 case round =>
  clear H'
  try clear p2
  obtain ⟨x5_1, x6_1, rfl, HA, HK1, HO_5, BK191, HB⟩ := hrel
  cases gk with
  | zero => exact absurd HA.out (by simp [spec_l2Kids.l0])
  | succ k1 =>
   have H := HA.out
   clear HA
   simp only [spec_l2Kids.l0] at H
   by_cases c6 : x6_1 < (l0_0.length : Int)
   ·
    rw [if_pos c6] at H
    have c6b0 := decide_eq_true c6
    clear c6
    by_cases c7 : 0 ≤ x6_1
    ·
     rw [if_pos c7] at H
     have c7b0 := decide_eq_true c7
     clear c7
     by_cases c8 : ((rd_T73 l0_0 x6_1).f1) = a1
     ·
      rw [if_pos c8] at H
      have c8b0 : (((rd_T73 l0_0 x6_1).f1) == a1) = true := beq_iff_eq.mpr c8
      have c8b1 : (((rd_T73 l0_0 x6_1).f1) != a1) = false := bne_eq_false_iff_eq.mpr c8
      clear c8
      by_cases c9 : x5_1.length < 17592186044416
      ·
       rw [if_pos c9] at H
       have LMc9 := aM_ c9
       clear c9
       obtain ⟨y196, hy196⟩ : ∃ y_ : List Int, y_ = (x5_1 ++ [x6_1]) := ⟨_, rfl⟩
       replace H : (spec_l2Kids.l0 k1 a1 y196 (wrap64 (x6_1 + 1)) l0_0) = some r := by first | (rw [hy196]; with_reducible exact H) | (have H2_ := (Option.bind_some _ _).symm.trans H; rw [hy196]; with_reducible exact H2_) | (have H2_ := (Option.bind_some _ _).symm.trans H; with_reducible exact H2_) | with_reducible exact H | (rw [hy196]; exact H) | exact H
       have Ny196 := aM_ hy196
       clear hy196
       have H' := aM_ H
       clear H
       have hcz10_0 : wr.cell? ⟨gb191, 0, none⟩ = some (.slice A0_0 l0_0.length c0_0) := (blk_cell BK191.out 0).trans rfl
       have hfz10_0 := blk_frozen BK191.out 0
       have p195 : 0 ≤ (x6_1 : Int) := of_decide_eq_true (by (with_reducible assumption))
       have q195 : x6_1 < (l0_0.length : Int) := of_decide_eq_true (by (with_reducible assumption))
       obtain ⟨ad195, e195, hx195_0, hx195_1, hx195_2⟩ := at_T73 HR0_0.out x6_1 p195 q195
       cases e195
       replace hx195_0 := (HB.out.cell (World.block_lt_of_cell? w _ hx195_0)).trans hx195_0
       replace hx195_1 := (HB.out.cell (World.block_lt_of_cell? w _ hx195_1)).trans hx195_1
       replace hx195_2 := (HB.out.cell (World.block_lt_of_cell? w _ hx195_2)).trans hx195_2
       replace p195 := eq_true p195
       replace q195 := eq_true q195
       go_wp2_with (first | ((with_reducible refine gate_builtin (b := .append) (xs := #[.tmp 25, .tmp 27]) rfl ?_); at_builtin; refine Kd.R_append (Kd.int .i64) (w0 := w) w.heap.size rfl (.tmp 25) (.tmp 27) 75 3 (.int .i64 0) 8 rfl Tryd.underlying75 info3 rfl (by decide) (by omega) u5 x5_1 x6_1 [.int .i64 x6_1] (fun _ => True) (fun _ => False) rfl rfl ?aP (fun _ hk => hk.elim) ?aF ?aO ?aB ?aS ?aL ?_; (case aP => exact rfl); (case aB => exact HB.out); (case aF => exact (fun _ _ => trivial)); (case aO => exact HO_5.out); (case aS => exact (below_size HB.out)); (case aL => have := LMc9.out; omega); intro v197 w11 ho hb hg hat; rw [← Ny196.out] at ho; have n0_ := aM_ (blk_grown (g := gb191) (o := .cells #[.slice (some ad195) l0_0.length c0_0] 44 (0, 0)) BK191.out hg (Kd.R_ne HO_5.out BK191.out (by decide))); have n1_ := aM_ (hb); have n2_ := aM_ (ho); clear BK191; clear HB; clear HO_5; have BK191 := n0_; have HB := n1_; have HO198 := n2_; clear n0_ n1_ n2_; clear ho hb hg hat))
       go_roundg k1
       case measure => have := HK1.out; omega
       case rel => exact ⟨(y196), (wrap64 (x6_1 + 1)), (by rfl), H', ⟨by have := HK1.out; omega⟩, ⟨HO198.out⟩, ⟨BK191.out⟩, ⟨HB.out⟩⟩
      ·
       rw [if_neg c9] at H
       exact absurd H (by simp)
     ·
      rw [if_neg c8] at H
      have c8b0 : (((rd_T73 l0_0 x6_1).f1) == a1) = false := beq_eq_false_iff_ne.mpr c8
      have c8b1 : (((rd_T73 l0_0 x6_1).f1) != a1) = true := bne_iff_ne.mpr c8
      have H' := aM_ H
      clear H
      have hcz12_0 : wr.cell? ⟨gb191, 0, none⟩ = some (.slice A0_0 l0_0.length c0_0) := (blk_cell BK191.out 0).trans rfl
      have hfz12_0 := blk_frozen BK191.out 0
      have p195 : 0 ≤ (x6_1 : Int) := of_decide_eq_true (by (with_reducible assumption))
      have q195 : x6_1 < (l0_0.length : Int) := of_decide_eq_true (by (with_reducible assumption))
      obtain ⟨ad195, e195, hx195_0, hx195_1, hx195_2⟩ := at_T73 HR0_0.out x6_1 p195 q195
      cases e195
      replace hx195_0 := (HB.out.cell (World.block_lt_of_cell? w _ hx195_0)).trans hx195_0
      replace hx195_1 := (HB.out.cell (World.block_lt_of_cell? w _ hx195_1)).trans hx195_1
      replace hx195_2 := (HB.out.cell (World.block_lt_of_cell? w _ hx195_2)).trans hx195_2
      replace p195 := eq_true p195
      replace q195 := eq_true q195
      go_wp2
      go_roundg k1
      case measure => have := HK1.out; omega
      case rel => exact ⟨(x5_1), (wrap64 (x6_1 + 1)), (by rfl), H', ⟨by have := HK1.out; omega⟩, ⟨HO_5.out⟩, ⟨BK191.out⟩, ⟨HB.out⟩⟩
    ·
     rw [if_neg c7] at H
     exact absurd H (by simp)
   ·
    rw [if_neg c6] at H
    have c6b0 := decide_eq_false c6
    clear c6
    obtain rfl := Option.some.inj H
    have hcz13_0 : wr.cell? ⟨gb191, 0, none⟩ = some (.slice A0_0 l0_0.length c0_0) := (blk_cell BK191.out 0).trans rfl
    have hfz13_0 := blk_frozen BK191.out 0
    go_wp2
    go_ret
    exact ⟨_, by rfl, by exact HO_5.out, by exact HB.out⟩
def spec_l4Stays.f (k : Nat) (l0_0 : List (S73)) (a1 : Int) : Option (Bool) := if a1 = 0 then (some true) else (if 0 ≤ a1 then (if a1 < (l0_0.length : Int) then (if (rd_T73 l0_0 a1).f2 = true then (some true) else ((spec_l2Kids.f k l0_0 a1).bind fun t201 => (some ((t201.length : Int) != 1)))) else (none)) else (none))
theorem spec_l4Stays.mono : ∀ a0 a1 k, LeO (spec_l4Stays.f k a0 a1) (spec_l4Stays.f (k + 1) a0 a1) := by
 intro a0 a1 k
 unfold spec_l4Stays.f
 repeat' first
   | (with_reducible exact spec_l2Kids.mono _ _ _)
   | (with_reducible exact LeO.refl _)
   | (with_reducible exact LeO.none _)
   | (with_reducible refine LeO.ite ?_ ?_)
   | (with_reducible refine LeO.bind ?_ (fun _ => ?_))
   | exact spec_l2Kids.mono _ _ _
   | exact LeO.none _
   | refine LeO.ite ?_ ?_
   | refine LeO.bind ?_ (fun _ => ?_)
theorem spec_l4Stays.calls (k : Nat) (A0_0 : Option Addr) (c0_0 : Nat) (l0_0 : List (S73)) (a1 : Int) (r : Bool) (w : World) (hr0_0 : Kd.C k73 w A0_0 l0_0.length l0_0) (hc0_0 : l0_0.length ≤ c0_0) (h : spec_l4Stays.f k l0_0 a1 = some r) :
  Calls Tryd.prog 52 #[.agg #[.slice A0_0 l0_0.length c0_0], .int .i64 a1] w fun e w' => e = .returned (.bool r) ∧ Below w.heap.size w w' := by
 have hu44 := Tryd.underlying44
 have HR0_0 := aM_ hr0_0
 have HC0_0 := aM_ hc0_0
 clear hr0_0 hc0_0
 have HB := aM_ (Below.refl w.heap.size w)
 have H : (if a1 = 0 then (some true) else (if 0 ≤ a1 then (if a1 < (l0_0.length : Int) then (if (rd_T73 l0_0 a1).f2 = true then (some true) else ((spec_l2Kids.f k l0_0 a1).bind fun t201 => (some ((t201.length : Int) != 1)))) else (none)) else (none))) = some r := h
 clear h
 by_cases c3 : a1 = 0
 ·
  rw [if_pos c3] at H
  have c3b0 : (a1 == 0) = true := beq_iff_eq.mpr c3
  have c3b1 : (a1 != 0) = false := bne_eq_false_iff_eq.mpr c3
  clear c3
  obtain rfl := Option.some.inj H
  go_enter Tryd.func52, Tryd.ntmps52
  go_wp2_with (first | ((with_reducible refine gate_dst (N := 2) rfl ?_); (try (refine gate_guard (by rfl) ?_; dsimp only)); refine box_event ?hg (N := 2) ?hd (cs := #[.slice A0_0 l0_0.length c0_0]) (t := 44) ?hr ?_; (case hd => rfl); (case hg => rfl); (case hr => (go_simp; done)); intro gb199 hg w4 hbox hb; have BK199 := aM_ (hbox); have GW199 := aM_ ((by rw [hg]; exact (below_size HB.out) : w.heap.size ≤ gb199)); have GE199 := GW199; replace HB := aM_ (below_step HB.out hb); clear hb hbox hg))
  go_ret
  exact ⟨by rfl, by exact HB.out⟩
 ·
  rw [if_neg c3] at H
  have c3b0 : (a1 == 0) = false := beq_eq_false_iff_ne.mpr c3
  have c3b1 : (a1 != 0) = true := bne_iff_ne.mpr c3
  by_cases c5 : 0 ≤ a1
  rotate_left
  ·
   rw [if_neg c5] at H
   exact absurd H (by simp)
  rw [if_pos c5] at H
  have c5b0 := decide_eq_true c5
  clear c5
  by_cases c6 : a1 < (l0_0.length : Int)
  rotate_left
  ·
   rw [if_neg c6] at H
   exact absurd H (by simp)
  rw [if_pos c6] at H
  have c6b0 := decide_eq_true c6
  clear c6
  obtain ⟨bq7, hbq7⟩ : ∃ b_ : Bool, b_ = ((rd_T73 l0_0 a1).f2) := ⟨_, rfl⟩
  replace H : (if bq7 = true then (some true) else ((spec_l2Kids.f k l0_0 a1).bind fun t201 => (some ((t201.length : Int) != 1)))) = some r := by rw [← hbq7] at H; exact H
  have Nbq7 := aM_ hbq7
  clear hbq7
  by_cases c8 : bq7 = true
  ·
   subst c8
   rw [if_pos rfl] at H
   obtain rfl := Option.some.inj H
   go_enter Tryd.func52, Tryd.ntmps52
   go_wp2_with (first | ((with_reducible refine gate_dst (N := 2) rfl ?_); (try (refine gate_guard (by rfl) ?_; dsimp only)); refine box_event ?hg (N := 2) ?hd (cs := #[.slice A0_0 l0_0.length c0_0]) (t := 44) ?hr ?_; (case hd => rfl); (case hg => rfl); (case hr => (go_simp; done)); intro gb199 hg w9 hbox hb; have BK199 := aM_ (hbox); have GW199 := aM_ ((by rw [hg]; exact (below_size HB.out) : w.heap.size ≤ gb199)); have GE199 := GW199; replace HB := aM_ (below_step HB.out hb); clear hb hbox hg; have hcz10_0 : w9.cell? ⟨gb199, 0, none⟩ = some (.slice A0_0 l0_0.length c0_0) := (blk_cell BK199.out 0).trans rfl; have hfz10_0 := blk_frozen BK199.out 0; have p200 : 0 ≤ (a1 : Int) := of_decide_eq_true (by (with_reducible assumption)); have q200 : a1 < (l0_0.length : Int) := of_decide_eq_true (by (with_reducible assumption)); obtain ⟨ad200, e200, hx200_0, hx200_1, hx200_2⟩ := at_T73 HR0_0.out a1 p200 q200; (try rw [← Nbq7.out] at hx200_2); cases e200; replace hx200_0 := (HB.out.cell (World.block_lt_of_cell? w _ hx200_0)).trans hx200_0; replace hx200_1 := (HB.out.cell (World.block_lt_of_cell? w _ hx200_1)).trans hx200_1; replace hx200_2 := (HB.out.cell (World.block_lt_of_cell? w _ hx200_2)).trans hx200_2; replace p200 := eq_true p200; replace q200 := eq_true q200))
   go_ret
   exact ⟨by rfl, by exact HB.out⟩
  ·
   replace c8 := Bool.eq_false_iff.mpr c8
   subst c8
   have H1 : ((spec_l2Kids.f k l0_0 a1).bind fun t201 => (some ((t201.length : Int) != 1))) = some r := by rw [if_neg (show ¬ (false = true) by decide)] at H; exact H
   clear H
   have H := H1
   clear H1
   replace H := Option.bind_eq_some_iff.mp H
   obtain ⟨t201, A110, H⟩ := H
   try dsimp only at H
   have A11 := aM_ A110
   clear A110
   obtain rfl := Option.some.inj H
   go_enter Tryd.func52, Tryd.ntmps52
   go_wp2_with (first | ((with_reducible refine gate_dst (N := 2) rfl ?_); (try (refine gate_guard (by rfl) ?_; dsimp only)); refine box_event ?hg (N := 2) ?hd (cs := #[.slice A0_0 l0_0.length c0_0]) (t := 44) ?hr ?_; (case hd => rfl); (case hg => rfl); (case hr => (go_simp; done)); intro gb199 hg w12 hbox hb; have BK199 := aM_ (hbox); have GW199 := aM_ ((by rw [hg]; exact (below_size HB.out) : w.heap.size ≤ gb199)); have GE199 := GW199; replace HB := aM_ (below_step HB.out hb); clear hb hbox hg; have hcz13_0 : w12.cell? ⟨gb199, 0, none⟩ = some (.slice A0_0 l0_0.length c0_0) := (blk_cell BK199.out 0).trans rfl; have hfz13_0 := blk_frozen BK199.out 0; have p200 : 0 ≤ (a1 : Int) := of_decide_eq_true (by (with_reducible assumption)); have q200 : a1 < (l0_0.length : Int) := of_decide_eq_true (by (with_reducible assumption)); obtain ⟨ad200, e200, hx200_0, hx200_1, hx200_2⟩ := at_T73 HR0_0.out a1 p200 q200; (try rw [← Nbq7.out] at hx200_2); cases e200; replace hx200_0 := (HB.out.cell (World.block_lt_of_cell? w _ hx200_0)).trans hx200_0; replace hx200_1 := (HB.out.cell (World.block_lt_of_cell? w _ hx200_1)).trans hx200_1; replace hx200_2 := (HB.out.cell (World.block_lt_of_cell? w _ hx200_2)).trans hx200_2; replace p200 := eq_true p200; replace q200 := eq_true q200) | (go_at_call 61; (with_reducible refine (spec_l2Kids.calls k _ _ l0_0 a1 t201 _ ?side1 ?side2 A11.out).mono ?_); (case side1 => repeat (first | exact (Kd.C_below HR0_0.out HB.out) | (with_reducible refine Kd.C_alloc ?_ _) | (with_reducible refine Kd.C_drewN ?_ _) | (with_reducible refine Kd.C_drew ?_))); (case side2 => exact HC0_0.out); rintro e w14 ⟨v202, rfl, ho0, hb⟩; have HO203 := aM_ (Kd.R_lower ho0 (below_size HB.out)); replace BK199 := aM_ (blk_below BK199.out hb); replace HB := aM_ (below_step HB.out hb); (try clear hb); (try clear hb2); (try clear hk); (try clear hi); (try clear ho0); obtain ⟨Ao15, co15, eo15⟩ := Kd.R_slice HO203.out; subst eo15))
   go_ret
   exact ⟨by rfl, by exact HB.out⟩
def spec_l4Staying.l0 : Nat → List Int → Int → List (S73) → Option (List Int)
 | 0, _, _, _ => none
 | k + 1, x3, x4, x205000 => if x4 < (x205000.length : Int) then ((spec_l4Stays.f k x205000 x4).bind fun t208 => (if t208 = true then (if x3.length < 17592186044416 then (spec_l4Staying.l0 k (x3 ++ [x4]) (wrap64 (x4 + 1)) x205000) else (none)) else (spec_l4Staying.l0 k x3 (wrap64 (x4 + 1)) x205000))) else (some x3)
def spec_l4Staying.f (k : Nat) (l0_0 : List (S73)) : Option (List Int) := spec_l4Staying.l0 k (([] : List Int)) 0 l0_0
theorem spec_l4Staying.mono_l : ∀ k, (∀ y0 y1 y2, LeO (spec_l4Staying.l0 k y0 y1 y2) (spec_l4Staying.l0 (k + 1) y0 y1 y2))
 | 0 => fun _ _ _ r h => by simp [spec_l4Staying.l0] at h
 | k + 1 => by
  have ih0 := spec_l4Staying.mono_l k
  ·
   intro y0 y1 y2
   unfold spec_l4Staying.l0
   repeat' first
   | (with_reducible exact ih0 _ _ _)
   | (with_reducible exact spec_l4Stays.mono _ _ _)
   | (with_reducible exact LeO.refl _)
   | (with_reducible exact LeO.none _)
   | (with_reducible refine LeO.ite ?_ ?_)
   | (with_reducible refine LeO.bind ?_ (fun _ => ?_))
   | exact ih0 _ _ _
   | exact spec_l4Stays.mono _ _ _
   | exact LeO.none _
   | refine LeO.ite ?_ ?_
   | refine LeO.bind ?_ (fun _ => ?_)
theorem spec_l4Staying.mono : ∀ a0 k, LeO (spec_l4Staying.f k a0) (spec_l4Staying.f (k + 1) a0) := by
 intro a0 k
 have ih0 := spec_l4Staying.mono_l k
 unfold spec_l4Staying.f
 repeat' first
   | (with_reducible exact ih0 _ _ _)
   | (with_reducible exact spec_l4Stays.mono _ _ _)
   | (with_reducible exact LeO.refl _)
   | (with_reducible exact LeO.none _)
   | (with_reducible refine LeO.ite ?_ ?_)
   | (with_reducible refine LeO.bind ?_ (fun _ => ?_))
   | exact ih0 _ _ _
   | exact spec_l4Stays.mono _ _ _
   | exact LeO.none _
   | refine LeO.ite ?_ ?_
   | refine LeO.bind ?_ (fun _ => ?_)
theorem spec_l4Staying.calls (k : Nat) (A0_0 : Option Addr) (c0_0 : Nat) (l0_0 : List (S73)) (r : List Int) (w : World) (hr0_0 : Kd.C k73 w A0_0 l0_0.length l0_0) (hc0_0 : l0_0.length ≤ c0_0) (h : spec_l4Staying.f k l0_0 = some r) :
  Calls Tryd.prog 51 #[.agg #[.slice A0_0 l0_0.length c0_0]] w fun e w' => ∃ v0_ : Value, e = .returned (v0_) ∧ Kd.R (Kd.int .i64) 3 w' w.heap.size (fun _ => True) v0_ r ∧ Below w.heap.size w w' := by
 have hu44 := Tryd.underlying44
 have HR0_0 := aM_ hr0_0
 have HC0_0 := aM_ hc0_0
 clear hr0_0 hc0_0
 have HB := aM_ (Below.refl w.heap.size w)
 have H : (spec_l4Staying.l0 k (([] : List Int)) 0 l0_0) = some r := h
 clear h
 obtain ⟨y205, hy205⟩ : ∃ y_ : List Int, y_ = (([] : List Int)) := ⟨_, rfl⟩
 replace H : (spec_l4Staying.l0 k y205 0 l0_0) = some r := by first | (rw [hy205]; with_reducible exact H) | (have H2_ := (Option.bind_some _ _).symm.trans H; rw [hy205]; with_reducible exact H2_) | (have H2_ := (Option.bind_some _ _).symm.trans H; with_reducible exact H2_) | with_reducible exact H | (rw [hy205]; exact H) | exact H
 have Ny205 := aM_ hy205
 clear hy205
 have H' := aM_ H
 clear H
 go_enter Tryd.func51, Tryd.ntmps51
 go_wp2_with (first | ((with_reducible refine gate_dst (N := 1) rfl ?_); refine box_event ?hg (N := 1) ?hd (cs := #[.slice A0_0 l0_0.length c0_0]) (t := 44) ?hr ?_; (case hd => rfl); (case hg => rfl); (case hr => (go_simp; done)); intro gb204 hg w2 hbox hb; have BK204 := aM_ (hbox); have GW204 := aM_ ((by rw [hg]; exact (below_size HB.out) : w.heap.size ≤ gb204)); have GE204 := GW204; replace HB := aM_ (below_step HB.out hb); clear hb hbox hg) | ((with_reducible refine gate_dst (N := 5) rfl ?_); refine Kd.R_lit (Kd.int .i64) _ 3 ?hg (N := 5) ?hd (xs := ([] : List Int)) (inner := []) (ok := fun _ => True) (okp := fun _ => True) ?hr ?hp (fun _ hk => hk) trivial (Below.refl _ _) (Nat.le_refl _) (by simp) ?_; (case hd => rfl); (case hg => rfl); (case hr => (go_simp; done)); (case hp => exact (Reps.none _ _)); intro v206 w3 ho4 hb hg_ hnew_; clear hg_ hnew_; (rw [← Ny205.out] at ho4); have HO207 := aM_ (Kd.R_lower ho4 (below_size HB.out)); replace BK204 := aM_ (blk_below BK204.out hb); replace HB := aM_ (below_step HB.out hb); clear hb ho4))
 go_loopg [3, 4] k (fun kq v3 v4 w' => ∃ (x3_1 : List Int) (x4_1 : Int), v4 = .int .i64 x4_1 ∧ Aside0 (spec_l4Staying.l0 kq x3_1 x4_1 l0_0 = some r) ∧ Aside0 (kq ≤ k) ∧ Aside0 (Kd.R (Kd.int .i64) 3 w' w.heap.size (fun _ => True) v3 x3_1) ∧ Aside0 (w'.heap[gb204]? = some (.cells #[(.slice A0_0 l0_0.length c0_0)] 44 (0, 0))) ∧ Aside0 (Below w.heap.size w w'))
 case atStart => exact ⟨(y205), (0), (by rfl), H', ⟨Nat.le_refl _⟩, ⟨HO207.out⟩, ⟨BK204.out⟩, ⟨HB.out⟩⟩
 case round =>
  clear H'
  try clear p2
  obtain ⟨x3_1, x4_1, rfl, HA, HK1, HO_3, BK204, HB⟩ := hrel
  cases gk with
  | zero => exact absurd HA.out (by simp [spec_l4Staying.l0])
  | succ k1 =>
   have H := HA.out
   clear HA
   simp only [spec_l4Staying.l0] at H
   by_cases c5 : x4_1 < (l0_0.length : Int)
   ·
    rw [if_pos c5] at H
    have c5b0 := decide_eq_true c5
    clear c5
    replace H := Option.bind_eq_some_iff.mp H
    obtain ⟨t208, A60, H⟩ := H
    try dsimp only at H
    have A6 := aM_ A60
    clear A60
    by_cases c7 : t208 = true
    ·
     subst c7
     rw [if_pos rfl] at H
     by_cases c8 : x3_1.length < 17592186044416
     ·
      rw [if_pos c8] at H
      have LMc8 := aM_ c8
      clear c8
      obtain ⟨y209, hy209⟩ : ∃ y_ : List Int, y_ = (x3_1 ++ [x4_1]) := ⟨_, rfl⟩
      replace H : (spec_l4Staying.l0 k1 y209 (wrap64 (x4_1 + 1)) l0_0) = some r := by first | (rw [hy209]; with_reducible exact H) | (have H2_ := (Option.bind_some _ _).symm.trans H; rw [hy209]; with_reducible exact H2_) | (have H2_ := (Option.bind_some _ _).symm.trans H; with_reducible exact H2_) | with_reducible exact H | (rw [hy209]; exact H) | exact H
      have Ny209 := aM_ hy209
      clear hy209
      have H' := aM_ H
      clear H
      have hcz9_0 : wr.cell? ⟨gb204, 0, none⟩ = some (.slice A0_0 l0_0.length c0_0) := (blk_cell BK204.out 0).trans rfl
      have hfz9_0 := blk_frozen BK204.out 0
      go_wp2_with (first | ((with_reducible refine gate_callee (f := 52) rfl ?_); refine goesL_ (some 15) rfl rfl Tryd.func52 (by kernel_rfl) rfl #[.agg #[.slice A0_0 l0_0.length c0_0], .int .i64 x4_1] rfl (by (try simp only [sD_, sE_, sF_]); rfl) ?_; (with_reducible refine (spec_l4Stays.calls k1 _ _ l0_0 x4_1 true _ ?side1 ?side2 A6.out).mono ?_); (case side1 => repeat (first | exact (Kd.C_below HR0_0.out HB.out) | (with_reducible refine Kd.C_alloc ?_ _) | (with_reducible refine Kd.C_drewN ?_ _) | (with_reducible refine Kd.C_drew ?_))); (case side2 => exact HC0_0.out); rintro e w10 ⟨rfl, hb⟩; refine ⟨_, rfl, ?_⟩; replace HO_3 := aM_ (Kd.R_below HO_3.out hb); replace BK204 := aM_ (blk_below BK204.out hb); replace HB := aM_ (below_step HB.out hb); (try clear hb); (try clear hb2); (try clear hk); (try clear hi)) | ((with_reducible refine gate_builtin (b := .append) (xs := #[.tmp 16, .tmp 18]) rfl ?_); at_builtin; refine Kd.R_append (Kd.int .i64) (w0 := w) w.heap.size rfl (.tmp 16) (.tmp 18) 75 3 (.int .i64 0) 8 rfl Tryd.underlying75 info3 rfl (by decide) (by omega) u3 x3_1 x4_1 [.int .i64 x4_1] (fun _ => True) (fun _ => False) rfl rfl ?aP (fun _ hk => hk.elim) ?aF ?aO ?aB ?aS ?aL ?_; (case aP => exact rfl); (case aB => exact HB.out); (case aF => exact (fun _ _ => trivial)); (case aO => exact HO_3.out); (case aS => exact (below_size HB.out)); (case aL => have := LMc8.out; omega); intro v210 w11 ho hb hg hat; rw [← Ny209.out] at ho; have n0_ := aM_ (blk_grown (g := gb204) (o := .cells #[.slice A0_0 l0_0.length c0_0] 44 (0, 0)) BK204.out hg (Kd.R_ne HO_3.out BK204.out (by decide))); have n1_ := aM_ (hb); have n2_ := aM_ (ho); clear BK204; clear HB; clear HO_3; have BK204 := n0_; have HB := n1_; have HO211 := n2_; clear n0_ n1_ n2_; clear ho hb hg hat))
      go_roundg k1
      case measure => have := HK1.out; omega
      case rel => exact ⟨(y209), (wrap64 (x4_1 + 1)), (by rfl), H', ⟨by have := HK1.out; omega⟩, ⟨HO211.out⟩, ⟨BK204.out⟩, ⟨HB.out⟩⟩
     ·
      rw [if_neg c8] at H
      exact absurd H (by simp)
    ·
     replace c7 := Bool.eq_false_iff.mpr c7
     subst c7
     have H1 : (spec_l4Staying.l0 k1 x3_1 (wrap64 (x4_1 + 1)) l0_0) = some r := by rw [if_neg (show ¬ (false = true) by decide)] at H; exact H
     clear H
     have H := H1
     clear H1
     have H' := aM_ H
     clear H
     have hcz12_0 : wr.cell? ⟨gb204, 0, none⟩ = some (.slice A0_0 l0_0.length c0_0) := (blk_cell BK204.out 0).trans rfl
     have hfz12_0 := blk_frozen BK204.out 0
     go_wp2_with (first | ((with_reducible refine gate_callee (f := 52) rfl ?_); refine goesL_ (some 15) rfl rfl Tryd.func52 (by kernel_rfl) rfl #[.agg #[.slice A0_0 l0_0.length c0_0], .int .i64 x4_1] rfl (by (try simp only [sD_, sE_, sF_]); rfl) ?_; (with_reducible refine (spec_l4Stays.calls k1 _ _ l0_0 x4_1 false _ ?side1 ?side2 A6.out).mono ?_); (case side1 => repeat (first | exact (Kd.C_below HR0_0.out HB.out) | (with_reducible refine Kd.C_alloc ?_ _) | (with_reducible refine Kd.C_drewN ?_ _) | (with_reducible refine Kd.C_drew ?_))); (case side2 => exact HC0_0.out); rintro e w13 ⟨rfl, hb⟩; refine ⟨_, rfl, ?_⟩; replace HO_3 := aM_ (Kd.R_below HO_3.out hb); replace BK204 := aM_ (blk_below BK204.out hb); replace HB := aM_ (below_step HB.out hb); (try clear hb); (try clear hb2); (try clear hk); (try clear hi)))
     go_roundg k1
     case measure => have := HK1.out; omega
     case rel => exact ⟨(x3_1), (wrap64 (x4_1 + 1)), (by rfl), H', ⟨by have := HK1.out; omega⟩, ⟨HO_3.out⟩, ⟨BK204.out⟩, ⟨HB.out⟩⟩
   ·
    rw [if_neg c5] at H
    have c5b0 := decide_eq_false c5
    clear c5
    obtain rfl := Option.some.inj H
    have hcz14_0 : wr.cell? ⟨gb204, 0, none⟩ = some (.slice A0_0 l0_0.length c0_0) := (blk_cell BK204.out 0).trans rfl
    have hfz14_0 := blk_frozen BK204.out 0
    go_wp2
    go_ret
    exact ⟨_, by rfl, by exact HO_3.out, by exact HB.out⟩
mutual
def spec_l2Prefix.l0 : Nat → Int → ByteArray → List (S73) → Option (ByteArray)
 | 0, _, _, _ => none
 | k + 1, x1, x5, x213000 => if x1 > 0 then (spec_l2Prefix.j1 k x1 x5 (decide ((x5.size : Int) ≤ 12)) x213000) else (spec_l2Prefix.j1 k x1 x5 false x213000)
def spec_l2Prefix.j1 : Nat → Int → ByteArray → Bool → List (S73) → Option (ByteArray)
 | 0, _, _, _, _ => none
 | k + 1, x1, x5, x13, x213000 => if x13 = true then (if 0 ≤ x1 then (if x1 < (x213000.length : Int) then ((spec_l1In.f ((rd_T73 x213000 x1).f0) 0 25).bind fun t215 => (if t215 = true then (if ((rd_T73 x213000 x1).f1) ≥ x1 then (some (⟨#[63]⟩ : ByteArray)) else ((some (([(wrap64 (97 + ((rd_T73 x213000 x1).f0))) % 256] : List Int) : List Int)).bind fun y216 => (if (strOfNums y216).size + x5.size ≤ 9223372036854775807 then (spec_l2Prefix.l0 k ((rd_T73 x213000 x1).f1) ((strOfNums y216) ++ x5) x213000) else (none)))) else (some (⟨#[63]⟩ : ByteArray)))) else (none)) else (none)) else (if x1 = 0 then (some x5) else (some (⟨#[63]⟩ : ByteArray)))
end
def spec_l2Prefix.f (k : Nat) (l0_0 : List (S73)) (a1 : Int) : Option (ByteArray) := spec_l2Prefix.l0 k a1 (⟨#[]⟩ : ByteArray) l0_0
theorem spec_l2Prefix.mono_l : ∀ k, (∀ y0 y1 y2, LeO (spec_l2Prefix.l0 k y0 y1 y2) (spec_l2Prefix.l0 (k + 1) y0 y1 y2)) ∧ (∀ y0 y1 y2 y3, LeO (spec_l2Prefix.j1 k y0 y1 y2 y3) (spec_l2Prefix.j1 (k + 1) y0 y1 y2 y3))
 | 0 => ⟨fun _ _ _ r h => by simp [spec_l2Prefix.l0] at h, fun _ _ _ _ r h => by simp [spec_l2Prefix.j1] at h⟩
 | k + 1 => by
  obtain ⟨ih0, ih1⟩ := spec_l2Prefix.mono_l k
  refine ⟨?_, ?_⟩
  ·
   intro y0 y1 y2
   unfold spec_l2Prefix.l0
   repeat' first
   | (with_reducible exact ih0 _ _ _)
   | (with_reducible exact ih1 _ _ _ _)
   | (with_reducible exact LeO.refl _)
   | (with_reducible exact LeO.none _)
   | (with_reducible refine LeO.ite ?_ ?_)
   | (with_reducible refine LeO.bind ?_ (fun _ => ?_))
   | exact ih0 _ _ _
   | exact ih1 _ _ _ _
   | exact LeO.none _
   | refine LeO.ite ?_ ?_
   | refine LeO.bind ?_ (fun _ => ?_)
  ·
   intro y0 y1 y2 y3
   unfold spec_l2Prefix.j1
   repeat' first
   | (with_reducible exact ih0 _ _ _)
   | (with_reducible exact ih1 _ _ _ _)
   | (with_reducible exact LeO.refl _)
   | (with_reducible exact LeO.none _)
   | (with_reducible refine LeO.ite ?_ ?_)
   | (with_reducible refine LeO.bind ?_ (fun _ => ?_))
   | exact ih0 _ _ _
   | exact ih1 _ _ _ _
   | exact LeO.none _
   | refine LeO.ite ?_ ?_
   | refine LeO.bind ?_ (fun _ => ?_)
theorem spec_l2Prefix.mono : ∀ a0 a1 k, LeO (spec_l2Prefix.f k a0 a1) (spec_l2Prefix.f (k + 1) a0 a1) := by
 intro a0 a1 k
 obtain ⟨ih0, ih1⟩ := spec_l2Prefix.mono_l k
 unfold spec_l2Prefix.f
 repeat' first
   | (with_reducible exact ih0 _ _ _)
   | (with_reducible exact ih1 _ _ _ _)
   | (with_reducible exact LeO.refl _)
   | (with_reducible exact LeO.none _)
   | (with_reducible refine LeO.ite ?_ ?_)
   | (with_reducible refine LeO.bind ?_ (fun _ => ?_))
   | exact ih0 _ _ _
   | exact ih1 _ _ _ _
   | exact LeO.none _
   | refine LeO.ite ?_ ?_
   | refine LeO.bind ?_ (fun _ => ?_)
theorem spec_l2Prefix.calls (k : Nat) (A0_0 : Option Addr) (c0_0 : Nat) (l0_0 : List (S73)) (a1 : Int) (r : ByteArray) (w : World) (hr0_0 : Kd.C k73 w A0_0 l0_0.length l0_0) (hc0_0 : l0_0.length ≤ c0_0) (h : spec_l2Prefix.f k l0_0 a1 = some r) :
  Calls Tryd.prog 53 #[.agg #[.slice A0_0 l0_0.length c0_0], .int .i64 a1] w fun e w' => e = .returned (.string r) ∧ Below w.heap.size w w' := by
 have hu44 := Tryd.underlying44
 have hu73 := Tryd.underlying73
 have HR0_0 := aM_ hr0_0
 have HC0_0 := aM_ hc0_0
 clear hr0_0 hc0_0
 have HB := aM_ (Below.refl w.heap.size w)
 have H : (spec_l2Prefix.l0 k a1 (⟨#[]⟩ : ByteArray) l0_0) = some r := h
 clear h
 have H' := aM_ H
 clear H
 go_enter Tryd.func53, Tryd.ntmps53
 go_wp2_with (first | ((with_reducible refine gate_dst (N := 2) rfl ?_); (try (refine gate_guard (by rfl) ?_; dsimp only)); refine box_event ?hg (N := 2) ?hd (cs := #[.slice A0_0 l0_0.length c0_0]) (t := 44) ?hr ?_; (case hd => rfl); (case hg => rfl); (case hr => (go_simp; done)); intro gb212 hg w3 hbox hb; have BK212 := aM_ (hbox); have GW212 := aM_ ((by rw [hg]; exact (below_size HB.out) : w.heap.size ≤ gb212)); have GE212 := GW212; replace HB := aM_ (below_step HB.out hb); clear hb hbox hg))
 go_loopg [1, 5] k (fun kq v1 v5 w' => ∃ (x1_1 : Int) (x5_1 : ByteArray), v1 = .int .i64 x1_1 ∧ v5 = .string x5_1 ∧ Aside0 (spec_l2Prefix.l0 kq x1_1 x5_1 l0_0 = some r) ∧ Aside0 (kq ≤ k) ∧ Aside0 (w'.heap[gb212]? = some (.cells #[(.slice A0_0 l0_0.length c0_0)] 44 (0, 0))) ∧ Aside0 (Below w.heap.size w w'))
 case atStart => exact ⟨(a1), ((⟨#[]⟩ : ByteArray)), (by rfl), (by rfl), H', ⟨Nat.le_refl _⟩, ⟨BK212.out⟩, ⟨HB.out⟩⟩
 case round =>
  clear H'
  try clear p2
  obtain ⟨x1_1, x5_1, rfl, rfl, HA, HK1, BK212, HB⟩ := hrel
  cases gk with
  | zero => exact absurd HA.out (by simp [spec_l2Prefix.l0])
  | succ k1 =>
   have H := HA.out
   clear HA
   simp only [spec_l2Prefix.l0] at H
   have HC4 := aM_ H
   clear H
   go_upto_region 2 with (fail)
   go_cut [13] (fun v13 wc => ∃ (kq : Nat) (x13_3 : Bool), v13 = .bool x13_3 ∧ Aside0 (spec_l2Prefix.j1 kq x1_1 x5_1 x13_3 l0_0 = some r) ∧ Aside0 (kq ≤ k1) ∧ Aside0 (wc.heap[gb212]? = some (.cells #[(.slice A0_0 l0_0.length c0_0)] 44 (0, 0))) ∧ Aside0 (Below w.heap.size w wc))
   case first =>
    have H := HC4.out
    clear HC4
    by_cases c5 : x1_1 > 0
    ·
     rw [if_pos c5] at H
     have c5b0 := decide_eq_true c5
     clear c5
     (skip)
     have H' := aM_ H
     clear H
     go_wp2
     go_meet
     case rel => exact ⟨_, (decide ((x5_1.size : Int) ≤ 12)), (by rfl), H', ⟨by have := HK1.out; omega⟩, ⟨BK212.out⟩, ⟨HB.out⟩⟩
    ·
     rw [if_neg c5] at H
     have c5b0 := decide_eq_false c5
     clear c5
     (skip)
     have H' := aM_ H
     clear H
     go_wp2
     go_meet
     case rel => exact ⟨_, (false), (by rfl), H', ⟨by have := HK1.out; omega⟩, ⟨BK212.out⟩, ⟨HB.out⟩⟩
   case rest =>
    clear HC4
    try clear p2
    try clear c5
    try clear c5b0
    try clear p2
    obtain ⟨kq, x13_3, rfl, HA, HJ3, BK212, HB⟩ := hcut
    cases kq with
    | zero => exact absurd HA.out (by simp [spec_l2Prefix.j1])
    | succ kj3 =>
     have H := HA.out
     clear HA
     simp only [spec_l2Prefix.j1] at H
     by_cases c6 : x13_3 = true
     ·
      subst c6
      rw [if_pos rfl] at H
      by_cases c7 : 0 ≤ x1_1
      ·
       rw [if_pos c7] at H
       have c7b0 := decide_eq_true c7
       clear c7
       by_cases c8 : x1_1 < (l0_0.length : Int)
       ·
        rw [if_pos c8] at H
        have c8b0 := decide_eq_true c8
        clear c8
        replace H := Option.bind_eq_some_iff.mp H
        obtain ⟨t215, A90, H⟩ := H
        try dsimp only at H
        have A9 := aM_ A90
        clear A90
        by_cases c10 : t215 = true
        ·
         subst c10
         rw [if_pos rfl] at H
         by_cases c11 : ((rd_T73 l0_0 x1_1).f1) ≥ x1_1
         ·
          rw [if_pos c11] at H
          have c11b0 := decide_eq_true c11
          clear c11
          obtain rfl := Option.some.inj H
          have hcz12_0 : wc.cell? ⟨gb212, 0, none⟩ = some (.slice A0_0 l0_0.length c0_0) := (blk_cell BK212.out 0).trans rfl
          have hfz12_0 := blk_frozen BK212.out 0
          have p213 : 0 ≤ (x1_1 : Int) := of_decide_eq_true (by (with_reducible assumption))
          have q213 : x1_1 < (l0_0.length : Int) := of_decide_eq_true (by (with_reducible assumption))
          obtain ⟨ad213, e213, hx213_0, hx213_1, hx213_2⟩ := at_T73 HR0_0.out x1_1 p213 q213
          cases e213
          replace hx213_0 := (HB.out.cell (World.block_lt_of_cell? w _ hx213_0)).trans hx213_0
          replace hx213_1 := (HB.out.cell (World.block_lt_of_cell? w _ hx213_1)).trans hx213_1
          replace hx213_2 := (HB.out.cell (World.block_lt_of_cell? w _ hx213_2)).trans hx213_2
          replace p213 := eq_true p213
          replace q213 := eq_true q213
          go_wp2_with (first | ((with_reducible refine gate_dst (N := 6) rfl ?_); (try (refine gate_guard (by rfl) ?_; dsimp only)); refine box_event ?hg (N := 6) ?hd (cs := #[.int .i64 0, .int .i64 0, .bool false]) (t := 73) ?hr ?_; (case hd => rfl); (case hg => rfl); (case hr => (go_simp; done)); intro gb214 hg w13 hbox hb; have BK214 := aM_ (hbox); have GW214 := aM_ ((by rw [hg]; exact (below_size HB.out) : w.heap.size ≤ gb214)); have GE214 := GW214; replace HB := aM_ (below_step HB.out hb); have NB212_214 := aM_ ((by rw [hg]; exact Nat.ne_of_lt (blk_lt BK212.out) : gb212 ≠ gb214)); have NB214_212 := aM_ NB212_214.out.symm; replace BK212 := aM_ (blk_below BK212.out hb); clear hb hbox hg; have hnb14 := NB214_212.out; have hnc14 := NB212_214.out; have hcz15_0 : w13.cell? ⟨gb214, 0, none⟩ = some (.int .i64 0) := (blk_cell BK214.out 0).trans rfl; have hcz15_1 : w13.cell? ⟨gb214, 1, none⟩ = some (.int .i64 0) := (blk_cell BK214.out 1).trans rfl; have hcz15_2 : w13.cell? ⟨gb214, 2, none⟩ = some (.bool false) := (blk_cell BK214.out 2).trans rfl; have hfz15_0 := blk_frozen BK214.out 0; have hfz15_1 := blk_frozen BK214.out 1; have hfz15_2 := blk_frozen BK214.out 2) | ((with_reducible refine gate_callee (f := 26) rfl ?_); refine goesL_ (some 21) rfl rfl Tryd.func26 (by kernel_rfl) rfl #[.int .i64 ((rd_T73 l0_0 x1_1).f0), .int .i64 0, .int .i64 25] rfl (by (try simp only [sD_, sE_, sF_]); rfl) ?_; (with_reducible refine (spec_l1In.calls ((rd_T73 l0_0 x1_1).f0) 0 25 true _ A9.out).mono ?_); rintro e w' ⟨rfl, ⟨nd, rfl⟩⟩; refine ⟨_, rfl, ?_⟩))
          go_ret
          exact ⟨by rfl, by repeat (first | (with_reducible first | exact HB.out | apply below_alloc | apply pw_below_drewN | apply below_drew1 | refine below_set ?_ GE212.out | refine below_set ?_ GE214.out) | exact HB.out)⟩
         ·
          rw [if_neg c11] at H
          have c11b0 := decide_eq_false c11
          clear c11
          obtain ⟨y216, hy216⟩ : ∃ y_ : List Int, y_ = (([(wrap64 (97 + ((rd_T73 l0_0 x1_1).f0))) % 256] : List Int)) := ⟨_, rfl⟩
          replace H : (if (strOfNums y216).size + x5_1.size ≤ 9223372036854775807 then (spec_l2Prefix.l0 kj3 ((rd_T73 l0_0 x1_1).f1) ((strOfNums y216) ++ x5_1) l0_0) else (none)) = some r := by first | (rw [hy216]; with_reducible exact H) | (have H2_ := (Option.bind_some _ _).symm.trans H; rw [hy216]; with_reducible exact H2_) | (have H2_ := (Option.bind_some _ _).symm.trans H; with_reducible exact H2_) | with_reducible exact H | (rw [hy216]; exact H) | exact H
          have Ny216 := aM_ hy216
          clear hy216
          by_cases c16 : (strOfNums y216).size + x5_1.size ≤ 9223372036854775807
          ·
           rw [if_pos c16] at H
           have c16b0 := eq_true c16
           have c16b1 := decide_eq_true c16
           try have c16b2 : (9223372036854775807 < (strOfNums y216).size + x5_1.size) = False := eq_false (Nat.not_lt.2 c16)
           have H' := aM_ H
           clear H
           have hcz17_0 : wc.cell? ⟨gb212, 0, none⟩ = some (.slice A0_0 l0_0.length c0_0) := (blk_cell BK212.out 0).trans rfl
           have hfz17_0 := blk_frozen BK212.out 0
           have p213 : 0 ≤ (x1_1 : Int) := of_decide_eq_true (by (with_reducible assumption))
           have q213 : x1_1 < (l0_0.length : Int) := of_decide_eq_true (by (with_reducible assumption))
           obtain ⟨ad213, e213, hx213_0, hx213_1, hx213_2⟩ := at_T73 HR0_0.out x1_1 p213 q213
           cases e213
           replace hx213_0 := (HB.out.cell (World.block_lt_of_cell? w _ hx213_0)).trans hx213_0
           replace hx213_1 := (HB.out.cell (World.block_lt_of_cell? w _ hx213_1)).trans hx213_1
           replace hx213_2 := (HB.out.cell (World.block_lt_of_cell? w _ hx213_2)).trans hx213_2
           replace p213 := eq_true p213
           replace q213 := eq_true q213
           go_wp2_with (first | ((with_reducible refine gate_dst (N := 6) rfl ?_); (try (refine gate_guard (by rfl) ?_; dsimp only)); refine box_event ?hg (N := 6) ?hd (cs := #[.int .i64 0, .int .i64 0, .bool false]) (t := 73) ?hr ?_; (case hd => rfl); (case hg => rfl); (case hr => (go_simp; done)); intro gb214 hg w18 hbox hb; have BK214 := aM_ (hbox); have GW214 := aM_ ((by rw [hg]; exact (below_size HB.out) : w.heap.size ≤ gb214)); have GE214 := GW214; replace HB := aM_ (below_step HB.out hb); have NB212_214 := aM_ ((by rw [hg]; exact Nat.ne_of_lt (blk_lt BK212.out) : gb212 ≠ gb214)); have NB214_212 := aM_ NB212_214.out.symm; replace BK212 := aM_ (blk_below BK212.out hb); clear hb hbox hg; have hnb19 := NB214_212.out; have hnc19 := NB212_214.out; have hcz20_0 : w18.cell? ⟨gb214, 0, none⟩ = some (.int .i64 0) := (blk_cell BK214.out 0).trans rfl; have hcz20_1 : w18.cell? ⟨gb214, 1, none⟩ = some (.int .i64 0) := (blk_cell BK214.out 1).trans rfl; have hcz20_2 : w18.cell? ⟨gb214, 2, none⟩ = some (.bool false) := (blk_cell BK214.out 2).trans rfl; have hfz20_0 := blk_frozen BK214.out 0; have hfz20_1 := blk_frozen BK214.out 1; have hfz20_2 := blk_frozen BK214.out 2) | ((with_reducible refine gate_callee (f := 26) rfl ?_); refine goesL_ (some 21) rfl rfl Tryd.func26 (by kernel_rfl) rfl #[.int .i64 ((rd_T73 l0_0 x1_1).f0), .int .i64 0, .int .i64 25] rfl (by (try simp only [sD_, sE_, sF_]); rfl) ?_; (with_reducible refine (spec_l1In.calls ((rd_T73 l0_0 x1_1).f0) 0 25 true _ A9.out).mono ?_); rintro e w' ⟨rfl, ⟨nd, rfl⟩⟩; refine ⟨_, rfl, ?_⟩) | ((with_reducible refine gate_dst (N := 33) rfl ?_); (try (refine gate_guard (by rfl) ?_; dsimp only)); refine Kd.R_lit (Kd.int .u8) _ 5 ?hg (N := 33) ?hd (xs := ([(wrap64 (97 + ((rd_T73 l0_0 x1_1).f0))) % 256] : List Int)) (inner := [.int .u8 ((wrap64 (97 + ((rd_T73 l0_0 x1_1).f0))) % 256)]) (ok := fun _ => True) (okp := fun _ => True) ?hr ?hp (fun _ hk => hk) trivial (Below.refl _ _) (Nat.le_refl _) (by simp) ?_; (case hd => rfl); (case hg => rfl); (case hr => (go_simp; done)); (case hp => exact (Reps.one (show Kd.M (Kd.int .u8) _ _ _ ((wrap64 (97 + ((rd_T73 l0_0 x1_1).f0))) % 256) [.int .u8 ((wrap64 (97 + ((rd_T73 l0_0 x1_1).f0))) % 256)] from rfl) (Reps.none _ _))); intro v217 w21 ho22 hb hg_ hnew_; clear hg_ hnew_; (rw [← Ny216.out] at ho22); have HO218 := aM_ (Kd.R_lower ho22 (below_size (by repeat (first | (with_reducible first | exact HB.out | apply below_alloc | apply pw_below_drewN | apply below_drew1 | refine below_set ?_ GE212.out | refine below_set ?_ GE214.out) | exact HB.out)))); replace BK212 := aM_ (blk_below (g := gb212) (o := .cells #[.slice (some ad213) l0_0.length c0_0] 44 (0, 0)) (by (with_reducible repeat (first | refine blk_drewN ?_ _ | refine blk_drew ?_ | refine blk_alloc ?_ _)); refine blk_far ?_ NB212_214.out _; refine blk_far ?_ NB212_214.out _; refine blk_far ?_ NB212_214.out _; exact BK212.out) hb); replace BK214 := aM_ (blk_below (g := gb214) (o := .cells #[.int .i64 ((rd_T73 l0_0 x1_1).f0), .int .i64 ((rd_T73 l0_0 x1_1).f1), .bool ((rd_T73 l0_0 x1_1).f2)] 73 (0, 0)) (by (with_reducible repeat (first | refine blk_drewN ?_ _ | refine blk_drew ?_ | refine blk_alloc ?_ _)); refine blk_put (cs := #[.int .i64 ((rd_T73 l0_0 x1_1).f0), .int .i64 ((rd_T73 l0_0 x1_1).f1), .bool false]) ?_ 2 _ rfl; refine blk_put (cs := #[.int .i64 ((rd_T73 l0_0 x1_1).f0), .int .i64 0, .bool false]) ?_ 1 _ rfl; refine blk_put (cs := #[.int .i64 0, .int .i64 0, .bool false]) ?_ 0 _ rfl; exact BK214.out) hb); replace HB := aM_ (below_step (by repeat (first | (with_reducible first | exact HB.out | apply below_alloc | apply pw_below_drewN | apply below_drew1 | refine below_set ?_ GE212.out | refine below_set ?_ GE214.out) | exact HB.out)) hb); clear hb ho22; have hcv23 := own_string (P := Tryd.prog) Tryd.underlying83 Tryd.underlying5 Tryd.underlying9 (Kd.own_of_R HO218.out); have hcz24_0 : w21.cell? ⟨gb214, 0, none⟩ = some (.int .i64 ((rd_T73 l0_0 x1_1).f0)) := (blk_cell BK214.out 0).trans rfl; have hcz24_1 : w21.cell? ⟨gb214, 1, none⟩ = some (.int .i64 ((rd_T73 l0_0 x1_1).f1)) := (blk_cell BK214.out 1).trans rfl; have hcz24_2 : w21.cell? ⟨gb214, 2, none⟩ = some (.bool ((rd_T73 l0_0 x1_1).f2)) := (blk_cell BK214.out 2).trans rfl; have hfz24_0 := blk_frozen BK214.out 0; have hfz24_1 := blk_frozen BK214.out 1; have hfz24_2 := blk_frozen BK214.out 2))
           go_roundg kj3
           case measure => have := HK1.out; have := HJ3.out; omega
           case rel => exact ⟨((rd_T73 l0_0 x1_1).f1), ((strOfNums y216) ++ x5_1), (by rfl), (by rfl), H', ⟨by have := HK1.out; have := HJ3.out; omega⟩, ⟨BK212.out⟩, ⟨HB.out⟩⟩
          ·
           rw [if_neg c16] at H
           exact absurd H (by simp)
        ·
         replace c10 := Bool.eq_false_iff.mpr c10
         subst c10
         have H1 : (some (⟨#[63]⟩ : ByteArray)) = some r := by rw [if_neg (show ¬ (false = true) by decide)] at H; exact H
         clear H
         have H := H1
         clear H1
         obtain rfl := Option.some.inj H
         have hcz25_0 : wc.cell? ⟨gb212, 0, none⟩ = some (.slice A0_0 l0_0.length c0_0) := (blk_cell BK212.out 0).trans rfl
         have hfz25_0 := blk_frozen BK212.out 0
         have p213 : 0 ≤ (x1_1 : Int) := of_decide_eq_true (by (with_reducible assumption))
         have q213 : x1_1 < (l0_0.length : Int) := of_decide_eq_true (by (with_reducible assumption))
         obtain ⟨ad213, e213, hx213_0, hx213_1, hx213_2⟩ := at_T73 HR0_0.out x1_1 p213 q213
         cases e213
         replace hx213_0 := (HB.out.cell (World.block_lt_of_cell? w _ hx213_0)).trans hx213_0
         replace hx213_1 := (HB.out.cell (World.block_lt_of_cell? w _ hx213_1)).trans hx213_1
         replace hx213_2 := (HB.out.cell (World.block_lt_of_cell? w _ hx213_2)).trans hx213_2
         replace p213 := eq_true p213
         replace q213 := eq_true q213
         go_wp2_with (first | ((with_reducible refine gate_dst (N := 6) rfl ?_); (try (refine gate_guard (by rfl) ?_; dsimp only)); refine box_event ?hg (N := 6) ?hd (cs := #[.int .i64 0, .int .i64 0, .bool false]) (t := 73) ?hr ?_; (case hd => rfl); (case hg => rfl); (case hr => (go_simp; done)); intro gb214 hg w26 hbox hb; have BK214 := aM_ (hbox); have GW214 := aM_ ((by rw [hg]; exact (below_size HB.out) : w.heap.size ≤ gb214)); have GE214 := GW214; replace HB := aM_ (below_step HB.out hb); have NB212_214 := aM_ ((by rw [hg]; exact Nat.ne_of_lt (blk_lt BK212.out) : gb212 ≠ gb214)); have NB214_212 := aM_ NB212_214.out.symm; replace BK212 := aM_ (blk_below BK212.out hb); clear hb hbox hg; have hnb27 := NB214_212.out; have hnc27 := NB212_214.out; have hcz28_0 : w26.cell? ⟨gb214, 0, none⟩ = some (.int .i64 0) := (blk_cell BK214.out 0).trans rfl; have hcz28_1 : w26.cell? ⟨gb214, 1, none⟩ = some (.int .i64 0) := (blk_cell BK214.out 1).trans rfl; have hcz28_2 : w26.cell? ⟨gb214, 2, none⟩ = some (.bool false) := (blk_cell BK214.out 2).trans rfl; have hfz28_0 := blk_frozen BK214.out 0; have hfz28_1 := blk_frozen BK214.out 1; have hfz28_2 := blk_frozen BK214.out 2) | ((with_reducible refine gate_callee (f := 26) rfl ?_); refine goesL_ (some 21) rfl rfl Tryd.func26 (by kernel_rfl) rfl #[.int .i64 ((rd_T73 l0_0 x1_1).f0), .int .i64 0, .int .i64 25] rfl (by (try simp only [sD_, sE_, sF_]); rfl) ?_; (with_reducible refine (spec_l1In.calls ((rd_T73 l0_0 x1_1).f0) 0 25 false _ A9.out).mono ?_); rintro e w' ⟨rfl, ⟨nd, rfl⟩⟩; refine ⟨_, rfl, ?_⟩))
         go_ret
         exact ⟨by rfl, by repeat (first | (with_reducible first | exact HB.out | apply below_alloc | apply pw_below_drewN | apply below_drew1 | refine below_set ?_ GE212.out | refine below_set ?_ GE214.out) | exact HB.out)⟩
       ·
        rw [if_neg c8] at H
        exact absurd H (by simp)
      ·
       rw [if_neg c7] at H
       exact absurd H (by simp)
     ·
      replace c6 := Bool.eq_false_iff.mpr c6
      subst c6
      have H1 : (if x1_1 = 0 then (some x5_1) else (some (⟨#[63]⟩ : ByteArray))) = some r := by rw [if_neg (show ¬ (false = true) by decide)] at H; exact H
      clear H
      have H := H1
      clear H1
      by_cases c29 : x1_1 = 0
      ·
       rw [if_pos c29] at H
       have c29b0 : (x1_1 == 0) = true := beq_iff_eq.mpr c29
       have c29b1 : (x1_1 != 0) = false := bne_eq_false_iff_eq.mpr c29
       clear c29
       obtain rfl := Option.some.inj H
       go_wp2
       go_ret
       exact ⟨by rfl, by exact HB.out⟩
      ·
       rw [if_neg c29] at H
       have c29b0 : (x1_1 == 0) = false := beq_eq_false_iff_ne.mpr c29
       have c29b1 : (x1_1 != 0) = true := bne_iff_ne.mpr c29
       obtain rfl := Option.some.inj H
       go_wp2
       go_ret
       exact ⟨by rfl, by exact HB.out⟩
mutual
def spec_l4Press.l0 : Nat → List Int → Int → List (S73) → List (S56) → Option ((List (S56)))
 | 0, _, _, _, _ => none
 | k + 1, x4, x5, x220000, x228000 => if x5 < (x4.length : Int) then (if 0 ≤ x5 then (if 0 ≤ (rd x4 x5) then (if (rd x4 x5) < (x220000.length : Int) then (if x5 > 0 then (spec_l4Press.l1 k x4 x5 ((rd_T73 x220000 (rd x4 x5)).f1) x220000 x228000 (⟨#[]⟩ : ByteArray) (-1) ((rd_T73 x220000 (rd x4 x5)).f2)) else (if x228000.length < 4398046511104 then (spec_l4Press.l0 k x4 (wrap64 (x5 + 1)) x220000 (x228000 ++ [(⟨(⟨#[]⟩ : ByteArray), (-1), (rd_T73 x220000 (rd x4 x5)).f2⟩ : S56)])) else (none))) else (none)) else (none)) else (none)) else (some x228000)
def spec_l4Press.l1 : Nat → List Int → Int → Int → List (S73) → List (S56) → ByteArray → Int → Bool → Option ((List (S56)))
 | 0, _, _, _, _, _, _, _, _ => none
 | k + 1, x4, x5, x7, x220000, x228000, x231000, x231001, x231002 => (spec_l4Stays.f k x220000 x7).bind fun t233 => (if t233 = true then (if 0 ≤ x5 then (if x5 < (x4.length : Int) then ((spec_l2Prefix.f k x220000 (rd x4 x5)).bind fun t236 => ((spec_l2Prefix.f k x220000 x7).bind fun t237 => (if 0 ≤ (t237.size : Int) then (if (t237.size : Int) ≤ (t236.size : Int) then (spec_l4Press.l2 k x4 x5 x7 0 x220000 x228000 (t236.extract ((t237.size : Int) : Int).toNat t236.size) x231001 x231002) else (none)) else (none)))) else (none)) else (none)) else (if 0 ≤ x7 then (if x7 < (x220000.length : Int) then (spec_l4Press.l1 k x4 x5 ((rd_T73 x220000 x7).f1) x220000 x228000 x231000 x231001 x231002) else (none)) else (none)))
def spec_l4Press.l2 : Nat → List Int → Int → Int → Int → List (S73) → List (S56) → ByteArray → Int → Bool → Option ((List (S56)))
 | 0, _, _, _, _, _, _, _, _, _ => none
 | k + 1, x4, x5, x7, x8, x220000, x228000, x231000, x231001, x231002 => if x8 < x5 then (if 0 ≤ x8 then (if x8 < (x4.length : Int) then (if (rd x4 x8) = x7 then (spec_l4Press.l2 k x4 x5 x7 (wrap64 (x8 + 1)) x220000 x228000 x231000 x8 x231002) else (spec_l4Press.l2 k x4 x5 x7 (wrap64 (x8 + 1)) x220000 x228000 x231000 x231001 x231002)) else (none)) else (none)) else (if x228000.length < 4398046511104 then (spec_l4Press.l0 k x4 (wrap64 (x5 + 1)) x220000 (x228000 ++ [(⟨x231000, x231001, x231002⟩ : S56)])) else (none))
end
def spec_l4Press.f (k : Nat) (l0_0 : List (S73)) : Option ((List (S56))) := (spec_l4Staying.f k l0_0).bind fun t224 => (spec_l4Press.l0 k t224 0 l0_0 (([] : List (S56))))
theorem spec_l4Press.mono_l : ∀ k, (∀ y0 y1 y2 y3, LeO (spec_l4Press.l0 k y0 y1 y2 y3) (spec_l4Press.l0 (k + 1) y0 y1 y2 y3)) ∧ (∀ y0 y1 y2 y3 y4 y5 y6 y7, LeO (spec_l4Press.l1 k y0 y1 y2 y3 y4 y5 y6 y7) (spec_l4Press.l1 (k + 1) y0 y1 y2 y3 y4 y5 y6 y7)) ∧ (∀ y0 y1 y2 y3 y4 y5 y6 y7 y8, LeO (spec_l4Press.l2 k y0 y1 y2 y3 y4 y5 y6 y7 y8) (spec_l4Press.l2 (k + 1) y0 y1 y2 y3 y4 y5 y6 y7 y8))
 | 0 => ⟨fun _ _ _ _ r h => by simp [spec_l4Press.l0] at h, fun _ _ _ _ _ _ _ _ r h => by simp [spec_l4Press.l1] at h, fun _ _ _ _ _ _ _ _ _ r h => by simp [spec_l4Press.l2] at h⟩
 | k + 1 => by
  obtain ⟨ih0, ih1, ih2⟩ := spec_l4Press.mono_l k
  refine ⟨?_, ?_, ?_⟩
  ·
   intro y0 y1 y2 y3
   unfold spec_l4Press.l0
   repeat' first
   | (with_reducible exact ih0 _ _ _ _)
   | (with_reducible exact ih1 _ _ _ _ _ _ _ _)
   | (with_reducible exact ih2 _ _ _ _ _ _ _ _ _)
   | (with_reducible exact spec_l2Prefix.mono _ _ _)
   | (with_reducible exact spec_l4Staying.mono _ _)
   | (with_reducible exact spec_l4Stays.mono _ _ _)
   | (with_reducible exact LeO.refl _)
   | (with_reducible exact LeO.none _)
   | (with_reducible refine LeO.ite ?_ ?_)
   | (with_reducible refine LeO.bind ?_ (fun _ => ?_))
   | exact ih0 _ _ _ _
   | exact ih1 _ _ _ _ _ _ _ _
   | exact ih2 _ _ _ _ _ _ _ _ _
   | exact spec_l2Prefix.mono _ _ _
   | exact spec_l4Staying.mono _ _
   | exact spec_l4Stays.mono _ _ _
   | exact LeO.none _
   | refine LeO.ite ?_ ?_
   | refine LeO.bind ?_ (fun _ => ?_)
  ·
   intro y0 y1 y2 y3 y4 y5 y6 y7
   unfold spec_l4Press.l1
   repeat' first
   | (with_reducible exact ih0 _ _ _ _)
   | (with_reducible exact ih1 _ _ _ _ _ _ _ _)
   | (with_reducible exact ih2 _ _ _ _ _ _ _ _ _)
   | (with_reducible exact spec_l2Prefix.mono _ _ _)
   | (with_reducible exact spec_l4Staying.mono _ _)
   | (with_reducible exact spec_l4Stays.mono _ _ _)
   | (with_reducible exact LeO.refl _)
   | (with_reducible exact LeO.none _)
   | (with_reducible refine LeO.ite ?_ ?_)
   | (with_reducible refine LeO.bind ?_ (fun _ => ?_))
   | exact ih0 _ _ _ _
   | exact ih1 _ _ _ _ _ _ _ _
   | exact ih2 _ _ _ _ _ _ _ _ _
   | exact spec_l2Prefix.mono _ _ _
   | exact spec_l4Staying.mono _ _
   | exact spec_l4Stays.mono _ _ _
   | exact LeO.none _
   | refine LeO.ite ?_ ?_
   | refine LeO.bind ?_ (fun _ => ?_)
  ·
   intro y0 y1 y2 y3 y4 y5 y6 y7 y8
   unfold spec_l4Press.l2
   repeat' first
   | (with_reducible exact ih0 _ _ _ _)
   | (with_reducible exact ih1 _ _ _ _ _ _ _ _)
   | (with_reducible exact ih2 _ _ _ _ _ _ _ _ _)
   | (with_reducible exact spec_l2Prefix.mono _ _ _)
   | (with_reducible exact spec_l4Staying.mono _ _)
   | (with_reducible exact spec_l4Stays.mono _ _ _)
   | (with_reducible exact LeO.refl _)
   | (with_reducible exact LeO.none _)
   | (with_reducible refine LeO.ite ?_ ?_)
   | (with_reducible refine LeO.bind ?_ (fun _ => ?_))
   | exact ih0 _ _ _ _
   | exact ih1 _ _ _ _ _ _ _ _
   | exact ih2 _ _ _ _ _ _ _ _ _
   | exact spec_l2Prefix.mono _ _ _
   | exact spec_l4Staying.mono _ _
   | exact spec_l4Stays.mono _ _ _
   | exact LeO.none _
   | refine LeO.ite ?_ ?_
   | refine LeO.bind ?_ (fun _ => ?_)
theorem spec_l4Press.mono : ∀ a0 k, LeO (spec_l4Press.f k a0) (spec_l4Press.f (k + 1) a0) := by
 intro a0 k
 obtain ⟨ih0, ih1, ih2⟩ := spec_l4Press.mono_l k
 unfold spec_l4Press.f
 repeat' first
   | (with_reducible exact ih0 _ _ _ _)
   | (with_reducible exact ih1 _ _ _ _ _ _ _ _)
   | (with_reducible exact ih2 _ _ _ _ _ _ _ _ _)
   | (with_reducible exact spec_l2Prefix.mono _ _ _)
   | (with_reducible exact spec_l4Staying.mono _ _)
   | (with_reducible exact spec_l4Stays.mono _ _ _)
   | (with_reducible exact LeO.refl _)
   | (with_reducible exact LeO.none _)
   | (with_reducible refine LeO.ite ?_ ?_)
   | (with_reducible refine LeO.bind ?_ (fun _ => ?_))
   | exact ih0 _ _ _ _
   | exact ih1 _ _ _ _ _ _ _ _
   | exact ih2 _ _ _ _ _ _ _ _ _
   | exact spec_l2Prefix.mono _ _ _
   | exact spec_l4Staying.mono _ _
   | exact spec_l4Stays.mono _ _ _
   | exact LeO.none _
   | refine LeO.ite ?_ ?_
   | refine LeO.bind ?_ (fun _ => ?_)
def spec_l4Press.T5 : Bool × List (List Nat × List Nat) := (true, [([], []), ([0], [0]), ([], []), ([], []), ([2, 3], [2, 3]), ([4], [4]), ([1, 5], [1, 5]), ([6], [6]), ([7], [7]), ([8], [8]), ([], []), ([10, 9, 0, 1, 2, 3, 4, 5, 6, 7, 8, 9, 10], [9, 10])])
def spec_l4Press.B5 : List Nat := [0, 1, 0, 0, 12, 28, 63, 127, 255, 511, 0, 2047]
theorem spec_l4Press.tab5 : rtab .any (opsOf Tryd.f39 5) = spec_l4Press.T5 := by kernel_rfl
theorem spec_l4Press.bits5 : waitsOk spec_l4Press.T5.2 spec_l4Press.B5 = true := by kernel_rfl
def spec_l4Press.T7 : Bool × List (List Nat × List Nat) := (true, [([], []), ([0], [0]), ([], []), ([], []), ([2, 3], [2, 3]), ([4], [4]), ([1, 5], [1, 5]), ([6], [6]), ([7], [7]), ([8, 0, 1, 2, 3, 4, 5, 6, 7, 8], [8])])
def spec_l4Press.B7 : List Nat := [0, 1, 0, 0, 12, 28, 63, 127, 255, 511]
theorem spec_l4Press.tab7 : rtab .any (opsOf Tryd.f39 7) = spec_l4Press.T7 := by kernel_rfl
theorem spec_l4Press.bits7 : waitsOk spec_l4Press.T7.2 spec_l4Press.B7 = true := by kernel_rfl
def spec_l4Press.T10 : Bool × List (List Nat × List Nat) := (true, [([], []), ([], []), ([], []), ([1, 2], [1, 2]), ([3], [3]), ([0, 4], [0, 4]), ([], []), ([], []), ([6, 7, 5], [6, 7]), ([8], [8]), ([5, 9], [5, 9]), ([0, 1, 2, 3, 4, 5, 6, 7, 8, 9, 10], []), ([11, 10, 8, 0, 1, 2, 3, 4, 5, 6, 7, 8, 9, 10], [10, 11])])
def spec_l4Press.B10 : List Nat := [0, 0, 0, 6, 14, 31, 0, 0, 255, 511, 1023, 2047, 4095]
theorem spec_l4Press.tab10 : rtab .any (opsOf Tryd.f39 10) = spec_l4Press.T10 := by kernel_rfl
theorem spec_l4Press.bits10 : waitsOk spec_l4Press.T10.2 spec_l4Press.B10 = true := by kernel_rfl
theorem spec_l4Press.calls (k : Nat) (A0_0 : Option Addr) (c0_0 : Nat) (l0_0 : List (S73)) (r : List (S56)) (w : World) (hr0_0 : Kd.C k73 w A0_0 l0_0.length l0_0) (hc0_0 : l0_0.length ≤ c0_0) (h : spec_l4Press.f k l0_0 = some r) :
  Calls Tryd.prog 39 #[.agg #[.slice A0_0 l0_0.length c0_0]] w fun e w' => ∃ v0_ : Value, e = .returned (.agg #[v0_]) ∧ Kd.R k56 56 w' w.heap.size (fun _ => True) v0_ r ∧ Below w.heap.size w w' := by
 have hu44 := Tryd.underlying44
 have hu29 := Tryd.underlying29
 have hu56 := Tryd.underlying56
 have HR0_0 := aM_ hr0_0
 have HC0_0 := aM_ hc0_0
 clear hr0_0 hc0_0
 have HB := aM_ (Below.refl w.heap.size w)
 have H : ((spec_l4Staying.f k l0_0).bind fun t224 => (spec_l4Press.l0 k t224 0 l0_0 (([] : List (S56))))) = some r := h
 clear h
 obtain ⟨y221, hy221⟩ : ∃ y_ : List (S56), y_ = (([] : List (S56))) := ⟨_, rfl⟩
 replace H : ((spec_l4Staying.f k l0_0).bind fun t224 => (spec_l4Press.l0 k t224 0 l0_0 y221)) = some r := by first | (rw [hy221]; with_reducible exact H) | (have H2_ := (Option.bind_some _ _).symm.trans H; rw [hy221]; with_reducible exact H2_) | (have H2_ := (Option.bind_some _ _).symm.trans H; with_reducible exact H2_) | with_reducible exact H | (rw [hy221]; exact H) | exact H
 have Ny221 := aM_ hy221
 clear hy221
 replace H := Option.bind_eq_some_iff.mp H
 obtain ⟨t224, A20, H⟩ := H
 try dsimp only at H
 have A2 := aM_ A20
 clear A20
 have H' := aM_ H
 clear H
 go_enter Tryd.func39, Tryd.ntmps39
 go_wp2_with (first | ((with_reducible refine gate_dst (N := 1) rfl ?_); refine box_event ?hg (N := 1) ?hd (cs := #[.slice A0_0 l0_0.length c0_0]) (t := 44) ?hr ?_; (case hd => rfl); (case hg => rfl); (case hr => (go_simp; done)); intro gb219 hg w3 hbox hb; have BK219 := aM_ (hbox); have GW219 := aM_ ((by rw [hg]; exact (below_size HB.out) : w.heap.size ≤ gb219)); have GE219 := GW219; replace HB := aM_ (below_step HB.out hb); clear hb hbox hg) | ((with_reducible refine gate_dst (N := 2) rfl ?_); refine box_event ?hg (N := 2) ?hd (cs := #[.slice none 0 0]) (t := 29) ?hr ?_; (case hd => rfl); (case hg => rfl); (case hr => (go_simp; done)); intro gb220 hg w4 hbox hb; have BK220 := aM_ (hbox); have GW220 := aM_ ((by rw [hg]; exact (below_size HB.out) : w.heap.size ≤ gb220)); have GE220 := GW220; replace HB := aM_ (below_step HB.out hb); have NB219_220 := aM_ ((by rw [hg]; exact Nat.ne_of_lt (blk_lt BK219.out) : gb219 ≠ gb220)); have NB220_219 := aM_ NB219_220.out.symm; replace BK219 := aM_ (blk_below BK219.out hb); clear hb hbox hg) | ((with_reducible refine gate_dst (N := 9) rfl ?_); refine Kd.R_lit k56 _ 56 ?hg (N := 9) ?hd (xs := ([] : List (S56))) (inner := []) (ok := fun _ => True) (okp := fun _ => True) ?hr ?hp (fun _ hk => hk) trivial (Below.refl _ _) (Nat.le_refl _) (by simp) ?_; (case hd => rfl); (case hg => rfl); (case hr => (go_simp; done)); (case hp => exact (Reps.none _ _)); intro v222 w5 ho6 hb hg_ hnew_; clear hg_ hnew_; (rw [← Ny221.out] at ho6); have HO223 := aM_ (Kd.R_lower ho6 (below_size HB.out)); replace BK219 := aM_ (blk_below BK219.out hb); replace BK220 := aM_ (blk_below BK220.out hb); replace HB := aM_ (below_step HB.out hb); clear hb ho6; obtain ⟨Ao7, co7, eo7⟩ := Kd.R_slice HO223.out; subst eo7; have hnb8 := NB219_220.out; have hnc8 := NB220_219.out; have hcz9_0 : w5.cell? ⟨gb219, 0, none⟩ = some (.slice A0_0 l0_0.length c0_0) := (blk_cell BK219.out 0).trans rfl; have hfz9_0 := blk_frozen BK219.out 0) | ((with_reducible refine gate_callee (f := 51) rfl ?_); refine goesL_ (some 12) rfl rfl Tryd.func51 (by kernel_rfl) rfl #[.agg #[.slice A0_0 l0_0.length c0_0]] rfl (by (try simp only [sD_, sE_, sF_]); rfl) ?_; (with_reducible refine (spec_l4Staying.calls k _ _ l0_0 t224 _ ?side1 ?side2 A2.out).mono ?_); (case side1 => repeat (first | exact (Kd.C_below HR0_0.out HB.out) | (with_reducible refine Kd.C_alloc ?_ _) | (with_reducible refine Kd.C_drewN ?_ _) | (with_reducible refine Kd.C_drew ?_))); (case side2 => exact HC0_0.out); rintro e w10 ⟨v225, rfl, ho0, hb⟩; refine ⟨_, rfl, ?_⟩; replace HO223 := aM_ (Kd.R_below HO223.out hb); have HO226 := aM_ (Kd.R_lower ho0 (below_size HB.out)); replace BK219 := aM_ (blk_below BK219.out hb); replace BK220 := aM_ (blk_below BK220.out hb); replace HB := aM_ (below_step HB.out hb); (try clear hb); (try clear hb2); (try clear hk); (try clear hi); (try clear ho0)) | ((with_reducible refine gate_dst (N := 3) rfl ?_); refine box_event ?hg (N := 3) ?hd (cs := #[.slice none 0 0]) (t := 29) ?hr ?_; (case hd => rfl); (case hg => rfl); (case hr => (go_simp; done)); intro gb227 hg w11 hbox hb; replace HO223 := aM_ (Kd.R_below HO223.out hb); replace HO226 := aM_ (Kd.R_below HO226.out hb); have BK227 := aM_ (hbox); have GW227 := aM_ ((by rw [hg]; exact (below_size HB.out) : w.heap.size ≤ gb227)); have GE227 := GW227; replace HB := aM_ (below_step HB.out hb); have NB219_227 := aM_ ((by rw [hg]; exact Nat.ne_of_lt (blk_lt BK219.out) : gb219 ≠ gb227)); have NB227_219 := aM_ NB219_227.out.symm; replace BK219 := aM_ (blk_below BK219.out hb); have NB220_227 := aM_ ((by rw [hg]; exact Nat.ne_of_lt (blk_lt BK220.out) : gb220 ≠ gb227)); have NB227_220 := aM_ NB220_227.out.symm; replace BK220 := aM_ (blk_below BK220.out hb); clear hb hbox hg; have hnb12 := NB227_219.out; have hnc12 := NB219_227.out; have hnb13 := NB227_220.out; have hnc13 := NB220_227.out; have hcz14_0 : w11.cell? ⟨gb227, 0, none⟩ = some (.slice none 0 0) := (blk_cell BK227.out 0).trans rfl; have hfz14_0 := blk_frozen BK227.out 0))
 go_loopg [5] k (fun kq v5 w' => ∃ (x5_1 : Int) (x228000_1 : List (S56)) (u228000 : Value), v5 = .int .i64 x5_1 ∧ Aside0 (spec_l4Press.l0 kq t224 x5_1 l0_0 x228000_1 = some r) ∧ Aside0 (kq ≤ k) ∧ Aside0 (Kd.R (Kd.int .i64) 3 w' w.heap.size (fun _ => True) v225 t224) ∧ Aside0 (Kd.R k56 56 w' w.heap.size (fun _ => True) u228000 x228000_1) ∧ Aside0 (w'.heap[gb219]? = some (.cells #[(.slice A0_0 l0_0.length c0_0)] 44 (0, 0))) ∧ Aside0 (w'.heap[gb220]? = some (.cells #[(.slice none 0 0)] 29 (0, 0))) ∧ Aside0 (w'.heap[gb227]? = some (.cells #[u228000] 29 (0, 0))) ∧ Aside0 (Below w.heap.size w w'))
 case atStart => exact ⟨(0), (y221), (.slice Ao7 y221.length co7), (by rfl), H', ⟨Nat.le_refl _⟩, ⟨by exact Kd.R_mono (Kd.R_far (p := ⟨gb227, 0, none⟩) (Kd.R_types HO226.out BK227.out (by decide)) (fun _ hk => hk.2) (.slice Ao7 y221.length co7)) (fun _ hk => trivial)⟩, ⟨by exact Kd.R_mono (Kd.R_far (p := ⟨gb227, 0, none⟩) (Kd.R_types HO223.out BK227.out (by decide)) (fun _ hk => hk.2) (.slice Ao7 y221.length co7)) (fun _ hk => trivial)⟩, ⟨by refine blk_far ?_ NB219_227.out _; exact BK219.out⟩, ⟨by refine blk_far ?_ NB220_227.out _; exact BK220.out⟩, ⟨by refine blk_put (cs := #[.slice none 0 0]) ?_ 0 _ rfl; exact BK227.out⟩, ⟨by repeat (first | (with_reducible first | exact HB.out | apply below_alloc | apply pw_below_drewN | apply below_drew1 | refine below_set ?_ GE219.out | refine below_set ?_ GE220.out | refine below_set ?_ GE227.out) | exact HB.out)⟩⟩
 case round =>
  clear H'
  try clear c1
  try clear p2
  try clear c3
  try clear c5
  try clear c8
  try clear c12
  try clear c13
  try clear hcz14_0
  try clear hcz9_0
  try clear hfz14_0
  try clear hfz9_0
  obtain ⟨x5_1, x228000_1, u228000, rfl, HA, HK1, HO_4, HO_228000, BK219, BK220, BK227, HB⟩ := hrel
  cases gk with
  | zero => exact absurd HA.out (by simp [spec_l4Press.l0])
  | succ k1 =>
   have H := HA.out
   clear HA
   simp only [spec_l4Press.l0] at H
   by_cases c15 : x5_1 < (t224.length : Int)
   ·
    rw [if_pos c15] at H
    have c15b0 := decide_eq_true c15
    clear c15
    by_cases c16 : 0 ≤ x5_1
    ·
     rw [if_pos c16] at H
     have c16b0 := decide_eq_true c16
     clear c16
     by_cases c17 : 0 ≤ (rd t224 x5_1)
     ·
      rw [if_pos c17] at H
      have c17b0 := decide_eq_true c17
      clear c17
      by_cases c18 : (rd t224 x5_1) < (l0_0.length : Int)
      ·
       rw [if_pos c18] at H
       have c18b0 := decide_eq_true c18
       clear c18
       by_cases c19 : x5_1 > 0
       ·
        rw [if_pos c19] at H
        have c19b0 := decide_eq_true c19
        clear c19
        have H' := aM_ H
        clear H
        obtain ⟨Ao20, co20, eo20⟩ := Kd.R_slice HO_4.out
        subst eo20
        try go_wp2
        have n0_ := aM_ (Kd.R_drew HO_4.out)
        have n1_ := aM_ (Kd.R_drew HO_228000.out)
        have n2_ := aM_ (blk_drew BK219.out)
        have n3_ := aM_ (blk_drew BK220.out)
        have n4_ := aM_ (blk_drew BK227.out)
        have n5_ := aM_ (below_drew1 HB.out)
        clear HO_4
        clear HO_228000
        clear BK219
        clear BK220
        clear BK227
        clear HB
        have HO_4 := n0_
        have HO_228000 := n1_
        have BK219 := n2_
        have BK220 := n3_
        have BK227 := n4_
        have HB := n5_
        clear n0_ n1_ n2_ n3_ n4_ n5_
        have p228 : 0 ≤ (x5_1 : Int) := of_decide_eq_true (by (with_reducible assumption))
        have q228 : x5_1 < (t224.length : Int) := of_decide_eq_true (by (with_reducible assumption))
        obtain ⟨ad228, e228, hx228_0⟩ := Kd.at_int (Kd.R_reads' HO_4.out).2.2 x5_1 p228 q228
        cases e228
        replace p228 := eq_true p228
        replace q228 := eq_true q228
        have p229 : 0 ≤ ((rd t224 x5_1) : Int) := of_decide_eq_true (by (with_reducible assumption))
        have q229 : (rd t224 x5_1) < (l0_0.length : Int) := of_decide_eq_true (by (with_reducible assumption))
        obtain ⟨ad229, e229, hx229_0, hx229_1, hx229_2⟩ := at_T73 HR0_0.out (rd t224 x5_1) p229 q229
        have hw229_2 := hx229_2
        have hw229_1 := hx229_1
        have hw229_0 := hx229_0
        cases e229
        replace hx229_0 := (HB.out.cell (World.block_lt_of_cell? w _ hx229_0)).trans hx229_0
        replace hx229_1 := (HB.out.cell (World.block_lt_of_cell? w _ hx229_1)).trans hx229_1
        replace hx229_2 := (HB.out.cell (World.block_lt_of_cell? w _ hx229_2)).trans hx229_2
        replace p229 := eq_true p229
        replace q229 := eq_true q229
        refine start_ (n := 12) (S := fun w' => w'.cell? ⟨gb219, 0, none⟩ = some (.slice (some ad229) l0_0.length c0_0) ∧ w'.cell? (ad228.add (x5_1).toNat) = some (.int .i64 (rd t224 x5_1)) ∧ w'.cell? (ad229.add (((rd t224 x5_1)).toNat * 3)) = some (.int .i64 ((rd_T73 l0_0 (rd t224 x5_1)).f0)) ∧ w'.cell? ⟨(ad229.add (((rd t224 x5_1)).toNat * 3)).block, (ad229.add (((rd t224 x5_1)).toNat * 3)).off + 1, none⟩ = some (.int .i64 ((rd_T73 l0_0 (rd t224 x5_1)).f1)) ∧ w'.cell? ⟨(ad229.add (((rd t224 x5_1)).toNat * 3)).block, (ad229.add (((rd t224 x5_1)).toNat * 3)).off + 2, none⟩ = some (.bool ((rd_T73 l0_0 (rd t224 x5_1)).f2))) (ds := []) #[fy, fy, fy, fy, fy, fy, fy, fy, fy, fy, fy, fy] (by kernel_rfl) rfl rfl ⟨(blk_cell BK219.out 0).trans rfl, hx228_0, ((HB.out.cell (World.block_lt_of_cell? w _ hw229_0)).trans hw229_0), ((HB.out.cell (World.block_lt_of_cell? w _ hw229_1)).trans hw229_1), ((HB.out.cell (World.block_lt_of_cell? w _ hw229_2)).trans hw229_2)⟩ (fun hHeld => ?_); refine with_tabW spec_l4Press.tab5 spec_l4Press.bits5 (fun HT_ HW_ => ?_)
        generalize wr.drew = w21 at HO_4 HO_228000 BK219 BK220 BK227 HB hx228_0 hx229_0 hx229_1 hx229_2 hHeld ⊢
        refine pure_ (i := 0) (N := some 19) (v := ?_) (a' := ?_) #[ty, fy, fy, fy, fy, fy, fy, fy, fy, fy, fy, fy] rfl rfl (any_of HT_.out (by kernel_rfl)) (fun _ _ _ h => h) (Or.inl ⟨by rfl, ?_⟩) ?_ ?_; rotate_left; (intro w'; go_simp; with_reducible rfl); rotate_left; (simp only [Act.put, sA_, sB_, sC_, i64_w, i32_w]; rfl)
        refine pure_ (i := 2) (N := some 21) (v := ?_) (a' := ?_) #[ty, fy, ty, fy, fy, fy, fy, fy, fy, fy, fy, fy] rfl rfl (any_of HT_.out (by kernel_rfl)) (fun _ _ _ h => h) (Or.inl ⟨by rfl, ?_⟩) ?_ ?_; rotate_left; (intro w'; go_simp; with_reducible rfl); rotate_left; (simp only [Act.put, sA_, sB_, sC_, i64_w, i32_w]; rfl)
        refine pure_ (i := 3) (N := some 22) (v := ?_) (a' := ?_) #[ty, fy, ty, ty, fy, fy, fy, fy, fy, fy, fy, fy] rfl rfl (any_of HT_.out (by kernel_rfl)) (fun _ _ _ h => h) (Or.inl ⟨by rfl, ?_⟩) ?_ ?_; rotate_left; (intro w'; go_simp; with_reducible rfl); rotate_left; (simp only [Act.put, sA_, sB_, sC_, i64_w, i32_w]; rfl)
        refine pure_ (i := 4) (N := some 23) (v := ?_) (a' := ?_) #[ty, fy, ty, ty, ty, fy, fy, fy, fy, fy, fy, fy] rfl rfl (any_of HT_.out (by kernel_rfl)) (fun _ _ _ h => h) (Or.inl ⟨by rfl, ?_⟩) ?_ ?_; rotate_left; (intro w'; go_simp; with_reducible rfl); rotate_left; (simp only [Act.put, sA_, sB_, sC_, i64_w, i32_w]; rfl)
        refine take_ (i := 1) (N := some 20) (v := ?_) (a' := ?_) #[ty, ty, ty, ty, ty, fy, fy, fy, fy, fy, fy, fy] rfl rfl (take_ofW HT_.out HW_.out (by kernel_rfl)) (fun _ _ _ h => h) (Or.inl ⟨by rfl, ?_⟩) hHeld ?_ ?_; rotate_left; (rintro w' ⟨s0, s1, s2, s3, s4⟩; go_simp; with_reducible rfl); rotate_left; (simp only [Act.put, sA_, sB_, sC_, i64_w, i32_w]; rfl)
        refine take_ (i := 5) (N := some 24) (v := ?_) (a' := ?_) #[ty, ty, ty, ty, ty, ty, fy, fy, fy, fy, fy, fy] rfl rfl (take_ofW HT_.out HW_.out (by kernel_rfl)) (fun _ _ _ h => h) (Or.inl ⟨by rfl, ?_⟩) hHeld ?_ ?_; rotate_left; (rintro w' ⟨s0, s1, s2, s3, s4⟩; go_simp; with_reducible rfl); rotate_left; (simp only [Act.put, sA_, sB_, sC_, i64_w, i32_w]; rfl)
        refine pure_ (i := 6) (N := some 25) (v := ?_) (a' := ?_) #[ty, ty, ty, ty, ty, ty, ty, fy, fy, fy, fy, fy] rfl rfl (any_of HT_.out (by kernel_rfl)) (fun _ _ _ h => h) (Or.inl ⟨by rfl, ?_⟩) ?_ ?_; rotate_left; (intro w'; go_simp; with_reducible rfl); rotate_left; (simp only [Act.put, sA_, sB_, sC_, i64_w, i32_w]; rfl)
        refine pure_ (i := 7) (N := some 26) (v := ?_) (a' := ?_) #[ty, ty, ty, ty, ty, ty, ty, ty, fy, fy, fy, fy] rfl rfl (any_of HT_.out (by kernel_rfl)) (fun _ _ _ h => h) (Or.inl ⟨by rfl, ?_⟩) ?_ ?_; rotate_left; (intro w'; go_simp; with_reducible rfl); rotate_left; (simp only [Act.put, sA_, sB_, sC_, i64_w, i32_w]; rfl)
        refine take_ (i := 8) (N := some 27) (v := ?_) (a' := ?_) #[ty, ty, ty, ty, ty, ty, ty, ty, ty, fy, fy, fy] rfl rfl (take_ofW HT_.out HW_.out (by kernel_rfl)) (fun _ _ _ h => h) (Or.inl ⟨by rfl, ?_⟩) hHeld ?_ ?_; rotate_left; (rintro w' ⟨s0, s1, s2, s3, s4⟩; go_simp; with_reducible rfl); rotate_left; (simp only [Act.put, sA_, sB_, sC_, i64_w, i32_w]; rfl)
        refine pure_ (i := 9) (N := some 28) (v := ?_) (a' := ?_) #[ty, ty, ty, ty, ty, ty, ty, ty, ty, ty, fy, fy] rfl rfl (any_of HT_.out (by kernel_rfl)) (fun _ _ _ h => h) (Or.inl ⟨by rfl, ?_⟩) ?_ ?_; rotate_left; (intro w'; go_simp; with_reducible rfl); rotate_left; (simp only [Act.put, sA_, sB_, sC_, i64_w, i32_w]; rfl)
        refine one_ (i := 10) (N := some 6) #[ty, ty, ty, ty, ty, ty, ty, ty, ty, ty, ty, fy] rfl rfl (one_of HT_.out (by kernel_rfl)) (by decide) (fun K hK => ?_)
        refine box_step ?hg (N := 6) ?hd (cs := #[.string (⟨#[]⟩ : ByteArray), .int .i64 0, .bool false]) (t := 56) ?hr ?_; (case hd => rfl); (case hg => rfl); (case hr => (go_simp; done))
        intro gb230 hg w22 hbox hb
        have HS1_ := (hb.cell (World.block_lt_of_cell? _ _ (hHeld.2.1))).trans (hHeld.2.1)
        have n0_ := aM_ (Kd.R_below HO_4.out hb)
        have n1_ := aM_ (Kd.R_below (Kd.R_elderB HO_228000.out gb230 (Nat.le_of_eq hg.symm)) hb)
        have n2_ := aM_ (blk_below BK219.out hb)
        have n3_ := aM_ (blk_below BK220.out hb)
        have n4_ := aM_ (blk_below BK227.out hb)
        have n5_ := aM_ (below_step HB.out hb)
        have n6_ := aM_ (hbox)
        have n7_ := aM_ ((by rw [hg]; exact (below_size HB.out) : w.heap.size ≤ gb230))
        have n8_ := aM_ ((by rw [hg]; exact (below_size HB.out) : w.heap.size ≤ gb230))
        have n9_ := aM_ ((by rw [hg]; exact Nat.ne_of_lt (blk_lt BK219.out) : gb219 ≠ gb230))
        have n10_ := aM_ ((by rw [hg]; exact Nat.ne_of_gt (blk_lt BK219.out) : gb230 ≠ gb219))
        have n11_ := aM_ ((by rw [hg]; exact Nat.ne_of_lt (blk_lt BK220.out) : gb220 ≠ gb230))
        have n12_ := aM_ ((by rw [hg]; exact Nat.ne_of_gt (blk_lt BK220.out) : gb230 ≠ gb220))
        have n13_ := aM_ ((by rw [hg]; exact Nat.ne_of_lt (blk_lt BK227.out) : gb227 ≠ gb230))
        have n14_ := aM_ ((by rw [hg]; exact Nat.ne_of_gt (blk_lt BK227.out) : gb230 ≠ gb227))
        clear HO_4
        clear HO_228000
        clear BK219
        clear BK220
        clear BK227
        clear HB
        have HO_4 := n0_
        have HO_228000 := n1_
        have BK219 := n2_
        have BK220 := n3_
        have BK227 := n4_
        have HB := n5_
        have BK230 := n6_
        have GW230 := n7_
        have GE230 := n8_
        have NB219_230 := n9_
        have NB230_219 := n10_
        have NB220_230 := n11_
        have NB230_220 := n12_
        have NB227_230 := n13_
        have NB230_227 := n14_
        clear n0_ n1_ n2_ n3_ n4_ n5_ n6_ n7_ n8_ n9_ n10_ n11_ n12_ n13_ n14_
        clear hb hbox hg
        refine hK.out _ _ ⟨(blk_cell BK219.out 0).trans rfl, HS1_, ((HB.out.cell (World.block_lt_of_cell? w _ hw229_0)).trans hw229_0), ((HB.out.cell (World.block_lt_of_cell? w _ hw229_1)).trans hw229_1), ((HB.out.cell (World.block_lt_of_cell? w _ hw229_2)).trans hw229_2)⟩ (fun hHeld => ?_)
        clear hK K
        refine norm_ (a' := ?_) ?_ ?_; rotate_left; (show Act.put _ (some 6) _ = _; simp only [Act.put, sA_, sB_, sC_, i64_w, i32_w]; rfl)
        refine one_ (i := 11) (N := none) #[ty, ty, ty, ty, ty, ty, ty, ty, ty, ty, ty, ty] rfl rfl (one_of HT_.out (by kernel_rfl)) (by decide) (fun K hK => ?_)
        have hs23 : w22.cell? ⟨gb230, 0, none⟩ = some (.string (⟨#[]⟩ : ByteArray)) := (blk_cell BK230.out 0).trans rfl
        have hfs23 := blk_frozen BK230.out 0
        have hns23_0 := NB219_230.out
        have hns23_1 := NB220_230.out
        have hns23_2 := NB227_230.out
        have hms23_0 := NB230_219.out
        have hms23_1 := NB230_220.out
        have hms23_2 := NB230_227.out
        have hs24 : w22.cell? ⟨gb230, 1, none⟩ = some (.int .i64 0) := (blk_cell BK230.out 1).trans rfl
        have hfs24 := blk_frozen BK230.out 1
        have hns24_0 := NB219_230.out
        have hns24_1 := NB220_230.out
        have hns24_2 := NB227_230.out
        have hms24_0 := NB230_219.out
        have hms24_1 := NB230_220.out
        have hms24_2 := NB230_227.out
        have hs25 : w22.cell? ⟨gb230, 2, none⟩ = some (.bool false) := (blk_cell BK230.out 2).trans rfl
        have hfs25 := blk_frozen BK230.out 2
        have hns25_0 := NB219_230.out
        have hns25_1 := NB220_230.out
        have hns25_2 := NB227_230.out
        have hms25_0 := NB230_219.out
        have hms25_1 := NB230_220.out
        have hms25_2 := NB230_227.out
        refine skip_ (w1 := ?_) (by rfl) rfl ?_ ?_
        rotate_left
        ·
         go_simp
         rfl
        refine hK.out _ _ ⟨((cell_far (p := ⟨gb230, _, none⟩) NB219_230.out _).trans (((cell_far (p := ⟨gb230, _, none⟩) NB219_230.out _).trans (((cell_far (p := ⟨gb230, _, none⟩) NB219_230.out _).trans (hHeld.1)))))), ((cell_far (p := ⟨gb230, _, none⟩) (by (rw [add_block]; exact Kd.own_blk (Kd.R_ne HO_4.out BK230.out (by decide)))) _).trans (((cell_far (p := ⟨gb230, _, none⟩) (by (rw [add_block]; exact Kd.own_blk (Kd.R_ne HO_4.out BK230.out (by decide)))) _).trans (((cell_far (p := ⟨gb230, _, none⟩) (by (rw [add_block]; exact Kd.own_blk (Kd.R_ne HO_4.out BK230.out (by decide)))) _).trans (hHeld.2.1)))))), ((cell_far (p := ⟨gb230, _, none⟩) (by exact Nat.ne_of_lt (Nat.lt_of_lt_of_le (by have := World.block_lt_of_cell? _ _ hw229_0; exact this) GW230.out)) _).trans (((cell_far (p := ⟨gb230, _, none⟩) (by exact Nat.ne_of_lt (Nat.lt_of_lt_of_le (by have := World.block_lt_of_cell? _ _ hw229_0; exact this) GW230.out)) _).trans (((cell_far (p := ⟨gb230, _, none⟩) (by exact Nat.ne_of_lt (Nat.lt_of_lt_of_le (by have := World.block_lt_of_cell? _ _ hw229_0; exact this) GW230.out)) _).trans (hHeld.2.2.1)))))), ((cell_far (p := ⟨gb230, _, none⟩) (by exact Nat.ne_of_lt (Nat.lt_of_lt_of_le (by have := World.block_lt_of_cell? _ _ hw229_1; exact this) GW230.out)) _).trans (((cell_far (p := ⟨gb230, _, none⟩) (by exact Nat.ne_of_lt (Nat.lt_of_lt_of_le (by have := World.block_lt_of_cell? _ _ hw229_1; exact this) GW230.out)) _).trans (((cell_far (p := ⟨gb230, _, none⟩) (by exact Nat.ne_of_lt (Nat.lt_of_lt_of_le (by have := World.block_lt_of_cell? _ _ hw229_1; exact this) GW230.out)) _).trans (hHeld.2.2.2.1)))))), ((cell_far (p := ⟨gb230, _, none⟩) (by exact Nat.ne_of_lt (Nat.lt_of_lt_of_le (by have := World.block_lt_of_cell? _ _ hw229_2; exact this) GW230.out)) _).trans (((cell_far (p := ⟨gb230, _, none⟩) (by exact Nat.ne_of_lt (Nat.lt_of_lt_of_le (by have := World.block_lt_of_cell? _ _ hw229_2; exact this) GW230.out)) _).trans (((cell_far (p := ⟨gb230, _, none⟩) (by exact Nat.ne_of_lt (Nat.lt_of_lt_of_le (by have := World.block_lt_of_cell? _ _ hw229_2; exact this) GW230.out)) _).trans (hHeld.2.2.2.2))))))⟩ (fun hHeld => ?_)
        clear hK K
        refine done_ (done_of HT_.out (by kernel_rfl)) ?_
        try go_wp2
        have n0_ : Aside0 (Kd.R (Kd.int .i64) 3 (((w22.setCell ⟨gb230, 0, none⟩ (.string (⟨#[]⟩ : ByteArray))).setCell ⟨gb230, 1, none⟩ (.int .i64 (-1))).setCell ⟨gb230, 2, none⟩ (.bool ((rd_T73 l0_0 (rd t224 x5_1)).f2))) w.heap.size (fun _ => True) (.slice (some ad228) t224.length co20) t224) := ⟨by exact Kd.R_mono (Kd.R_far (p := ⟨gb230, 2, none⟩) (Kd.R_far (p := ⟨gb230, 1, none⟩) (Kd.R_far (p := ⟨gb230, 0, none⟩) (Kd.R_types HO_4.out BK230.out (by decide)) (fun _ hk => hk.2) (.string (⟨#[]⟩ : ByteArray))) (fun _ hk => hk.2) (.int .i64 (-1))) (fun _ hk => hk.2) (.bool ((rd_T73 l0_0 (rd t224 x5_1)).f2))) (fun _ hk => trivial)⟩
        have n1_ : Aside0 (Kd.R k56 56 (((w22.setCell ⟨gb230, 0, none⟩ (.string (⟨#[]⟩ : ByteArray))).setCell ⟨gb230, 1, none⟩ (.int .i64 (-1))).setCell ⟨gb230, 2, none⟩ (.bool ((rd_T73 l0_0 (rd t224 x5_1)).f2))) w.heap.size (fun k_ => k_ ≠ gb230) u228000 x228000_1) := ⟨by exact Kd.R_mono (Kd.R_far (p := ⟨gb230, 2, none⟩) (Kd.R_far (p := ⟨gb230, 1, none⟩) (Kd.R_far (p := ⟨gb230, 0, none⟩) (Kd.R_mono HO_228000.out (fun k_ hk => (⟨hk, hk.2⟩ : _ ∧ k_ ≠ gb230))) (fun _ hk => hk.2) (.string (⟨#[]⟩ : ByteArray))) (fun _ hk => hk.2) (.int .i64 (-1))) (fun _ hk => hk.2) (.bool ((rd_T73 l0_0 (rd t224 x5_1)).f2))) (fun _ hk => hk.1.2)⟩
        have n2_ : Aside0 ((((w22.setCell ⟨gb230, 0, none⟩ (.string (⟨#[]⟩ : ByteArray))).setCell ⟨gb230, 1, none⟩ (.int .i64 (-1))).setCell ⟨gb230, 2, none⟩ (.bool ((rd_T73 l0_0 (rd t224 x5_1)).f2))).heap[gb219]? = some (.cells #[.slice (some ad229) l0_0.length c0_0] 44 (0, 0))) := ⟨by refine blk_far ?_ NB219_230.out _; refine blk_far ?_ NB219_230.out _; refine blk_far ?_ NB219_230.out _; exact BK219.out⟩
        have n3_ : Aside0 ((((w22.setCell ⟨gb230, 0, none⟩ (.string (⟨#[]⟩ : ByteArray))).setCell ⟨gb230, 1, none⟩ (.int .i64 (-1))).setCell ⟨gb230, 2, none⟩ (.bool ((rd_T73 l0_0 (rd t224 x5_1)).f2))).heap[gb220]? = some (.cells #[.slice none 0 0] 29 (0, 0))) := ⟨by refine blk_far ?_ NB220_230.out _; refine blk_far ?_ NB220_230.out _; refine blk_far ?_ NB220_230.out _; exact BK220.out⟩
        have n4_ : Aside0 ((((w22.setCell ⟨gb230, 0, none⟩ (.string (⟨#[]⟩ : ByteArray))).setCell ⟨gb230, 1, none⟩ (.int .i64 (-1))).setCell ⟨gb230, 2, none⟩ (.bool ((rd_T73 l0_0 (rd t224 x5_1)).f2))).heap[gb227]? = some (.cells #[u228000] 29 (0, 0))) := ⟨by refine blk_far ?_ NB227_230.out _; refine blk_far ?_ NB227_230.out _; refine blk_far ?_ NB227_230.out _; exact BK227.out⟩
        have n5_ : Aside0 ((((w22.setCell ⟨gb230, 0, none⟩ (.string (⟨#[]⟩ : ByteArray))).setCell ⟨gb230, 1, none⟩ (.int .i64 (-1))).setCell ⟨gb230, 2, none⟩ (.bool ((rd_T73 l0_0 (rd t224 x5_1)).f2))).heap[gb230]? = some (.cells #[.string (⟨#[]⟩ : ByteArray), .int .i64 (-1), .bool ((rd_T73 l0_0 (rd t224 x5_1)).f2)] 56 (0, 0))) := ⟨by refine blk_put (cs := #[.string (⟨#[]⟩ : ByteArray), .int .i64 (-1), .bool false]) ?_ 2 _ rfl; refine blk_put (cs := #[.string (⟨#[]⟩ : ByteArray), .int .i64 0, .bool false]) ?_ 1 _ rfl; refine blk_put (cs := #[.string (⟨#[]⟩ : ByteArray), .int .i64 0, .bool false]) ?_ 0 _ rfl; exact BK230.out⟩
        have n6_ : Aside0 (Below w.heap.size w (((w22.setCell ⟨gb230, 0, none⟩ (.string (⟨#[]⟩ : ByteArray))).setCell ⟨gb230, 1, none⟩ (.int .i64 (-1))).setCell ⟨gb230, 2, none⟩ (.bool ((rd_T73 l0_0 (rd t224 x5_1)).f2)))) := ⟨by repeat (first | (with_reducible first | exact HB.out | apply below_alloc | apply pw_below_drewN | apply below_drew1 | refine below_set ?_ GE219.out | refine below_set ?_ GE220.out | refine below_set ?_ GE227.out | refine below_set ?_ GE230.out) | exact HB.out)⟩
        (try clear HO_4)
        (try clear HO_228000)
        (try clear BK219)
        (try clear BK220)
        (try clear BK227)
        (try clear BK230)
        (try clear HB)
        generalize (((w22.setCell ⟨gb230, 0, none⟩ (.string (⟨#[]⟩ : ByteArray))).setCell ⟨gb230, 1, none⟩ (.int .i64 (-1))).setCell ⟨gb230, 2, none⟩ (.bool ((rd_T73 l0_0 (rd t224 x5_1)).f2))) = w26 at n0_ n1_ n2_ n3_ n4_ n5_ n6_ ⊢
        have HO_4 := n0_
        have HO_228000 := n1_
        have BK219 := n2_
        have BK220 := n3_
        have BK227 := n4_
        have BK230 := n5_
        have HB := n6_
        clear n0_ n1_ n2_ n3_ n4_ n5_ n6_
        have n0_ := aM_ (Kd.R_drew HO_4.out)
        have n1_ := aM_ (Kd.R_drew HO_228000.out)
        have n2_ := aM_ (blk_drew BK219.out)
        have n3_ := aM_ (blk_drew BK220.out)
        have n4_ := aM_ (blk_drew BK227.out)
        have n5_ := aM_ (blk_drew BK230.out)
        have n6_ := aM_ (below_drew1 HB.out)
        clear HO_4
        clear HO_228000
        clear BK219
        clear BK220
        clear BK227
        clear BK230
        clear HB
        have HO_4 := n0_
        have HO_228000 := n1_
        have BK219 := n2_
        have BK220 := n3_
        have BK227 := n4_
        have BK230 := n5_
        have HB := n6_
        clear n0_ n1_ n2_ n3_ n4_ n5_ n6_
        have p231 : 0 ≤ (x5_1 : Int) := of_decide_eq_true (by (with_reducible assumption))
        have q231 : x5_1 < (t224.length : Int) := of_decide_eq_true (by (with_reducible assumption))
        obtain ⟨ad231, e231, hx231_0⟩ := Kd.at_int (Kd.R_reads' HO_4.out).2.2 x5_1 p231 q231
        obtain rfl : ad228 = ad231 := (by injection e231)
        replace p231 := eq_true p231
        replace q231 := eq_true q231
        have p232 : 0 ≤ ((rd t224 x5_1) : Int) := of_decide_eq_true (by (with_reducible assumption))
        have q232 : (rd t224 x5_1) < (l0_0.length : Int) := of_decide_eq_true (by (with_reducible assumption))
        obtain ⟨ad232, e232, hx232_0, hx232_1, hx232_2⟩ := at_T73 HR0_0.out (rd t224 x5_1) p232 q232
        have hw232_2 := hx232_2
        have hw232_1 := hx232_1
        have hw232_0 := hx232_0
        obtain rfl : ad229 = ad232 := (by injection e232)
        replace hx232_0 := (HB.out.cell (World.block_lt_of_cell? w _ hx232_0)).trans hx232_0
        replace hx232_1 := (HB.out.cell (World.block_lt_of_cell? w _ hx232_1)).trans hx232_1
        replace hx232_2 := (HB.out.cell (World.block_lt_of_cell? w _ hx232_2)).trans hx232_2
        replace p232 := eq_true p232
        replace q232 := eq_true q232
        refine start_ (n := 10) (S := fun w' => w'.cell? ⟨gb219, 0, none⟩ = some (.slice (some ad229) l0_0.length c0_0) ∧ w'.cell? (ad228.add (x5_1).toNat) = some (.int .i64 (rd t224 x5_1)) ∧ w'.cell? (ad229.add (((rd t224 x5_1)).toNat * 3)) = some (.int .i64 ((rd_T73 l0_0 (rd t224 x5_1)).f0)) ∧ w'.cell? ⟨(ad229.add (((rd t224 x5_1)).toNat * 3)).block, (ad229.add (((rd t224 x5_1)).toNat * 3)).off + 1, none⟩ = some (.int .i64 ((rd_T73 l0_0 (rd t224 x5_1)).f1)) ∧ w'.cell? ⟨(ad229.add (((rd t224 x5_1)).toNat * 3)).block, (ad229.add (((rd t224 x5_1)).toNat * 3)).off + 2, none⟩ = some (.bool ((rd_T73 l0_0 (rd t224 x5_1)).f2))) (ds := []) #[fy, fy, fy, fy, fy, fy, fy, fy, fy, fy] (by kernel_rfl) rfl rfl ⟨(blk_cell BK219.out 0).trans rfl, hx231_0, ((HB.out.cell (World.block_lt_of_cell? w _ hw232_0)).trans hw232_0), ((HB.out.cell (World.block_lt_of_cell? w _ hw232_1)).trans hw232_1), ((HB.out.cell (World.block_lt_of_cell? w _ hw232_2)).trans hw232_2)⟩ (fun hHeld => ?_); refine with_tabW spec_l4Press.tab7 spec_l4Press.bits7 (fun HT_ HW_ => ?_)
        generalize w26.drew = w27 at HO_4 HO_228000 BK219 BK220 BK227 BK230 HB hx231_0 hx232_0 hx232_1 hx232_2 hHeld ⊢
        refine pure_ (i := 0) (N := some 31) (v := ?_) (a' := ?_) #[ty, fy, fy, fy, fy, fy, fy, fy, fy, fy] rfl rfl (any_of HT_.out (by kernel_rfl)) (fun _ _ _ h => h) (Or.inl ⟨by rfl, ?_⟩) ?_ ?_; rotate_left; (intro w'; go_simp; with_reducible rfl); rotate_left; (simp only [Act.put, sA_, sB_, sC_, i64_w, i32_w]; rfl)
        refine pure_ (i := 2) (N := some 33) (v := ?_) (a' := ?_) #[ty, fy, ty, fy, fy, fy, fy, fy, fy, fy] rfl rfl (any_of HT_.out (by kernel_rfl)) (fun _ _ _ h => h) (Or.inl ⟨by rfl, ?_⟩) ?_ ?_; rotate_left; (intro w'; go_simp; with_reducible rfl); rotate_left; (simp only [Act.put, sA_, sB_, sC_, i64_w, i32_w]; rfl)
        refine pure_ (i := 3) (N := some 34) (v := ?_) (a' := ?_) #[ty, fy, ty, ty, fy, fy, fy, fy, fy, fy] rfl rfl (any_of HT_.out (by kernel_rfl)) (fun _ _ _ h => h) (Or.inl ⟨by rfl, ?_⟩) ?_ ?_; rotate_left; (intro w'; go_simp; with_reducible rfl); rotate_left; (simp only [Act.put, sA_, sB_, sC_, i64_w, i32_w]; rfl)
        refine pure_ (i := 4) (N := some 35) (v := ?_) (a' := ?_) #[ty, fy, ty, ty, ty, fy, fy, fy, fy, fy] rfl rfl (any_of HT_.out (by kernel_rfl)) (fun _ _ _ h => h) (Or.inl ⟨by rfl, ?_⟩) ?_ ?_; rotate_left; (intro w'; go_simp; with_reducible rfl); rotate_left; (simp only [Act.put, sA_, sB_, sC_, i64_w, i32_w]; rfl)
        refine take_ (i := 1) (N := some 32) (v := ?_) (a' := ?_) #[ty, ty, ty, ty, ty, fy, fy, fy, fy, fy] rfl rfl (take_ofW HT_.out HW_.out (by kernel_rfl)) (fun _ _ _ h => h) (Or.inl ⟨by rfl, ?_⟩) hHeld ?_ ?_; rotate_left; (rintro w' ⟨s0, s1, s2, s3, s4⟩; go_simp; with_reducible rfl); rotate_left; (simp only [Act.put, sA_, sB_, sC_, i64_w, i32_w]; rfl)
        refine take_ (i := 5) (N := some 36) (v := ?_) (a' := ?_) #[ty, ty, ty, ty, ty, ty, fy, fy, fy, fy] rfl rfl (take_ofW HT_.out HW_.out (by kernel_rfl)) (fun _ _ _ h => h) (Or.inl ⟨by rfl, ?_⟩) hHeld ?_ ?_; rotate_left; (rintro w' ⟨s0, s1, s2, s3, s4⟩; go_simp; with_reducible rfl); rotate_left; (simp only [Act.put, sA_, sB_, sC_, i64_w, i32_w]; rfl)
        refine pure_ (i := 6) (N := some 37) (v := ?_) (a' := ?_) #[ty, ty, ty, ty, ty, ty, ty, fy, fy, fy] rfl rfl (any_of HT_.out (by kernel_rfl)) (fun _ _ _ h => h) (Or.inl ⟨by rfl, ?_⟩) ?_ ?_; rotate_left; (intro w'; go_simp; with_reducible rfl); rotate_left; (simp only [Act.put, sA_, sB_, sC_, i64_w, i32_w]; rfl)
        refine pure_ (i := 7) (N := some 38) (v := ?_) (a' := ?_) #[ty, ty, ty, ty, ty, ty, ty, ty, fy, fy] rfl rfl (any_of HT_.out (by kernel_rfl)) (fun _ _ _ h => h) (Or.inl ⟨by rfl, ?_⟩) ?_ ?_; rotate_left; (intro w'; go_simp; with_reducible rfl); rotate_left; (simp only [Act.put, sA_, sB_, sC_, i64_w, i32_w]; rfl)
        refine take_ (i := 8) (N := some 39) (v := ?_) (a' := ?_) #[ty, ty, ty, ty, ty, ty, ty, ty, ty, fy] rfl rfl (take_ofW HT_.out HW_.out (by kernel_rfl)) (fun _ _ _ h => h) (Or.inl ⟨by rfl, ?_⟩) hHeld ?_ ?_; rotate_left; (rintro w' ⟨s0, s1, s2, s3, s4⟩; go_simp; with_reducible rfl); rotate_left; (simp only [Act.put, sA_, sB_, sC_, i64_w, i32_w]; rfl)
        refine pure_ (i := 9) (N := some 7) (v := ?_) (a' := ?_) #[ty, ty, ty, ty, ty, ty, ty, ty, ty, ty] rfl rfl (any_of HT_.out (by kernel_rfl)) (fun _ _ _ h => h) (Or.inl ⟨by rfl, ?_⟩) ?_ ?_; rotate_left; (intro w'; go_simp; with_reducible rfl); rotate_left; (simp only [Act.put, sA_, sB_, sC_, i64_w, i32_w]; rfl)
        refine done_ (done_of HT_.out (by kernel_rfl)) ?_
        try go_wp2
        go_loopg [7] k1 (fun kq v7 w' => ∃ (x7_2 : Int), v7 = .int .i64 x7_2 ∧ Aside0 (spec_l4Press.l1 kq t224 x5_1 x7_2 l0_0 x228000_1 (⟨#[]⟩ : ByteArray) (-1) ((rd_T73 l0_0 (rd t224 x5_1)).f2) = some r) ∧ Aside0 (kq ≤ k1) ∧ Aside0 (Kd.R (Kd.int .i64) 3 w' w.heap.size (fun _ => True) (.slice (some ad228) t224.length co20) t224) ∧ Aside0 (Kd.R k56 56 w' w.heap.size (fun k_ => k_ ≠ gb230) u228000 x228000_1) ∧ Aside0 (w'.heap[gb219]? = some (.cells #[(.slice (some ad229) l0_0.length c0_0)] 44 (0, 0))) ∧ Aside0 (w'.heap[gb220]? = some (.cells #[(.slice none 0 0)] 29 (0, 0))) ∧ Aside0 (w'.heap[gb227]? = some (.cells #[u228000] 29 (0, 0))) ∧ Aside0 (w'.heap[gb230]? = some (.cells #[.string (⟨#[]⟩ : ByteArray), .int .i64 (-1), .bool ((rd_T73 l0_0 (rd t224 x5_1)).f2)] 56 (0, 0))) ∧ Aside0 (Below w.heap.size w w'))
        case atStart => exact ⟨((rd_T73 l0_0 (rd t224 x5_1)).f1), (by rfl), H', ⟨Nat.le_refl _⟩, ⟨HO_4.out⟩, ⟨HO_228000.out⟩, ⟨BK219.out⟩, ⟨BK220.out⟩, ⟨BK227.out⟩, ⟨BK230.out⟩, ⟨HB.out⟩⟩
        case round =>
         clear H'
         try clear c1
         try clear p2
         try clear q2
         try clear hx2
         try clear c3
         try clear c5
         try clear c8
         try clear c12
         try clear c13
         try clear c15
         try clear c15b0
         try clear c16
         try clear c16b0
         try clear c17
         try clear c17b0
         try clear c18
         try clear c18b0
         try clear c19
         try clear c19b0
         try clear p22
         try clear q22
         try clear hx22
         try clear p23
         try clear q23
         try clear hx23
         try clear hcz14_0
         try clear hcz9_0
         try clear hfz14_0
         try clear hfz9_0
         try clear hx228_0
         try clear hx229_0
         try clear hx229_1
         try clear hx229_2
         try clear hx231_0
         try clear hx232_0
         try clear hx232_1
         try clear hx232_2
         try clear p2
         try clear p228
         try clear p229
         try clear p231
         try clear p232
         try clear q228
         try clear q229
         try clear q231
         try clear q232
         obtain ⟨x7_2, rfl, HA, HK2, HO_4, HO_228000, BK219, BK220, BK227, BK230, HB⟩ := hrel
         cases gk with
         | zero => exact absurd HA.out (by simp [spec_l4Press.l1])
         | succ k2 =>
          have H := HA.out
          clear HA
          simp only [spec_l4Press.l1] at H
          replace H := Option.bind_eq_some_iff.mp H
          obtain ⟨t233, A280, H⟩ := H
          try dsimp only at H
          have A28 := aM_ A280
          clear A280
          by_cases c29 : t233 = true
          ·
           subst c29
           rw [if_pos rfl] at H
           by_cases c30 : 0 ≤ x5_1
           ·
            rw [if_pos c30] at H
            have c30b0 := decide_eq_true c30
            clear c30
            by_cases c31 : x5_1 < (t224.length : Int)
            ·
             rw [if_pos c31] at H
             have c31b0 := decide_eq_true c31
             clear c31
             replace H := Option.bind_eq_some_iff.mp H
             obtain ⟨t236, A320, H⟩ := H
             try dsimp only at H
             have A32 := aM_ A320
             clear A320
             replace H := Option.bind_eq_some_iff.mp H
             obtain ⟨t237, A330, H⟩ := H
             try dsimp only at H
             have A33 := aM_ A330
             clear A330
             by_cases c34 : 0 ≤ (t237.size : Int)
             ·
              rw [if_pos c34] at H
              have c34b0 := eq_true c34
              have c34b1 := decide_eq_true c34
              clear c34
              by_cases c35 : (t237.size : Int) ≤ (t236.size : Int)
              ·
               rw [if_pos c35] at H
               have c35b0 := eq_true c35
               have c35b1 := decide_eq_true c35
               clear c35
               have H' := aM_ H
               clear H
               have hnb36 := NB219_220.out
               have hnc36 := NB220_219.out
               have hnb37 := NB219_227.out
               have hnc37 := NB227_219.out
               have hnb38 := NB219_230.out
               have hnc38 := NB230_219.out
               have hcz39_0 : wr.cell? ⟨gb219, 0, none⟩ = some (.slice (some ad229) l0_0.length c0_0) := (blk_cell BK219.out 0).trans rfl
               have hfz39_0 := blk_frozen BK219.out 0
               try go_wp2_with (first | ((with_reducible refine gate_callee (f := 52) rfl ?_); refine goesL_ (some 42) rfl rfl Tryd.func52 (by kernel_rfl) rfl #[.agg #[.slice (some ad229) l0_0.length c0_0], .int .i64 x7_2] rfl (by (try simp only [sD_, sE_, sF_]); rfl) ?_; (with_reducible refine (spec_l4Stays.calls k2 _ _ l0_0 x7_2 true _ ?side1 ?side2 A28.out).mono ?_); (case side1 => repeat (first | exact (Kd.C_below HR0_0.out HB.out) | (with_reducible refine Kd.C_alloc ?_ _) | (with_reducible refine Kd.C_drewN ?_ _) | (with_reducible refine Kd.C_drew ?_))); (case side2 => exact HC0_0.out); rintro e w40 ⟨rfl, hb⟩; refine ⟨_, rfl, ?_⟩; replace HO_4 := aM_ (Kd.R_below HO_4.out hb); replace HO_228000 := aM_ (Kd.R_below HO_228000.out hb); replace BK219 := aM_ (blk_below BK219.out hb); replace BK220 := aM_ (blk_below BK220.out hb); replace BK227 := aM_ (blk_below BK227.out hb); replace BK230 := aM_ (blk_below (g := gb230) (o := .cells #[.string (⟨#[]⟩ : ByteArray), .int .i64 (-1), .bool ((rd_T73 l0_0 (rd t224 x5_1)).f2)] 56 (0, 0)) BK230.out hb); replace HB := aM_ (below_step HB.out hb); (try clear hb); (try clear hb2); (try clear hk); (try clear hi)))
               have n0_ := aM_ (Kd.R_drew HO_4.out)
               have n1_ := aM_ (Kd.R_drew HO_228000.out)
               have n2_ := aM_ (blk_drew BK219.out)
               have n3_ := aM_ (blk_drew BK220.out)
               have n4_ := aM_ (blk_drew BK227.out)
               have n5_ := aM_ (blk_drew BK230.out)
               have n6_ := aM_ (below_drew1 HB.out)
               clear HO_4
               clear HO_228000
               clear BK219
               clear BK220
               clear BK227
               clear BK230
               clear HB
               have HO_4 := n0_
               have HO_228000 := n1_
               have BK219 := n2_
               have BK220 := n3_
               have BK227 := n4_
               have BK230 := n5_
               have HB := n6_
               clear n0_ n1_ n2_ n3_ n4_ n5_ n6_
               have p235 : 0 ≤ (x5_1 : Int) := of_decide_eq_true (by (with_reducible assumption))
               have q235 : x5_1 < (t224.length : Int) := of_decide_eq_true (by (with_reducible assumption))
               obtain ⟨ad235, e235, hx235_0⟩ := Kd.at_int (Kd.R_reads' HO_4.out).2.2 x5_1 p235 q235
               obtain rfl : ad228 = ad235 := (by injection e235)
               replace p235 := eq_true p235
               replace q235 := eq_true q235
               refine start_ (n := 13) (S := fun w' => w'.cell? ⟨gb219, 0, none⟩ = some (.slice (some ad229) l0_0.length c0_0) ∧ w'.cell? (ad228.add (x5_1).toNat) = some (.int .i64 (rd t224 x5_1))) (ds := []) #[fy, fy, fy, fy, fy, fy, fy, fy, fy, fy, fy, fy, fy] (by kernel_rfl) rfl rfl ⟨(blk_cell BK219.out 0).trans rfl, hx235_0⟩ (fun hHeld => ?_); refine with_tabW spec_l4Press.tab10 spec_l4Press.bits10 (fun HT_ HW_ => ?_)
               generalize w40.drew = w41 at HO_4 HO_228000 BK219 BK220 BK227 BK230 HB hx235_0 hHeld ⊢
               refine pure_ (i := 1) (N := some 51) (v := ?_) (a' := ?_) #[fy, ty, fy, fy, fy, fy, fy, fy, fy, fy, fy, fy, fy] rfl rfl (any_of HT_.out (by kernel_rfl)) (fun _ _ _ h => h) (Or.inl ⟨by rfl, ?_⟩) ?_ ?_; rotate_left; (intro w'; go_simp; with_reducible rfl); rotate_left; (simp only [Act.put, sA_, sB_, sC_, i64_w, i32_w]; rfl)
               refine pure_ (i := 2) (N := some 52) (v := ?_) (a' := ?_) #[fy, ty, ty, fy, fy, fy, fy, fy, fy, fy, fy, fy, fy] rfl rfl (any_of HT_.out (by kernel_rfl)) (fun _ _ _ h => h) (Or.inl ⟨by rfl, ?_⟩) ?_ ?_; rotate_left; (intro w'; go_simp; with_reducible rfl); rotate_left; (simp only [Act.put, sA_, sB_, sC_, i64_w, i32_w]; rfl)
               refine pure_ (i := 3) (N := some 53) (v := ?_) (a' := ?_) #[fy, ty, ty, ty, fy, fy, fy, fy, fy, fy, fy, fy, fy] rfl rfl (any_of HT_.out (by kernel_rfl)) (fun _ _ _ h => h) (Or.inl ⟨by rfl, ?_⟩) ?_ ?_; rotate_left; (intro w'; go_simp; with_reducible rfl); rotate_left; (simp only [Act.put, sA_, sB_, sC_, i64_w, i32_w]; rfl)
               refine pure_ (i := 7) (N := some 57) (v := ?_) (a' := ?_) #[fy, ty, ty, ty, fy, fy, fy, ty, fy, fy, fy, fy, fy] rfl rfl (any_of HT_.out (by kernel_rfl)) (fun _ _ _ h => h) (Or.inl ⟨by rfl, ?_⟩) ?_ ?_; rotate_left; (intro w'; go_simp; with_reducible rfl); rotate_left; (simp only [Act.put, sA_, sB_, sC_, i64_w, i32_w]; rfl)
               refine take_ (i := 0) (N := some 50) (v := ?_) (a' := ?_) #[ty, ty, ty, ty, fy, fy, fy, ty, fy, fy, fy, fy, fy] rfl rfl (take_ofW HT_.out HW_.out (by kernel_rfl)) (fun _ _ _ h => h) (Or.inl ⟨by rfl, ?_⟩) hHeld ?_ ?_; rotate_left; (rintro w' ⟨s0, s1⟩; go_simp; with_reducible rfl); rotate_left; (simp only [Act.put, sA_, sB_, sC_, i64_w, i32_w]; rfl)
               refine take_ (i := 4) (N := some 54) (v := ?_) (a' := ?_) #[ty, ty, ty, ty, ty, fy, fy, ty, fy, fy, fy, fy, fy] rfl rfl (take_ofW HT_.out HW_.out (by kernel_rfl)) (fun _ _ _ h => h) (Or.inl ⟨by rfl, ?_⟩) hHeld ?_ ?_; rotate_left; (rintro w' ⟨s0, s1⟩; go_simp; with_reducible rfl); rotate_left; (simp only [Act.put, sA_, sB_, sC_, i64_w, i32_w]; rfl)
               refine take_ (i := 6) (N := some 56) (v := ?_) (a' := ?_) #[ty, ty, ty, ty, ty, fy, ty, ty, fy, fy, fy, fy, fy] rfl rfl (take_ofW HT_.out HW_.out (by kernel_rfl)) (fun _ _ _ h => h) (Or.inl ⟨by rfl, ?_⟩) hHeld ?_ ?_; rotate_left; (rintro w' ⟨s0, s1⟩; go_simp; with_reducible rfl); rotate_left; (simp only [Act.put, sA_, sB_, sC_, i64_w, i32_w]; rfl)
               refine one_ (i := 5) (N := some 55) #[ty, ty, ty, ty, ty, ty, ty, ty, fy, fy, fy, fy, fy] rfl rfl (one_of HT_.out (by kernel_rfl)) (by decide) (fun K hK => ?_)
               refine goes_ Tryd.func53 (by kernel_rfl) rfl #[.agg #[.slice (some ad229) l0_0.length c0_0], .int .i64 (rd t224 x5_1)] (by rfl) rfl rfl (by (try simp only [sD_, sE_, sF_]); rfl) ?_
               with_reducible refine (spec_l2Prefix.calls k2 _ _ l0_0 (rd t224 x5_1) t236 _ ?side1 ?side2 A32.out).mono ?_
               (case side1 => repeat (first | exact (Kd.C_below HR0_0.out HB.out) | (with_reducible refine Kd.C_alloc ?_ _) | (with_reducible refine Kd.C_drewN ?_ _) | (with_reducible refine Kd.C_drew ?_)))
               (case side2 => exact HC0_0.out)
               rintro e w42 ⟨rfl, hb⟩
               have HS1_ := (hb.cell (World.block_lt_of_cell? _ _ (hHeld.2))).trans (hHeld.2)
               refine ⟨_, rfl, ?_⟩
               have n0_ := aM_ (Kd.R_below HO_4.out hb)
               have n1_ := aM_ (Kd.R_below HO_228000.out hb)
               have n2_ := aM_ (blk_below BK219.out hb)
               have n3_ := aM_ (blk_below BK220.out hb)
               have n4_ := aM_ (blk_below BK227.out hb)
               have n5_ := aM_ (blk_below (g := gb230) (o := .cells #[.string (⟨#[]⟩ : ByteArray), .int .i64 (-1), .bool ((rd_T73 l0_0 (rd t224 x5_1)).f2)] 56 (0, 0)) BK230.out hb)
               have n6_ := aM_ (below_step HB.out hb)
               clear HO_4
               clear HO_228000
               clear BK219
               clear BK220
               clear BK227
               clear BK230
               clear HB
               have HO_4 := n0_
               have HO_228000 := n1_
               have BK219 := n2_
               have BK220 := n3_
               have BK227 := n4_
               have BK230 := n5_
               have HB := n6_
               clear n0_ n1_ n2_ n3_ n4_ n5_ n6_
               (try clear hb)
               (try clear hb2)
               (try clear hk)
               (try clear hi)
               refine hK.out _ _ ⟨(blk_cell BK219.out 0).trans rfl, HS1_⟩ (fun hHeld => ?_)
               clear hK K
               refine norm_ (a' := ?_) ?_ ?_; rotate_left; (show Act.put _ (some 55) _ = _; simp only [Act.put, sA_, sB_, sC_, i64_w, i32_w]; rfl)
               refine one_ (i := 8) (N := some 58) #[ty, ty, ty, ty, ty, ty, ty, ty, ty, fy, fy, fy, fy] rfl rfl (one_of HT_.out (by kernel_rfl)) (by decide) (fun K hK => ?_)
               refine goes_ Tryd.func53 (by kernel_rfl) rfl #[.agg #[.slice (some ad229) l0_0.length c0_0], .int .i64 x7_2] (by rfl) rfl rfl (by (try simp only [sD_, sE_, sF_]); rfl) ?_
               with_reducible refine (spec_l2Prefix.calls k2 _ _ l0_0 x7_2 t237 _ ?side1 ?side2 A33.out).mono ?_
               (case side1 => repeat (first | exact (Kd.C_below HR0_0.out HB.out) | (with_reducible refine Kd.C_alloc ?_ _) | (with_reducible refine Kd.C_drewN ?_ _) | (with_reducible refine Kd.C_drew ?_)))
               (case side2 => exact HC0_0.out)
               rintro e w43 ⟨rfl, hb⟩
               have HS1_ := (hb.cell (World.block_lt_of_cell? _ _ (hHeld.2))).trans (hHeld.2)
               refine ⟨_, rfl, ?_⟩
               have n0_ := aM_ (Kd.R_below HO_4.out hb)
               have n1_ := aM_ (Kd.R_below HO_228000.out hb)
               have n2_ := aM_ (blk_below BK219.out hb)
               have n3_ := aM_ (blk_below BK220.out hb)
               have n4_ := aM_ (blk_below BK227.out hb)
               have n5_ := aM_ (blk_below (g := gb230) (o := .cells #[.string (⟨#[]⟩ : ByteArray), .int .i64 (-1), .bool ((rd_T73 l0_0 (rd t224 x5_1)).f2)] 56 (0, 0)) BK230.out hb)
               have n6_ := aM_ (below_step HB.out hb)
               clear HO_4
               clear HO_228000
               clear BK219
               clear BK220
               clear BK227
               clear BK230
               clear HB
               have HO_4 := n0_
               have HO_228000 := n1_
               have BK219 := n2_
               have BK220 := n3_
               have BK227 := n4_
               have BK230 := n5_
               have HB := n6_
               clear n0_ n1_ n2_ n3_ n4_ n5_ n6_
               (try clear hb)
               (try clear hb2)
               (try clear hk)
               (try clear hi)
               refine hK.out _ _ ⟨(blk_cell BK219.out 0).trans rfl, HS1_⟩ (fun hHeld => ?_)
               clear hK K
               refine norm_ (a' := ?_) ?_ ?_; rotate_left; (show Act.put _ (some 58) _ = _; simp only [Act.put, sA_, sB_, sC_, i64_w, i32_w]; rfl)
               refine pure_ (i := 9) (N := some 59) (v := ?_) (a' := ?_) #[ty, ty, ty, ty, ty, ty, ty, ty, ty, ty, fy, fy, fy] rfl rfl (any_of HT_.out (by kernel_rfl)) (fun _ _ _ h => h) (Or.inl ⟨by rfl, ?_⟩) ?_ ?_; rotate_left; (intro w'; go_simp; with_reducible rfl); rotate_left; (simp only [Act.put, sA_, sB_, sC_, i64_w, i32_w]; rfl)
               refine pure_ (i := 10) (N := some 60) (v := ?_) (a' := ?_) #[ty, ty, ty, ty, ty, ty, ty, ty, ty, ty, ty, fy, fy] rfl rfl (any_of HT_.out (by kernel_rfl)) (fun _ _ _ h => h) (Or.inl ⟨by rfl, ?_⟩) ?_ ?_; rotate_left; (intro w'; go_simp; with_reducible rfl); rotate_left; (simp only [Act.put, sA_, sB_, sC_, i64_w, i32_w]; rfl)
               refine pure_ (i := 11) (N := some 61) (v := ?_) (a' := ?_) #[ty, ty, ty, ty, ty, ty, ty, ty, ty, ty, ty, ty, fy] rfl rfl (any_of HT_.out (by kernel_rfl)) (fun _ _ _ h => h) (Or.inl ⟨by rfl, ?_⟩) ?_ ?_; rotate_left; (intro w'; go_simp; with_reducible rfl); rotate_left; (simp only [Act.put, sA_, sB_, sC_, i64_w, i32_w]; rfl)
               refine one_ (i := 12) (N := none) #[ty, ty, ty, ty, ty, ty, ty, ty, ty, ty, ty, ty, ty] rfl rfl (one_of HT_.out (by kernel_rfl)) (by decide) (fun K hK => ?_)
               have hs44 : w43.cell? ⟨gb230, 0, none⟩ = some (.string (⟨#[]⟩ : ByteArray)) := (blk_cell BK230.out 0).trans rfl
               have hfs44 := blk_frozen BK230.out 0
               have hns44_0 := NB219_230.out
               have hns44_1 := NB220_230.out
               have hns44_2 := NB227_230.out
               have hms44_0 := NB230_219.out
               have hms44_1 := NB230_220.out
               have hms44_2 := NB230_227.out
               refine skip_ (w1 := ?_) (by rfl) rfl ?_ ?_
               rotate_left
               ·
                go_simp
                rfl
               refine hK.out _ _ ⟨((cell_far (p := ⟨gb230, _, none⟩) NB219_230.out _).trans (hHeld.1)), ((cell_far (p := ⟨gb230, _, none⟩) (by (rw [add_block]; exact Kd.own_blk (Kd.R_ne HO_4.out BK230.out (by decide)))) _).trans (hHeld.2))⟩ (fun hHeld => ?_)
               clear hK K
               refine done_ (done_of HT_.out (by kernel_rfl)) ?_
               try go_wp2
               go_loopg [8] k2 (fun kq v8 w' => ∃ (x8_3 : Int) (x231001_3 : Int), v8 = .int .i64 x8_3 ∧ Aside0 (spec_l4Press.l2 kq t224 x5_1 x7_2 x8_3 l0_0 x228000_1 (t236.extract ((t237.size : Int) : Int).toNat t236.size) x231001_3 ((rd_T73 l0_0 (rd t224 x5_1)).f2) = some r) ∧ Aside0 (kq ≤ k2) ∧ Aside0 (Kd.R (Kd.int .i64) 3 w' w.heap.size (fun _ => True) (.slice (some ad228) t224.length co20) t224) ∧ Aside0 (Kd.R k56 56 w' w.heap.size (fun k_ => k_ ≠ gb230) u228000 x228000_1) ∧ Aside0 (w'.heap[gb219]? = some (.cells #[(.slice (some ad229) l0_0.length c0_0)] 44 (0, 0))) ∧ Aside0 (w'.heap[gb220]? = some (.cells #[(.slice none 0 0)] 29 (0, 0))) ∧ Aside0 (w'.heap[gb227]? = some (.cells #[u228000] 29 (0, 0))) ∧ Aside0 (w'.heap[gb230]? = some (.cells #[.string (t236.extract ((t237.size : Int) : Int).toNat t236.size), .int .i64 x231001_3, .bool ((rd_T73 l0_0 (rd t224 x5_1)).f2)] 56 (0, 0))) ∧ Aside0 (Below w.heap.size w w'))
               case atStart => exact ⟨(0), ((-1)), (by rfl), H', ⟨Nat.le_refl _⟩, ⟨by exact Kd.R_mono (Kd.R_far (p := ⟨gb230, 0, none⟩) (Kd.R_types HO_4.out BK230.out (by decide)) (fun _ hk => hk.2) (.string (t236.extract ((t237.size : Int) : Int).toNat t236.size))) (fun _ hk => trivial)⟩, ⟨by exact Kd.R_mono (Kd.R_far (p := ⟨gb230, 0, none⟩) (Kd.R_mono HO_228000.out (fun k_ hk => (⟨hk, hk⟩ : _ ∧ k_ ≠ gb230))) (fun _ hk => hk.2) (.string (t236.extract ((t237.size : Int) : Int).toNat t236.size))) (fun _ hk => hk.1)⟩, ⟨by refine blk_far ?_ NB219_230.out _; exact BK219.out⟩, ⟨by refine blk_far ?_ NB220_230.out _; exact BK220.out⟩, ⟨by refine blk_far ?_ NB227_230.out _; exact BK227.out⟩, ⟨by refine blk_put (cs := #[.string (⟨#[]⟩ : ByteArray), .int .i64 (-1), .bool ((rd_T73 l0_0 (rd t224 x5_1)).f2)]) ?_ 0 _ rfl; exact BK230.out⟩, ⟨by repeat (first | (with_reducible first | exact HB.out | apply below_alloc | apply pw_below_drewN | apply below_drew1 | refine below_set ?_ GE219.out | refine below_set ?_ GE220.out | refine below_set ?_ GE227.out | refine below_set ?_ GE230.out) | exact HB.out)⟩⟩
               case round =>
                clear H'
                try clear c1
                try clear c2
                try clear p2
                try clear q2
                try clear hx2
                try clear c3
                try clear c5
                try clear c8
                try clear c12
                try clear c13
                try clear c15
                try clear c15b0
                try clear c16
                try clear c16b0
                try clear c17
                try clear c17b0
                try clear c18
                try clear c18b0
                try clear c19
                try clear c19b0
                try clear p22
                try clear q22
                try clear hx22
                try clear p23
                try clear q23
                try clear hx23
                try clear c29
                try clear c30
                try clear c30b0
                try clear c31
                try clear c31b0
                try clear c34
                try clear c34b0
                try clear c34b1
                try clear c35
                try clear c35b0
                try clear c35b1
                try clear c36
                try clear c37
                try clear c38
                try clear hcz14_0
                try clear hcz39_0
                try clear hcz9_0
                try clear hfz14_0
                try clear hfz39_0
                try clear hfz9_0
                try clear hx228_0
                try clear hx229_0
                try clear hx229_1
                try clear hx229_2
                try clear hx231_0
                try clear hx232_0
                try clear hx232_1
                try clear hx232_2
                try clear hx235_0
                try clear p2
                try clear p22
                try clear p228
                try clear p229
                try clear p23
                try clear p231
                try clear p232
                try clear p235
                try clear q2
                try clear q22
                try clear q228
                try clear q229
                try clear q23
                try clear q231
                try clear q232
                try clear q235
                obtain ⟨x8_3, x231001_3, rfl, HA, HK3, HO_4, HO_228000, BK219, BK220, BK227, BK230, HB⟩ := hrel
                cases gk with
                | zero => exact absurd HA.out (by simp [spec_l4Press.l2])
                | succ k3 =>
                 have H := HA.out
                 clear HA
                 simp only [spec_l4Press.l2] at H
                 by_cases c45 : x8_3 < x5_1
                 ·
                  rw [if_pos c45] at H
                  have c45b0 := decide_eq_true c45
                  clear c45
                  by_cases c46 : 0 ≤ x8_3
                  ·
                   rw [if_pos c46] at H
                   have c46b0 := decide_eq_true c46
                   clear c46
                   by_cases c47 : x8_3 < (t224.length : Int)
                   ·
                    rw [if_pos c47] at H
                    have c47b0 := decide_eq_true c47
                    clear c47
                    by_cases c48 : (rd t224 x8_3) = x7_2
                    ·
                     rw [if_pos c48] at H
                     have c48b0 : ((rd t224 x8_3) == x7_2) = true := beq_iff_eq.mpr c48
                     have c48b1 : ((rd t224 x8_3) != x7_2) = false := bne_eq_false_iff_eq.mpr c48
                     clear c48
                     have H' := aM_ H
                     clear H
                     have p238 : 0 ≤ (x8_3 : Int) := of_decide_eq_true (by (with_reducible assumption))
                     have q238 : x8_3 < (t224.length : Int) := of_decide_eq_true (by (with_reducible assumption))
                     obtain ⟨ad238, e238, hx238_0⟩ := Kd.at_int (Kd.R_reads' HO_4.out).2.2 x8_3 p238 q238
                     obtain rfl : ad228 = ad238 := (by injection e238)
                     replace p238 := eq_true p238
                     replace q238 := eq_true q238
                     have hnb49 := NB230_219.out
                     have hnc49 := NB219_230.out
                     have hnb50 := NB230_220.out
                     have hnc50 := NB220_230.out
                     have hnb51 := NB230_227.out
                     have hnc51 := NB227_230.out
                     have hcz52_0 : wr.cell? ⟨gb230, 0, none⟩ = some (.string (t236.extract ((t237.size : Int) : Int).toNat t236.size)) := (blk_cell BK230.out 0).trans rfl
                     have hcz52_1 : wr.cell? ⟨gb230, 1, none⟩ = some (.int .i64 x231001_3) := (blk_cell BK230.out 1).trans rfl
                     have hcz52_2 : wr.cell? ⟨gb230, 2, none⟩ = some (.bool ((rd_T73 l0_0 (rd t224 x5_1)).f2)) := (blk_cell BK230.out 2).trans rfl
                     have hfz52_0 := blk_frozen BK230.out 0
                     have hfz52_1 := blk_frozen BK230.out 1
                     have hfz52_2 := blk_frozen BK230.out 2
                     go_wp2
                     go_roundg k3
                     case measure => have := HK1.out; have := HK2.out; have := HK3.out; omega
                     case rel => exact ⟨(wrap64 (x8_3 + 1)), (x8_3), (by rfl), H', ⟨by have := HK1.out; have := HK2.out; have := HK3.out; omega⟩, ⟨by exact Kd.R_mono (Kd.R_far (p := ⟨gb230, 1, none⟩) (Kd.R_types HO_4.out BK230.out (by decide)) (fun _ hk => hk.2) (.int .i64 x8_3)) (fun _ hk => trivial)⟩, ⟨by exact Kd.R_mono (Kd.R_far (p := ⟨gb230, 1, none⟩) (Kd.R_mono HO_228000.out (fun k_ hk => (⟨hk, hk⟩ : _ ∧ k_ ≠ gb230))) (fun _ hk => hk.2) (.int .i64 x8_3)) (fun _ hk => hk.1)⟩, ⟨by refine blk_far ?_ NB219_230.out _; exact BK219.out⟩, ⟨by refine blk_far ?_ NB220_230.out _; exact BK220.out⟩, ⟨by refine blk_far ?_ NB227_230.out _; exact BK227.out⟩, ⟨by refine blk_put (cs := #[.string (t236.extract ((t237.size : Int) : Int).toNat t236.size), .int .i64 x231001_3, .bool ((rd_T73 l0_0 (rd t224 x5_1)).f2)]) ?_ 1 _ rfl; exact BK230.out⟩, ⟨by repeat (first | (with_reducible first | exact HB.out | apply below_alloc | apply pw_below_drewN | apply below_drew1 | refine below_set ?_ GE219.out | refine below_set ?_ GE220.out | refine below_set ?_ GE227.out | refine below_set ?_ GE230.out) | exact HB.out)⟩⟩
                    ·
                     rw [if_neg c48] at H
                     have c48b0 : ((rd t224 x8_3) == x7_2) = false := beq_eq_false_iff_ne.mpr c48
                     have c48b1 : ((rd t224 x8_3) != x7_2) = true := bne_iff_ne.mpr c48
                     have H' := aM_ H
                     clear H
                     have p238 : 0 ≤ (x8_3 : Int) := of_decide_eq_true (by (with_reducible assumption))
                     have q238 : x8_3 < (t224.length : Int) := of_decide_eq_true (by (with_reducible assumption))
                     obtain ⟨ad238, e238, hx238_0⟩ := Kd.at_int (Kd.R_reads' HO_4.out).2.2 x8_3 p238 q238
                     obtain rfl : ad228 = ad238 := (by injection e238)
                     replace p238 := eq_true p238
                     replace q238 := eq_true q238
                     go_wp2
                     go_roundg k3
                     case measure => have := HK1.out; have := HK2.out; have := HK3.out; omega
                     case rel => exact ⟨(wrap64 (x8_3 + 1)), (x231001_3), (by rfl), H', ⟨by have := HK1.out; have := HK2.out; have := HK3.out; omega⟩, ⟨HO_4.out⟩, ⟨HO_228000.out⟩, ⟨BK219.out⟩, ⟨BK220.out⟩, ⟨BK227.out⟩, ⟨BK230.out⟩, ⟨HB.out⟩⟩
                   ·
                    rw [if_neg c47] at H
                    exact absurd H (by simp)
                  ·
                   rw [if_neg c46] at H
                   exact absurd H (by simp)
                 ·
                  rw [if_neg c45] at H
                  have c45b0 := decide_eq_false c45
                  clear c45
                  by_cases c53 : x228000_1.length < 4398046511104
                  ·
                   rw [if_pos c53] at H
                   have LMc53 := aM_ c53
                   clear c53
                   obtain ⟨y239, hy239⟩ : ∃ y_ : List (S56), y_ = (x228000_1 ++ [(⟨(t236.extract ((t237.size : Int) : Int).toNat t236.size), x231001_3, ((rd_T73 l0_0 (rd t224 x5_1)).f2)⟩ : S56)]) := ⟨_, rfl⟩
                   replace H : (spec_l4Press.l0 k3 t224 (wrap64 (x5_1 + 1)) l0_0 y239) = some r := by first | (rw [hy239]; with_reducible exact H) | (have H2_ := (Option.bind_some _ _).symm.trans H; rw [hy239]; with_reducible exact H2_) | (have H2_ := (Option.bind_some _ _).symm.trans H; with_reducible exact H2_) | with_reducible exact H | (rw [hy239]; exact H) | exact H
                   have Ny239 := aM_ hy239
                   clear hy239
                   have H' := aM_ H
                   clear H
                   have hnb54 := NB227_219.out
                   have hnc54 := NB219_227.out
                   have hnb55 := NB227_220.out
                   have hnc55 := NB220_227.out
                   have hnb56 := NB227_230.out
                   have hnc56 := NB230_227.out
                   have hcz57_0 : wr.cell? ⟨gb227, 0, none⟩ = some (u228000) := (blk_cell BK227.out 0).trans rfl
                   have hfz57_0 := blk_frozen BK227.out 0
                   have hnb58 := NB230_219.out
                   have hnc58 := NB219_230.out
                   have hnb59 := NB230_220.out
                   have hnc59 := NB220_230.out
                   have hcz60_0 : wr.cell? ⟨gb230, 0, none⟩ = some (.string (t236.extract ((t237.size : Int) : Int).toNat t236.size)) := (blk_cell BK230.out 0).trans rfl
                   have hcz60_1 : wr.cell? ⟨gb230, 1, none⟩ = some (.int .i64 x231001_3) := (blk_cell BK230.out 1).trans rfl
                   have hcz60_2 : wr.cell? ⟨gb230, 2, none⟩ = some (.bool ((rd_T73 l0_0 (rd t224 x5_1)).f2)) := (blk_cell BK230.out 2).trans rfl
                   have hfz60_0 := blk_frozen BK230.out 0
                   have hfz60_1 := blk_frozen BK230.out 1
                   have hfz60_2 := blk_frozen BK230.out 2
                   go_wp2_with (first | ((with_reducible refine gate_builtin (b := .append) (xs := #[.tmp 76, .tmp 78]) rfl ?_); at_builtin; refine Kd.R_append k56 (w0 := w) w.heap.size rfl (.tmp 76) (.tmp 78) 27 56 (.agg #[(.string ⟨#[]⟩), (.int .i64 0), (.bool false)]) 32 rfl Tryd.underlying27 info56 rfl (by decide) (by omega) u228000 x228000_1 (⟨(t236.extract ((t237.size : Int) : Int).toNat t236.size), x231001_3, ((rd_T73 l0_0 (rd t224 x5_1)).f2)⟩ : S56) [.string (t236.extract ((t237.size : Int) : Int).toNat t236.size), .int .i64 x231001_3, .bool ((rd_T73 l0_0 (rd t224 x5_1)).f2)] (fun k_ => k_ ≠ gb230) (fun _ => False) rfl rfl ?aP (fun _ hk => hk.elim) ?aF ?aO ?aB ?aS ?aL ?_; (case aP => exact k56_mkM _ _ _ (⟨(t236.extract ((t237.size : Int) : Int).toNat t236.size), x231001_3, ((rd_T73 l0_0 (rd t224 x5_1)).f2)⟩ : S56)); (case aB => exact HB.out); (case aF => exact (fun k_ hk => Kd.freshB (g := gb230) (o := .cells #[.string (t236.extract ((t237.size : Int) : Int).toNat t236.size), .int .i64 x231001_3, .bool ((rd_T73 l0_0 (rd t224 x5_1)).f2)] 56 (0, 0)) BK230.out k_ hk)); (case aO => exact HO_228000.out); (case aS => exact (below_size HB.out)); (case aL => have := LMc53.out; omega); intro v240 w61 ho hb hg hat; rw [← Ny239.out] at ho; have n0_ := aM_ (Kd.R_over' HO_4.out (Kd.R_typed HO_228000.out) (by decide) hg); have n1_ := aM_ (blk_grown (g := gb219) (o := .cells #[.slice (some ad229) l0_0.length c0_0] 44 (0, 0)) BK219.out hg (Kd.R_ne HO_228000.out BK219.out (by decide))); have n2_ := aM_ (blk_grown (g := gb220) (o := .cells #[.slice none 0 0] 29 (0, 0)) BK220.out hg (Kd.R_ne HO_228000.out BK220.out (by decide))); have n3_ := aM_ (blk_grown (g := gb227) (o := .cells #[u228000] 29 (0, 0)) BK227.out hg (Kd.R_ne HO_228000.out BK227.out (by decide))); have n4_ := aM_ (blk_grown (g := gb230) (o := .cells #[.string (t236.extract ((t237.size : Int) : Int).toNat t236.size), .int .i64 x231001_3, .bool ((rd_T73 l0_0 (rd t224 x5_1)).f2)] 56 (0, 0)) BK230.out hg (Kd.R_away HO_228000.out (fun _ hk => hk))); have n5_ := aM_ (hb); have n6_ := aM_ (ho); clear HO_4; clear BK219; clear BK220; clear BK227; clear BK230; clear HB; clear HO_228000; have HO_4 := n0_; have BK219 := n1_; have BK220 := n2_; have BK227 := n3_; have BK230 := n4_; have HB := n5_; have HO241 := n6_; clear n0_ n1_ n2_ n3_ n4_ n5_ n6_; clear ho hb hg hat; obtain ⟨Ao62, co62, eo62⟩ := Kd.R_slice HO241.out; subst eo62; have hcz63_0 : w61.cell? ⟨gb227, 0, none⟩ = some (u228000) := (blk_cell BK227.out 0).trans rfl; have hfz63_0 := blk_frozen BK227.out 0))
                   go_roundg k3
                   case measure => have := HK1.out; have := HK2.out; have := HK3.out; omega
                   case rel => exact ⟨(wrap64 (x5_1 + 1)), (y239), (.slice Ao62 y239.length co62), (by rfl), H', ⟨by have := HK1.out; have := HK2.out; have := HK3.out; omega⟩, ⟨by exact Kd.R_mono (Kd.R_far (p := ⟨gb227, 0, none⟩) (Kd.R_types HO_4.out BK227.out (by decide)) (fun _ hk => hk.2) (.slice Ao62 y239.length co62)) (fun _ hk => trivial)⟩, ⟨by exact Kd.R_mono (Kd.R_far (p := ⟨gb227, 0, none⟩) (Kd.R_types HO241.out BK227.out (by decide)) (fun _ hk => hk.2) (.slice Ao62 y239.length co62)) (fun _ hk => trivial)⟩, ⟨by refine blk_far ?_ NB219_227.out _; exact BK219.out⟩, ⟨by refine blk_far ?_ NB220_227.out _; exact BK220.out⟩, ⟨by refine blk_put (cs := #[u228000]) ?_ 0 _ rfl; exact BK227.out⟩, ⟨by repeat (first | (with_reducible first | exact HB.out | apply below_alloc | apply pw_below_drewN | apply below_drew1 | refine below_set ?_ GE219.out | refine below_set ?_ GE220.out | refine below_set ?_ GE227.out | refine below_set ?_ GE230.out) | exact HB.out)⟩⟩
                  ·
                   rw [if_neg c53] at H
                   exact absurd H (by simp)
              ·
               rw [if_neg c35] at H
               exact absurd H (by simp)
             ·
              rw [if_neg c34] at H
              exact absurd H (by simp)
            ·
             rw [if_neg c31] at H
             exact absurd H (by simp)
           ·
            rw [if_neg c30] at H
            exact absurd H (by simp)
          ·
           replace c29 := Bool.eq_false_iff.mpr c29
           subst c29
           have H1 : (if 0 ≤ x7_2 then (if x7_2 < (l0_0.length : Int) then (spec_l4Press.l1 k2 t224 x5_1 ((rd_T73 l0_0 x7_2).f1) l0_0 x228000_1 (⟨#[]⟩ : ByteArray) (-1) ((rd_T73 l0_0 (rd t224 x5_1)).f2)) else (none)) else (none)) = some r := by rw [if_neg (show ¬ (false = true) by decide)] at H; exact H
           clear H
           have H := H1
           clear H1
           by_cases c64 : 0 ≤ x7_2
           ·
            rw [if_pos c64] at H
            have c64b0 := decide_eq_true c64
            clear c64
            by_cases c65 : x7_2 < (l0_0.length : Int)
            ·
             rw [if_pos c65] at H
             have c65b0 := decide_eq_true c65
             clear c65
             have H' := aM_ H
             clear H
             have hnb66 := NB219_220.out
             have hnc66 := NB220_219.out
             have hnb67 := NB219_227.out
             have hnc67 := NB227_219.out
             have hnb68 := NB219_230.out
             have hnc68 := NB230_219.out
             have hcz69_0 : wr.cell? ⟨gb219, 0, none⟩ = some (.slice (some ad229) l0_0.length c0_0) := (blk_cell BK219.out 0).trans rfl
             have hfz69_0 := blk_frozen BK219.out 0
             go_wp2_with (first | ((with_reducible refine gate_callee (f := 52) rfl ?_); refine goesL_ (some 42) rfl rfl Tryd.func52 (by kernel_rfl) rfl #[.agg #[.slice (some ad229) l0_0.length c0_0], .int .i64 x7_2] rfl (by (try simp only [sD_, sE_, sF_]); rfl) ?_; (with_reducible refine (spec_l4Stays.calls k2 _ _ l0_0 x7_2 false _ ?side1 ?side2 A28.out).mono ?_); (case side1 => repeat (first | exact (Kd.C_below HR0_0.out HB.out) | (with_reducible refine Kd.C_alloc ?_ _) | (with_reducible refine Kd.C_drewN ?_ _) | (with_reducible refine Kd.C_drew ?_))); (case side2 => exact HC0_0.out); rintro e w70 ⟨rfl, hb⟩; refine ⟨_, rfl, ?_⟩; replace HO_4 := aM_ (Kd.R_below HO_4.out hb); replace HO_228000 := aM_ (Kd.R_below HO_228000.out hb); replace BK219 := aM_ (blk_below BK219.out hb); replace BK220 := aM_ (blk_below BK220.out hb); replace BK227 := aM_ (blk_below BK227.out hb); replace BK230 := aM_ (blk_below (g := gb230) (o := .cells #[.string (⟨#[]⟩ : ByteArray), .int .i64 (-1), .bool ((rd_T73 l0_0 (rd t224 x5_1)).f2)] 56 (0, 0)) BK230.out hb); replace HB := aM_ (below_step HB.out hb); (try clear hb); (try clear hb2); (try clear hk); (try clear hi); have hcz71_0 : w70.cell? ⟨gb219, 0, none⟩ = some (.slice (some ad229) l0_0.length c0_0) := (blk_cell BK219.out 0).trans rfl; have hfz71_0 := blk_frozen BK219.out 0; have p234 : 0 ≤ (x7_2 : Int) := of_decide_eq_true (by (with_reducible assumption)); have q234 : x7_2 < (l0_0.length : Int) := of_decide_eq_true (by (with_reducible assumption)); obtain ⟨ad234, e234, hx234_0, hx234_1, hx234_2⟩ := at_T73 HR0_0.out x7_2 p234 q234; obtain rfl : ad229 = ad234 := (by injection e234); replace hx234_0 := (HB.out.cell (World.block_lt_of_cell? w _ hx234_0)).trans hx234_0; replace hx234_1 := (HB.out.cell (World.block_lt_of_cell? w _ hx234_1)).trans hx234_1; replace hx234_2 := (HB.out.cell (World.block_lt_of_cell? w _ hx234_2)).trans hx234_2; replace p234 := eq_true p234; replace q234 := eq_true q234))
             go_roundg k2
             case measure => have := HK1.out; have := HK2.out; omega
             case rel => exact ⟨((rd_T73 l0_0 x7_2).f1), (by rfl), H', ⟨by have := HK1.out; have := HK2.out; omega⟩, ⟨HO_4.out⟩, ⟨HO_228000.out⟩, ⟨BK219.out⟩, ⟨BK220.out⟩, ⟨BK227.out⟩, ⟨BK230.out⟩, ⟨HB.out⟩⟩
            ·
             rw [if_neg c65] at H
             exact absurd H (by simp)
           ·
            rw [if_neg c64] at H
            exact absurd H (by simp)
       ·
        rw [if_neg c19] at H
        have c19b0 := decide_eq_false c19
        clear c19
        by_cases c72 : x228000_1.length < 4398046511104
        ·
         rw [if_pos c72] at H
         have LMc72 := aM_ c72
         clear c72
         obtain ⟨y242, hy242⟩ : ∃ y_ : List (S56), y_ = (x228000_1 ++ [(⟨(⟨#[]⟩ : ByteArray), (-1), (rd_T73 l0_0 (rd t224 x5_1)).f2⟩ : S56)]) := ⟨_, rfl⟩
         replace H : (spec_l4Press.l0 k1 t224 (wrap64 (x5_1 + 1)) l0_0 y242) = some r := by first | (rw [hy242]; with_reducible exact H) | (have H2_ := (Option.bind_some _ _).symm.trans H; rw [hy242]; with_reducible exact H2_) | (have H2_ := (Option.bind_some _ _).symm.trans H; with_reducible exact H2_) | with_reducible exact H | (rw [hy242]; exact H) | exact H
         have Ny242 := aM_ hy242
         clear hy242
         have H' := aM_ H
         clear H
         obtain ⟨Ao73, co73, eo73⟩ := Kd.R_slice HO_4.out
         subst eo73
         try go_wp2
         have n0_ := aM_ (Kd.R_drew HO_4.out)
         have n1_ := aM_ (Kd.R_drew HO_228000.out)
         have n2_ := aM_ (blk_drew BK219.out)
         have n3_ := aM_ (blk_drew BK220.out)
         have n4_ := aM_ (blk_drew BK227.out)
         have n5_ := aM_ (below_drew1 HB.out)
         clear HO_4
         clear HO_228000
         clear BK219
         clear BK220
         clear BK227
         clear HB
         have HO_4 := n0_
         have HO_228000 := n1_
         have BK219 := n2_
         have BK220 := n3_
         have BK227 := n4_
         have HB := n5_
         clear n0_ n1_ n2_ n3_ n4_ n5_
         have p228 : 0 ≤ (x5_1 : Int) := of_decide_eq_true (by (with_reducible assumption))
         have q228 : x5_1 < (t224.length : Int) := of_decide_eq_true (by (with_reducible assumption))
         obtain ⟨ad228, e228, hx228_0⟩ := Kd.at_int (Kd.R_reads' HO_4.out).2.2 x5_1 p228 q228
         cases e228
         replace p228 := eq_true p228
         replace q228 := eq_true q228
         have p229 : 0 ≤ ((rd t224 x5_1) : Int) := of_decide_eq_true (by (with_reducible assumption))
         have q229 : (rd t224 x5_1) < (l0_0.length : Int) := of_decide_eq_true (by (with_reducible assumption))
         obtain ⟨ad229, e229, hx229_0, hx229_1, hx229_2⟩ := at_T73 HR0_0.out (rd t224 x5_1) p229 q229
         have hw229_2 := hx229_2
         have hw229_1 := hx229_1
         have hw229_0 := hx229_0
         cases e229
         replace hx229_0 := (HB.out.cell (World.block_lt_of_cell? w _ hx229_0)).trans hx229_0
         replace hx229_1 := (HB.out.cell (World.block_lt_of_cell? w _ hx229_1)).trans hx229_1
         replace hx229_2 := (HB.out.cell (World.block_lt_of_cell? w _ hx229_2)).trans hx229_2
         replace p229 := eq_true p229
         replace q229 := eq_true q229
         refine start_ (n := 12) (S := fun w' => w'.cell? ⟨gb219, 0, none⟩ = some (.slice (some ad229) l0_0.length c0_0) ∧ w'.cell? (ad228.add (x5_1).toNat) = some (.int .i64 (rd t224 x5_1)) ∧ w'.cell? (ad229.add (((rd t224 x5_1)).toNat * 3)) = some (.int .i64 ((rd_T73 l0_0 (rd t224 x5_1)).f0)) ∧ w'.cell? ⟨(ad229.add (((rd t224 x5_1)).toNat * 3)).block, (ad229.add (((rd t224 x5_1)).toNat * 3)).off + 1, none⟩ = some (.int .i64 ((rd_T73 l0_0 (rd t224 x5_1)).f1)) ∧ w'.cell? ⟨(ad229.add (((rd t224 x5_1)).toNat * 3)).block, (ad229.add (((rd t224 x5_1)).toNat * 3)).off + 2, none⟩ = some (.bool ((rd_T73 l0_0 (rd t224 x5_1)).f2))) (ds := []) #[fy, fy, fy, fy, fy, fy, fy, fy, fy, fy, fy, fy] (by kernel_rfl) rfl rfl ⟨(blk_cell BK219.out 0).trans rfl, hx228_0, ((HB.out.cell (World.block_lt_of_cell? w _ hw229_0)).trans hw229_0), ((HB.out.cell (World.block_lt_of_cell? w _ hw229_1)).trans hw229_1), ((HB.out.cell (World.block_lt_of_cell? w _ hw229_2)).trans hw229_2)⟩ (fun hHeld => ?_); refine with_tabW spec_l4Press.tab5 spec_l4Press.bits5 (fun HT_ HW_ => ?_)
         generalize wr.drew = w74 at HO_4 HO_228000 BK219 BK220 BK227 HB hx228_0 hx229_0 hx229_1 hx229_2 hHeld ⊢
         refine pure_ (i := 0) (N := some 19) (v := ?_) (a' := ?_) #[ty, fy, fy, fy, fy, fy, fy, fy, fy, fy, fy, fy] rfl rfl (any_of HT_.out (by kernel_rfl)) (fun _ _ _ h => h) (Or.inl ⟨by rfl, ?_⟩) ?_ ?_; rotate_left; (intro w'; go_simp; with_reducible rfl); rotate_left; (simp only [Act.put, sA_, sB_, sC_, i64_w, i32_w]; rfl)
         refine pure_ (i := 2) (N := some 21) (v := ?_) (a' := ?_) #[ty, fy, ty, fy, fy, fy, fy, fy, fy, fy, fy, fy] rfl rfl (any_of HT_.out (by kernel_rfl)) (fun _ _ _ h => h) (Or.inl ⟨by rfl, ?_⟩) ?_ ?_; rotate_left; (intro w'; go_simp; with_reducible rfl); rotate_left; (simp only [Act.put, sA_, sB_, sC_, i64_w, i32_w]; rfl)
         refine pure_ (i := 3) (N := some 22) (v := ?_) (a' := ?_) #[ty, fy, ty, ty, fy, fy, fy, fy, fy, fy, fy, fy] rfl rfl (any_of HT_.out (by kernel_rfl)) (fun _ _ _ h => h) (Or.inl ⟨by rfl, ?_⟩) ?_ ?_; rotate_left; (intro w'; go_simp; with_reducible rfl); rotate_left; (simp only [Act.put, sA_, sB_, sC_, i64_w, i32_w]; rfl)
         refine pure_ (i := 4) (N := some 23) (v := ?_) (a' := ?_) #[ty, fy, ty, ty, ty, fy, fy, fy, fy, fy, fy, fy] rfl rfl (any_of HT_.out (by kernel_rfl)) (fun _ _ _ h => h) (Or.inl ⟨by rfl, ?_⟩) ?_ ?_; rotate_left; (intro w'; go_simp; with_reducible rfl); rotate_left; (simp only [Act.put, sA_, sB_, sC_, i64_w, i32_w]; rfl)
         refine take_ (i := 1) (N := some 20) (v := ?_) (a' := ?_) #[ty, ty, ty, ty, ty, fy, fy, fy, fy, fy, fy, fy] rfl rfl (take_ofW HT_.out HW_.out (by kernel_rfl)) (fun _ _ _ h => h) (Or.inl ⟨by rfl, ?_⟩) hHeld ?_ ?_; rotate_left; (rintro w' ⟨s0, s1, s2, s3, s4⟩; go_simp; with_reducible rfl); rotate_left; (simp only [Act.put, sA_, sB_, sC_, i64_w, i32_w]; rfl)
         refine take_ (i := 5) (N := some 24) (v := ?_) (a' := ?_) #[ty, ty, ty, ty, ty, ty, fy, fy, fy, fy, fy, fy] rfl rfl (take_ofW HT_.out HW_.out (by kernel_rfl)) (fun _ _ _ h => h) (Or.inl ⟨by rfl, ?_⟩) hHeld ?_ ?_; rotate_left; (rintro w' ⟨s0, s1, s2, s3, s4⟩; go_simp; with_reducible rfl); rotate_left; (simp only [Act.put, sA_, sB_, sC_, i64_w, i32_w]; rfl)
         refine pure_ (i := 6) (N := some 25) (v := ?_) (a' := ?_) #[ty, ty, ty, ty, ty, ty, ty, fy, fy, fy, fy, fy] rfl rfl (any_of HT_.out (by kernel_rfl)) (fun _ _ _ h => h) (Or.inl ⟨by rfl, ?_⟩) ?_ ?_; rotate_left; (intro w'; go_simp; with_reducible rfl); rotate_left; (simp only [Act.put, sA_, sB_, sC_, i64_w, i32_w]; rfl)
         refine pure_ (i := 7) (N := some 26) (v := ?_) (a' := ?_) #[ty, ty, ty, ty, ty, ty, ty, ty, fy, fy, fy, fy] rfl rfl (any_of HT_.out (by kernel_rfl)) (fun _ _ _ h => h) (Or.inl ⟨by rfl, ?_⟩) ?_ ?_; rotate_left; (intro w'; go_simp; with_reducible rfl); rotate_left; (simp only [Act.put, sA_, sB_, sC_, i64_w, i32_w]; rfl)
         refine take_ (i := 8) (N := some 27) (v := ?_) (a' := ?_) #[ty, ty, ty, ty, ty, ty, ty, ty, ty, fy, fy, fy] rfl rfl (take_ofW HT_.out HW_.out (by kernel_rfl)) (fun _ _ _ h => h) (Or.inl ⟨by rfl, ?_⟩) hHeld ?_ ?_; rotate_left; (rintro w' ⟨s0, s1, s2, s3, s4⟩; go_simp; with_reducible rfl); rotate_left; (simp only [Act.put, sA_, sB_, sC_, i64_w, i32_w]; rfl)
         refine pure_ (i := 9) (N := some 28) (v := ?_) (a' := ?_) #[ty, ty, ty, ty, ty, ty, ty, ty, ty, ty, fy, fy] rfl rfl (any_of HT_.out (by kernel_rfl)) (fun _ _ _ h => h) (Or.inl ⟨by rfl, ?_⟩) ?_ ?_; rotate_left; (intro w'; go_simp; with_reducible rfl); rotate_left; (simp only [Act.put, sA_, sB_, sC_, i64_w, i32_w]; rfl)
         refine one_ (i := 10) (N := some 6) #[ty, ty, ty, ty, ty, ty, ty, ty, ty, ty, ty, fy] rfl rfl (one_of HT_.out (by kernel_rfl)) (by decide) (fun K hK => ?_)
         refine box_step ?hg (N := 6) ?hd (cs := #[.string (⟨#[]⟩ : ByteArray), .int .i64 0, .bool false]) (t := 56) ?hr ?_; (case hd => rfl); (case hg => rfl); (case hr => (go_simp; done))
         intro gb230 hg w75 hbox hb
         have HS1_ := (hb.cell (World.block_lt_of_cell? _ _ (hHeld.2.1))).trans (hHeld.2.1)
         have n0_ := aM_ (Kd.R_below HO_4.out hb)
         have n1_ := aM_ (Kd.R_below (Kd.R_elderB HO_228000.out gb230 (Nat.le_of_eq hg.symm)) hb)
         have n2_ := aM_ (blk_below BK219.out hb)
         have n3_ := aM_ (blk_below BK220.out hb)
         have n4_ := aM_ (blk_below BK227.out hb)
         have n5_ := aM_ (below_step HB.out hb)
         have n6_ := aM_ (hbox)
         have n7_ := aM_ ((by rw [hg]; exact (below_size HB.out) : w.heap.size ≤ gb230))
         have n8_ := aM_ ((by rw [hg]; exact (below_size HB.out) : w.heap.size ≤ gb230))
         have n9_ := aM_ ((by rw [hg]; exact Nat.ne_of_lt (blk_lt BK219.out) : gb219 ≠ gb230))
         have n10_ := aM_ ((by rw [hg]; exact Nat.ne_of_gt (blk_lt BK219.out) : gb230 ≠ gb219))
         have n11_ := aM_ ((by rw [hg]; exact Nat.ne_of_lt (blk_lt BK220.out) : gb220 ≠ gb230))
         have n12_ := aM_ ((by rw [hg]; exact Nat.ne_of_gt (blk_lt BK220.out) : gb230 ≠ gb220))
         have n13_ := aM_ ((by rw [hg]; exact Nat.ne_of_lt (blk_lt BK227.out) : gb227 ≠ gb230))
         have n14_ := aM_ ((by rw [hg]; exact Nat.ne_of_gt (blk_lt BK227.out) : gb230 ≠ gb227))
         clear HO_4
         clear HO_228000
         clear BK219
         clear BK220
         clear BK227
         clear HB
         have HO_4 := n0_
         have HO_228000 := n1_
         have BK219 := n2_
         have BK220 := n3_
         have BK227 := n4_
         have HB := n5_
         have BK230 := n6_
         have GW230 := n7_
         have GE230 := n8_
         have NB219_230 := n9_
         have NB230_219 := n10_
         have NB220_230 := n11_
         have NB230_220 := n12_
         have NB227_230 := n13_
         have NB230_227 := n14_
         clear n0_ n1_ n2_ n3_ n4_ n5_ n6_ n7_ n8_ n9_ n10_ n11_ n12_ n13_ n14_
         clear hb hbox hg
         refine hK.out _ _ ⟨(blk_cell BK219.out 0).trans rfl, HS1_, ((HB.out.cell (World.block_lt_of_cell? w _ hw229_0)).trans hw229_0), ((HB.out.cell (World.block_lt_of_cell? w _ hw229_1)).trans hw229_1), ((HB.out.cell (World.block_lt_of_cell? w _ hw229_2)).trans hw229_2)⟩ (fun hHeld => ?_)
         clear hK K
         refine norm_ (a' := ?_) ?_ ?_; rotate_left; (show Act.put _ (some 6) _ = _; simp only [Act.put, sA_, sB_, sC_, i64_w, i32_w]; rfl)
         refine one_ (i := 11) (N := none) #[ty, ty, ty, ty, ty, ty, ty, ty, ty, ty, ty, ty] rfl rfl (one_of HT_.out (by kernel_rfl)) (by decide) (fun K hK => ?_)
         have hs76 : w75.cell? ⟨gb230, 0, none⟩ = some (.string (⟨#[]⟩ : ByteArray)) := (blk_cell BK230.out 0).trans rfl
         have hfs76 := blk_frozen BK230.out 0
         have hns76_0 := NB219_230.out
         have hns76_1 := NB220_230.out
         have hns76_2 := NB227_230.out
         have hms76_0 := NB230_219.out
         have hms76_1 := NB230_220.out
         have hms76_2 := NB230_227.out
         have hs77 : w75.cell? ⟨gb230, 1, none⟩ = some (.int .i64 0) := (blk_cell BK230.out 1).trans rfl
         have hfs77 := blk_frozen BK230.out 1
         have hns77_0 := NB219_230.out
         have hns77_1 := NB220_230.out
         have hns77_2 := NB227_230.out
         have hms77_0 := NB230_219.out
         have hms77_1 := NB230_220.out
         have hms77_2 := NB230_227.out
         have hs78 : w75.cell? ⟨gb230, 2, none⟩ = some (.bool false) := (blk_cell BK230.out 2).trans rfl
         have hfs78 := blk_frozen BK230.out 2
         have hns78_0 := NB219_230.out
         have hns78_1 := NB220_230.out
         have hns78_2 := NB227_230.out
         have hms78_0 := NB230_219.out
         have hms78_1 := NB230_220.out
         have hms78_2 := NB230_227.out
         refine skip_ (w1 := ?_) (by rfl) rfl ?_ ?_
         rotate_left
         ·
          go_simp
          rfl
         refine hK.out _ _ ⟨((cell_far (p := ⟨gb230, _, none⟩) NB219_230.out _).trans (((cell_far (p := ⟨gb230, _, none⟩) NB219_230.out _).trans (((cell_far (p := ⟨gb230, _, none⟩) NB219_230.out _).trans (hHeld.1)))))), ((cell_far (p := ⟨gb230, _, none⟩) (by (rw [add_block]; exact Kd.own_blk (Kd.R_ne HO_4.out BK230.out (by decide)))) _).trans (((cell_far (p := ⟨gb230, _, none⟩) (by (rw [add_block]; exact Kd.own_blk (Kd.R_ne HO_4.out BK230.out (by decide)))) _).trans (((cell_far (p := ⟨gb230, _, none⟩) (by (rw [add_block]; exact Kd.own_blk (Kd.R_ne HO_4.out BK230.out (by decide)))) _).trans (hHeld.2.1)))))), ((cell_far (p := ⟨gb230, _, none⟩) (by exact Nat.ne_of_lt (Nat.lt_of_lt_of_le (by have := World.block_lt_of_cell? _ _ hw229_0; exact this) GW230.out)) _).trans (((cell_far (p := ⟨gb230, _, none⟩) (by exact Nat.ne_of_lt (Nat.lt_of_lt_of_le (by have := World.block_lt_of_cell? _ _ hw229_0; exact this) GW230.out)) _).trans (((cell_far (p := ⟨gb230, _, none⟩) (by exact Nat.ne_of_lt (Nat.lt_of_lt_of_le (by have := World.block_lt_of_cell? _ _ hw229_0; exact this) GW230.out)) _).trans (hHeld.2.2.1)))))), ((cell_far (p := ⟨gb230, _, none⟩) (by exact Nat.ne_of_lt (Nat.lt_of_lt_of_le (by have := World.block_lt_of_cell? _ _ hw229_1; exact this) GW230.out)) _).trans (((cell_far (p := ⟨gb230, _, none⟩) (by exact Nat.ne_of_lt (Nat.lt_of_lt_of_le (by have := World.block_lt_of_cell? _ _ hw229_1; exact this) GW230.out)) _).trans (((cell_far (p := ⟨gb230, _, none⟩) (by exact Nat.ne_of_lt (Nat.lt_of_lt_of_le (by have := World.block_lt_of_cell? _ _ hw229_1; exact this) GW230.out)) _).trans (hHeld.2.2.2.1)))))), ((cell_far (p := ⟨gb230, _, none⟩) (by exact Nat.ne_of_lt (Nat.lt_of_lt_of_le (by have := World.block_lt_of_cell? _ _ hw229_2; exact this) GW230.out)) _).trans (((cell_far (p := ⟨gb230, _, none⟩) (by exact Nat.ne_of_lt (Nat.lt_of_lt_of_le (by have := World.block_lt_of_cell? _ _ hw229_2; exact this) GW230.out)) _).trans (((cell_far (p := ⟨gb230, _, none⟩) (by exact Nat.ne_of_lt (Nat.lt_of_lt_of_le (by have := World.block_lt_of_cell? _ _ hw229_2; exact this) GW230.out)) _).trans (hHeld.2.2.2.2))))))⟩ (fun hHeld => ?_)
         clear hK K
         refine done_ (done_of HT_.out (by kernel_rfl)) ?_
         have hnb79 := NB227_219.out
         have hnc79 := NB219_227.out
         have hnb80 := NB227_220.out
         have hnc80 := NB220_227.out
         have hnb81 := NB227_230.out
         have hnc81 := NB230_227.out
         have hcz82_0 : w75.cell? ⟨gb227, 0, none⟩ = some (u228000) := (blk_cell BK227.out 0).trans rfl
         have hfz82_0 := blk_frozen BK227.out 0
         have hnb83 := NB230_219.out
         have hnc83 := NB219_230.out
         have hnb84 := NB230_220.out
         have hnc84 := NB220_230.out
         have hcz85_0 : w75.cell? ⟨gb230, 0, none⟩ = some (.string (⟨#[]⟩ : ByteArray)) := (blk_cell BK230.out 0).trans rfl
         have hcz85_1 : w75.cell? ⟨gb230, 1, none⟩ = some (.int .i64 0) := (blk_cell BK230.out 1).trans rfl
         have hcz85_2 : w75.cell? ⟨gb230, 2, none⟩ = some (.bool false) := (blk_cell BK230.out 2).trans rfl
         have hfz85_0 := blk_frozen BK230.out 0
         have hfz85_1 := blk_frozen BK230.out 1
         have hfz85_2 := blk_frozen BK230.out 2
         try go_wp2_with (first | ((with_reducible refine gate_builtin (b := .append) (xs := #[.tmp 76, .tmp 78]) rfl ?_); at_builtin; refine Kd.R_append k56 (w0 := w) w.heap.size rfl (.tmp 76) (.tmp 78) 27 56 (.agg #[(.string ⟨#[]⟩), (.int .i64 0), (.bool false)]) 32 rfl Tryd.underlying27 info56 rfl (by decide) (by omega) u228000 x228000_1 (⟨(⟨#[]⟩ : ByteArray), (-1), (rd_T73 l0_0 (rd t224 x5_1)).f2⟩ : S56) [.string (⟨#[]⟩ : ByteArray), .int .i64 (-1), .bool ((rd_T73 l0_0 (rd t224 x5_1)).f2)] (fun k_ => k_ ≠ gb230) (fun _ => False) rfl (by (go_simp; done)) ?aP (fun _ hk => hk.elim) ?aF ?aO ?aB ?aS ?aL ?_; (case aP => exact k56_mkM _ _ _ (⟨(⟨#[]⟩ : ByteArray), (-1), (rd_T73 l0_0 (rd t224 x5_1)).f2⟩ : S56)); (case aB => exact (by repeat (first | (with_reducible first | exact HB.out | apply below_alloc | apply pw_below_drewN | apply below_drew1 | refine below_set ?_ GE219.out | refine below_set ?_ GE220.out | refine below_set ?_ GE227.out | refine below_set ?_ GE230.out) | exact HB.out))); (case aF => exact (fun k_ hk => Kd.freshB (g := gb230) (o := .cells #[.string (⟨#[]⟩ : ByteArray), .int .i64 (-1), .bool ((rd_T73 l0_0 (rd t224 x5_1)).f2)] 56 (0, 0)) (by refine blk_put (cs := #[.string (⟨#[]⟩ : ByteArray), .int .i64 (-1), .bool false]) ?_ 2 _ rfl; refine blk_put (cs := #[.string (⟨#[]⟩ : ByteArray), .int .i64 0, .bool false]) ?_ 1 _ rfl; refine blk_put (cs := #[.string (⟨#[]⟩ : ByteArray), .int .i64 0, .bool false]) ?_ 0 _ rfl; exact BK230.out) k_ hk)); (case aO => exact (by exact Kd.R_mono (Kd.R_far (p := ⟨gb230, 2, none⟩) (Kd.R_far (p := ⟨gb230, 1, none⟩) (Kd.R_far (p := ⟨gb230, 0, none⟩) (Kd.R_mono HO_228000.out (fun k_ hk => (⟨hk, hk.2⟩ : _ ∧ k_ ≠ gb230))) (fun _ hk => hk.2) (.string (⟨#[]⟩ : ByteArray))) (fun _ hk => hk.2) (.int .i64 (-1))) (fun _ hk => hk.2) (.bool ((rd_T73 l0_0 (rd t224 x5_1)).f2))) (fun _ hk => hk.1.2))); (case aS => exact (below_size (by repeat (first | (with_reducible first | exact HB.out | apply below_alloc | apply pw_below_drewN | apply below_drew1 | refine below_set ?_ GE219.out | refine below_set ?_ GE220.out | refine below_set ?_ GE227.out | refine below_set ?_ GE230.out) | exact HB.out)))); (case aL => have := LMc72.out; omega); intro v243 w86 ho hb hg hat; rw [← Ny242.out] at ho; have n0_ := aM_ (Kd.R_over' (by exact (Kd.R_mono (Kd.R_far (p := ⟨gb230, 2, none⟩) (Kd.R_far (p := ⟨gb230, 1, none⟩) (Kd.R_far (p := ⟨gb230, 0, none⟩) (Kd.R_types HO_4.out BK230.out (by decide)) (fun _ hk => hk.2) (.string (⟨#[]⟩ : ByteArray))) (fun _ hk => hk.2) (.int .i64 (-1))) (fun _ hk => hk.2) (.bool ((rd_T73 l0_0 (rd t224 x5_1)).f2))) (fun _ h_ => h_.1))) (Kd.R_typed (by exact (Kd.R_mono (Kd.R_far (p := ⟨gb230, 2, none⟩) (Kd.R_far (p := ⟨gb230, 1, none⟩) (Kd.R_far (p := ⟨gb230, 0, none⟩) (Kd.R_mono HO_228000.out (fun k_ hk => (⟨hk, hk.2⟩ : _ ∧ k_ ≠ gb230))) (fun _ hk => hk.2) (.string (⟨#[]⟩ : ByteArray))) (fun _ hk => hk.2) (.int .i64 (-1))) (fun _ hk => hk.2) (.bool ((rd_T73 l0_0 (rd t224 x5_1)).f2))) (fun _ h_ => h_.1)))) (by decide) hg); have n1_ := aM_ (blk_grown (g := gb219) (o := .cells #[.slice (some ad229) l0_0.length c0_0] 44 (0, 0)) (by refine blk_far ?_ NB219_230.out _; refine blk_far ?_ NB219_230.out _; refine blk_far ?_ NB219_230.out _; exact BK219.out) hg (Kd.R_ne HO_228000.out BK219.out (by decide))); have n2_ := aM_ (blk_grown (g := gb220) (o := .cells #[.slice none 0 0] 29 (0, 0)) (by refine blk_far ?_ NB220_230.out _; refine blk_far ?_ NB220_230.out _; refine blk_far ?_ NB220_230.out _; exact BK220.out) hg (Kd.R_ne HO_228000.out BK220.out (by decide))); have n3_ := aM_ (blk_grown (g := gb227) (o := .cells #[u228000] 29 (0, 0)) (by refine blk_far ?_ NB227_230.out _; refine blk_far ?_ NB227_230.out _; refine blk_far ?_ NB227_230.out _; exact BK227.out) hg (Kd.R_ne HO_228000.out BK227.out (by decide))); have n4_ := aM_ (blk_grown (g := gb230) (o := .cells #[.string (⟨#[]⟩ : ByteArray), .int .i64 (-1), .bool ((rd_T73 l0_0 (rd t224 x5_1)).f2)] 56 (0, 0)) (by refine blk_put (cs := #[.string (⟨#[]⟩ : ByteArray), .int .i64 (-1), .bool false]) ?_ 2 _ rfl; refine blk_put (cs := #[.string (⟨#[]⟩ : ByteArray), .int .i64 0, .bool false]) ?_ 1 _ rfl; refine blk_put (cs := #[.string (⟨#[]⟩ : ByteArray), .int .i64 0, .bool false]) ?_ 0 _ rfl; exact BK230.out) hg (Kd.R_away HO_228000.out (fun _ hk => hk.2))); have n5_ := aM_ (hb); have n6_ := aM_ (ho); clear HO_4; clear BK219; clear BK220; clear BK227; clear BK230; clear HB; clear HO_228000; have HO_4 := n0_; have BK219 := n1_; have BK220 := n2_; have BK227 := n3_; have BK230 := n4_; have HB := n5_; have HO244 := n6_; clear n0_ n1_ n2_ n3_ n4_ n5_ n6_; clear ho hb hg hat; obtain ⟨Ao87, co87, eo87⟩ := Kd.R_slice HO244.out; subst eo87; have hcz88_0 : w86.cell? ⟨gb227, 0, none⟩ = some (u228000) := (blk_cell BK227.out 0).trans rfl; have hfz88_0 := blk_frozen BK227.out 0))
         go_roundg k1
         case measure => have := HK1.out; omega
         case rel => exact ⟨(wrap64 (x5_1 + 1)), (y242), (.slice Ao87 y242.length co87), (by rfl), H', ⟨by have := HK1.out; omega⟩, ⟨by exact Kd.R_mono (Kd.R_far (p := ⟨gb227, 0, none⟩) (Kd.R_types HO_4.out BK227.out (by decide)) (fun _ hk => hk.2) (.slice Ao87 y242.length co87)) (fun _ hk => trivial)⟩, ⟨by exact Kd.R_mono (Kd.R_far (p := ⟨gb227, 0, none⟩) (Kd.R_types HO244.out BK227.out (by decide)) (fun _ hk => hk.2) (.slice Ao87 y242.length co87)) (fun _ hk => trivial)⟩, ⟨by refine blk_far ?_ NB219_227.out _; exact BK219.out⟩, ⟨by refine blk_far ?_ NB220_227.out _; exact BK220.out⟩, ⟨by refine blk_put (cs := #[u228000]) ?_ 0 _ rfl; exact BK227.out⟩, ⟨by repeat (first | (with_reducible first | exact HB.out | apply below_alloc | apply pw_below_drewN | apply below_drew1 | refine below_set ?_ GE219.out | refine below_set ?_ GE220.out | refine below_set ?_ GE227.out | refine below_set ?_ GE230.out) | exact HB.out)⟩⟩
        ·
         rw [if_neg c72] at H
         exact absurd H (by simp)
      ·
       rw [if_neg c18] at H
       exact absurd H (by simp)
     ·
      rw [if_neg c17] at H
      exact absurd H (by simp)
    ·
     rw [if_neg c16] at H
     exact absurd H (by simp)
   ·
    rw [if_neg c15] at H
    have c15b0 := decide_eq_false c15
    clear c15
    obtain rfl := Option.some.inj H
    obtain ⟨Ao89, co89, eo89⟩ := Kd.R_slice HO_4.out
    subst eo89
    have hnb90 := NB227_219.out
    have hnc90 := NB219_227.out
    have hnb91 := NB227_220.out
    have hnc91 := NB220_227.out
    have hcz92_0 : wr.cell? ⟨gb227, 0, none⟩ = some (u228000) := (blk_cell BK227.out 0).trans rfl
    have hfz92_0 := blk_frozen BK227.out 0
    obtain ⟨Ao93, co93, eo93⟩ := Kd.R_slice HO_228000.out
    subst eo93
    have hnb94 := NB220_219.out
    have hnc94 := NB219_220.out
    have hcz95_0 : wr.cell? ⟨gb220, 0, none⟩ = some (.slice none 0 0) := (blk_cell BK220.out 0).trans rfl
    have hfz95_0 := blk_frozen BK220.out 0
    go_wp2
    refine bodyPost_ret (results_cell_row rfl _ _ gb220 29 #[.slice Ao93 x228000_1.length co93] (0, 0) _ rfl (by refine blk_put (cs := #[.slice none 0 0]) ?_ 0 _ rfl; exact BK220.out) Tryd.underlying29 rfl (by kernel_rfl)) rfl ?_
    exact ⟨_, by rfl, by exact Kd.R_mono (Kd.R_far (p := ⟨gb220, 0, none⟩) (Kd.R_types HO_228000.out BK220.out (by decide)) (fun _ hk => hk.2) (.slice Ao93 x228000_1.length co93)) (fun _ hk => trivial), by repeat (first | (with_reducible first | exact HB.out | apply below_alloc | apply pw_below_drewN | apply below_drew1 | refine below_set ?_ GE219.out | refine below_set ?_ GE220.out | refine below_set ?_ GE227.out) | exact HB.out)⟩
end Go.Proofs.YtfhffcefpnkllaaDoor.P
namespace Go.Proofs.YtfhffcefpnkllaaDoor.P
open Go.RowKit Go.Proofs.YtfhffcefpnkllaaDoorW.PrintWords Go.Proofs.YtfhffcefpnkllaaDoorW.PrintLast Go.Proofs.YtfhffcefpnkllaaDoorW.PrintMore
attribute [local go_sem] max2_int min2_int max_two min_two max_three min_three max_four min_four
namespace OA
open Go.ChangeShapes Go.WideShapes Go.Deep Go.ChangeAt Go.Joins
section
variable {H : Type} {enc : TypeId × Value → H} {P : Program} {w : World} {base : Nat} {spare : Nat → Bool} {held : Bool}
theorem fields {t e : TypeId} {fs : Array Field} {fuel : Nat} {cs : List Value} {x : DataW H × List MemPlace} (ht : P.underlying t = some (.slice e)) (he : P.underlying e = some (.struct fs))
  (hone : oneCellFields P fs = true) (hC : P.cellsOf e = fs.size) (h : DataW.trod enc P w base spare held fuel t cs = some x) :
  (cs = [.slice none 0 0]) ∨
  ∃ (a : Addr) (len cap : Nat), cs = [.slice (some a) len cap] ∧ len ≤ cap ∧ cap ≤ maxLen ∧
   ∀ i, i < len → ∃ n : Nat, ∀ (j : Nat) (f : Field), fs[j]? = some f → ∃ (v : Value) (y : DataW H × List MemPlace), w.cell? (a.add (i * fs.size + j)) = some v ∧ DataW.trod enc P w base spare held n f.type [v] = some y := by
 rcases open_slice ht h with h0 | ⟨a, len, cap, m, n, D, Pl, hcs, hb, hl, hm, hmm, hx, hi⟩
 ·
  exact .inl h0.1
 ·
  refine .inr ⟨a, len, cap, hcs, hl, hm, fun i hil => ?_⟩
  have him : i < m := by rw [hmm]; split <;> omega
  obtain ⟨cs', hc, ht'⟩ := hi i him
  rw [hC] at hc
  obtain ⟨ys, n', hn', hy, hlen, hyl, hf⟩ := DataW.trod_struct he ht'
  obtain ⟨_, hcl, hat⟩ := World.cells?_some hc
  refine ⟨n', fun j f hj => ?_⟩
  obtain ⟨ho, hk⟩ := hone_of hone j f hj
  have hjl : j < fs.size := (Array.getElem?_eq_some_iff.1 hj).1
  have hcell := hat j hjl
  have hv : cs'[j]? = some (cs'[j]'(by omega)) := List.getElem?_eq_getElem (by omega)
  have h1 := hf j f hj
  rw [ho, hk] at h1
  have hone' : (cs'.drop j).take 1 = [cs'[j]'(by omega)] := by
   rw [List.drop_eq_getElem_cons (by omega)]
   rfl
  rw [hone'] at h1
  have hys : ys[j]? = some (ys[j]'(by omega)) := List.getElem?_eq_getElem (by omega)
  refine ⟨_, _, ?_, h1.trans hys⟩
  rw [← Go.Deep.add_add, hcell, hv]
theorem array1 {α : Type} {cs : Array α} (h : cs.size = 1) : ∃ c0, cs = #[c0] := by
 obtain ⟨l⟩ := cs
 match l, h with
 | [c0], _ => exact ⟨c0, rfl⟩
theorem agg1 {r : Reach} {b0 : Nat} {t : TypeId} {f0 : Field} {v : Value} {d : DataW H} {p : List MemPlace} (hs : P.underlying t = some (.struct #[f0])) (hone : oneCellFields P #[f0] = true) (hC : P.cellsOf t = 1)
  (hv : Value.okWide P w r b0 t v) (h : DataW.Trod enc P w base spare held t v d p) :
  ∃ (v0 : Value) (y0 : DataW H × List MemPlace) (n : Nat), v = .agg #[v0] ∧ DataW.trod enc P w base spare held n f0.type [v0] = some y0 := by
 obtain ⟨cs, rfl, hsz⟩ := okWide_struct hs hv
 obtain ⟨c0, rfl⟩ := array1 (hsz.trans hC)
 obtain ⟨fuel, hf⟩ := h
 obtain ⟨xs, n, _, hx, _, hlen, hg⟩ := DataW.trod_struct hs hf
 obtain ⟨o0, k0⟩ := hone_of hone 0 f0 rfl
 have h0 := hg 0 f0 rfl
 have hl : 0 < xs.length := by rw [hlen]; exact Nat.zero_lt_one
 rw [List.getElem?_eq_getElem hl] at h0
 exact ⟨c0, _, n, rfl, by simpa [Value.cells, o0, k0] using h0⟩
end
end OA
end Go.Proofs.YtfhffcefpnkllaaDoor.P
namespace Go.Proofs.YtfhffcefpnkllaaDoor.P
open Go.RowKit Go.Proofs.YtfhffcefpnkllaaDoorW.PrintWords Go.Proofs.YtfhffcefpnkllaaDoorW.PrintLast Go.Proofs.YtfhffcefpnkllaaDoorW.PrintMore
attribute [local go_sem] max2_int min2_int max_two min_two max_three min_three max_four min_four
namespace OPr
open Go.ChangeShapes Go.WideShapes Go.Deep Go.ChangeAt Go.Joins OA
theorem pressed {H : Type} {enc : TypeId × Value → H} {w : World} {base : Nat} {spare : Nat → Bool} {held : Bool} {r : Reach} {b0 : Nat} {v : Value} {d : DataW H} {p : List MemPlace}
  (hv : Value.okWide Tryd.prog w r b0 24 v) (h : DataW.Trod enc Tryd.prog w base spare held 24 v d p) :
  ∃ (A : Option Addr) (cap : Nat) (l : List S61), v = .agg #[.slice A l.length cap] ∧ l.length ≤ cap ∧ Kd.C k61 w A l.length l ∧ (∀ x ∈ l, x.f0.size ≤ 9223372036854775807) := by
 obtain ⟨v0, y0, n, rfl, h0⟩ := agg1 Tryd.underlying24 (by kernel_rfl) (by kernel_rfl) hv h
 rcases fields Tryd.underlying22 Tryd.underlying61 (by kernel_rfl) (by kernel_rfl) h0 with e | ⟨a, len, cap, e, hl, hm, hi⟩
 ·
  obtain rfl : v0 = .slice none 0 0 := by simpa using e
  exact ⟨none, 0, [], rfl, Nat.le_refl _, ⟨rfl, by simp, fun h => absurd h (Nat.lt_irrefl _)⟩, fun x hx => by simp at hx⟩
 ·
  obtain rfl : v0 = .slice (some a) len cap := by simpa using e
  have hex : ∀ i, i < len → ∃ x : S61, w.cell? (a.add (i * 3 + 0)) = some (.string x.f0) ∧ w.cell? (a.add (i * 3 + 1)) = some (.int .i64 x.f1) ∧ w.cell? (a.add (i * 3 + 2)) = some (.bool x.f2) ∧ x.f0.size ≤ maxLen := by
   intro i hil
   obtain ⟨n, hf⟩ := hi i hil
   obtain ⟨u0, y0, c0, t0⟩ := hf 0 _ rfl
   obtain ⟨u1, y1, c1, t1⟩ := hf 1 _ rfl
   obtain ⟨u2, y2, c2, t2⟩ := hf 2 _ rfl
   obtain ⟨n0, e0, _, z0⟩ := DataW.trod_string Tryd.underlying9 t0
   obtain ⟨n1, e1, _, _⟩ := DataW.trod_int Tryd.underlying3 t1
   obtain ⟨b2, e2, _⟩ := DataW.trod_bool Tryd.underlying4 t2
   simp only [List.cons.injEq, and_true] at e0 e1 e2
   subst e0 e1 e2
   exact ⟨⟨n0, n1, b2⟩, c0, c1, c2, z0⟩
  obtain ⟨g, hg⟩ : ∃ g : Nat → S61, ∀ i, i < len → w.cell? (a.add (i * 3 + 0)) = some (.string (g i).f0) ∧ w.cell? (a.add (i * 3 + 1)) = some (.int .i64 (g i).f1) ∧ w.cell? (a.add (i * 3 + 2)) = some (.bool (g i).f2) ∧ (g i).f0.size ≤ maxLen :=
   ⟨fun i => if h : i < len then Classical.choose (hex i h) else z61, fun i h => by simp only [dif_pos h]; exact Classical.choose_spec (hex i h)⟩
  refine ⟨some a, cap, (List.range len).map g, by simp, by simpa using hl, ⟨by simp, ?_, fun _ => ⟨a, rfl, fun j p hj => ?_⟩⟩, fun x hx => ?_⟩
  ·
   have : (maxLen : Nat) ≤ 9223372036854775807 := by decide
   simp; omega
  ·
   obtain ⟨hjl, rfl⟩ := List.getElem?_eq_some_iff.1 hj
   have hjl' : j < len := by simpa using hjl
   obtain ⟨c0, c1, c2, _⟩ := hg j hjl'
   rw [List.getElem_map, List.getElem_range]
   refine ⟨_, rfl, k61_mk w (g j), fun i u hu => ?_⟩
   match i, hu with
   | 0, hu => obtain rfl := Option.some.inj hu; exact c0
   | 1, hu => obtain rfl := Option.some.inj hu; exact c1
   | 2, hu => obtain rfl := Option.some.inj hu; exact c2
  ·
   obtain ⟨i, hi, rfl⟩ := List.mem_map.1 hx
   have := (hg i (by simpa using hi)).2.2.2
   have h2 : (maxLen : Nat) ≤ 9223372036854775807 := by decide
   omega
end OPr
end Go.Proofs.YtfhffcefpnkllaaDoor.P
namespace Go.Proofs.YtfhffcefpnkllaaDoor.M
open Go.RowKit Go.Proofs.YtfhffcefpnkllaaDoorW.PrintWords
theorem wrap64_id {x : Int} (h0 : -9223372036854775808 ≤ x) (h1 : x ≤ 9223372036854775807) : wrap64 x = x := by unfold wrap64; omega
theorem wrap64_succ (n : Nat) (h : n < 4611686018427387904) : wrap64 ((n : Int) + 1) = ((n + 1 : Nat) : Int) := by rw [wrap64_id (by omega) (by omega)]; rfl
theorem rd_nat (xs : List Int) (n : Nat) : rd xs (n : Int) = xs.getD n 0 := by simp [rd]
theorem getD_lt {α : Type} (z : α) {xs : List α} {n : Nat} (h : n < xs.length) : xs.getD n z = xs[n] := by simp [List.getD_eq_getElem?_getD, h]
theorem drop_cons_getD {α : Type} (z : α) {xs : List α} {n : Nat} (h : n < xs.length) : xs.drop n = xs.getD n z :: xs.drop (n + 1) := by
 rw [getD_lt z h]; exact List.drop_eq_getElem_cons h
theorem take_succ_getD {α : Type} (z : α) {xs : List α} {n : Nat} (h : n < xs.length) : xs.take (n + 1) = xs.take n ++ [xs.getD n z] := by
 rw [getD_lt z h, List.take_succ_eq_append_getElem h]
theorem fill_set {α : Type} (z : α) (xs : List α) (n : Nat) (h : n < xs.length) (y : α) : (xs.take n ++ List.replicate (xs.length - n) y).set n (xs.getD n z) = xs.take (n + 1) ++ List.replicate (xs.length - (n + 1)) y := by
 have hl : (xs.take n).length = n := by simp; omega
 rw [List.set_append_right _ _ (by omega), hl, Nat.sub_self, show xs.length - n = (xs.length - (n + 1)) + 1 from by omega, List.replicate_succ, List.set_cons_zero, take_succ_getD z h, List.append_assoc]
 rfl
theorem ite_eqT {α : Type} {c : Prop} [Decidable c] {a b : α} (h : c) : (if c then a else b) = a := if_pos h
theorem ite_eqF {α : Type} {c : Prop} [Decidable c] {a b : α} (h : ¬ c) : (if c then a else b) = b := if_neg h
theorem Ev.bind' {α β : Type} {g : Nat → Option α} {f : Nat → α → Option β} {a : α} {r : β} (h : Ev g a) (k : Ev (fun n => f n a) r) : Ev (fun n => (g n).bind fun t => f n t) r := Ev.bind h k
theorem Ev.pure {α : Type} {r : α} : Ev (fun _ => some r) r := Ev.now r
theorem Ev.some_bind {α β : Type} {a : α} {f : Nat → α → Option β} {r : β} (k : Ev (fun n => f n a) r) : Ev (fun n => (some a).bind fun t => f n t) r := k
theorem Ev.ifT {α : Type} {c : Prop} [Decidable c] {f g : Nat → Option α} {r : α} (h : c) (k : Ev f r) : Ev (fun n => if c then f n else g n) r := by simpa only [if_pos h] using k
theorem Ev.ifF {α : Type} {c : Prop} [Decidable c] {f g : Nat → Option α} {r : α} (h : ¬ c) (k : Ev g r) : Ev (fun n => if c then f n else g n) r := by simpa only [if_neg h] using k
end Go.Proofs.YtfhffcefpnkllaaDoor.M
