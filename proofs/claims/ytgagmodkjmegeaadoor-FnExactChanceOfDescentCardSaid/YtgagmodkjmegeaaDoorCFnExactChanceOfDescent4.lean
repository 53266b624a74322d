/-
  Part 5 of the proof that FnExactChanceOfDescent returns true for every input: the functions that it reaches, each with its contract, and the law.
  Conditions: those of the given statement, no others.
-/
import Derived.Test.YtgagmodkjmegeaaDoorCFnExactChanceOfDescentW0
import Derived.WalkKit
import Derived.ProofKit
import Derived.OpenShut
import Derived.Deep.Slices
import Derived.Deep.Fields
import Derived.ChangeSame
import Derived.Lib.SmallJoins
import Derived.Lib.SlicesCompact
import Derived.Test.YtgagmodkjmegeaaDoorRows
import Derived.ShutString
import Derived.ChangeOld
import Derived.Below
import Derived.SizedLaws
import Derived.Lay
import Derived.LaidOnce
import Derived.SevenTiedAt
import Derived.Test.YtgagmodkjmegeaaDoorCards
import Derived.Test.YtgagmodkjmegeaaDoorTie
import Derived.Test.YtgagmodkjmegeaaDoorCFnExactChanceOfDescent0
import Derived.Test.YtgagmodkjmegeaaDoorCFnExactChanceOfDescent3
import Derived.Test.YtgagmodkjmegeaaDoorCFnExactChanceOfDescent1
import Derived.Test.YtgagmodkjmegeaaDoorCFnExactChanceOfDescent2
set_option linter.unusedVariables false
set_option linter.unusedSimpArgs false
namespace Go.Proofs.YtgagmodkjmegeaaDoor.P
open Go.RowKit Go.Proofs.YtgagmodkjmegeaaDoorW.PrintWords Go.Proofs.YtgagmodkjmegeaaDoorW.PrintLast Go.Proofs.YtgagmodkjmegeaaDoorW.PrintMore
attribute [local go_sem] max2_int min2_int max_two min_two max_three min_three max_four min_four
set_option linter.unusedVariables false
set_option linter.unusedSimpArgs false

/-! ### laws_eqNodeS: function 20 -/
def laws_eqNodeS.l0 : Nat → List (S50) → List (S50) → Int → Option (Bool)
 | 0, _, _, _ => none
 | k + 1, x0, x1, x5 => if x5 < (x0.length : Int) then (if 0 ≤ x5 then (if x5 < (x1.length : Int) then ((laws_eqNode.f ((rd_T50 x0 x5).f0) ((rd_T50 x0 x5).f1) ((rd_T50 x0 x5).f2) ((rd_T50 x1 x5).f0) ((rd_T50 x1 x5).f1) ((rd_T50 x1 x5).f2)).bind fun t420 => (if t420 = true then (laws_eqNodeS.l0 k x0 x1 (wrap64 (x5 + 1))) else (some false))) else (none)) else (none)) else (some true)
def laws_eqNodeS.f (k : Nat) (l0 : List (S50)) (l1 : List (S50)) : Option (Bool) := if (l0.length : Int) = (l1.length : Int) then (laws_eqNodeS.l0 k l0 l1 0) else (some false)
theorem laws_eqNodeS.mono_l : ∀ k, (∀ y0 y1 y2, LeO (laws_eqNodeS.l0 k y0 y1 y2) (laws_eqNodeS.l0 (k + 1) y0 y1 y2))
 | 0 => fun _ _ _ r h => by simp [laws_eqNodeS.l0] at h
 | k + 1 => by
  have ih0 := laws_eqNodeS.mono_l k
  ·
   intro y0 y1 y2
   unfold laws_eqNodeS.l0
   repeat' first
   | (with_reducible exact ih0 _ _ _)
   | (with_reducible exact LeO.refl _)
   | (with_reducible exact LeO.none _)
   | (with_reducible refine LeO.ite ?_ ?_)
   | (with_reducible refine LeO.bind ?_ (fun _ => ?_))
   | exact ih0 _ _ _
   | exact LeO.none _
   | refine LeO.ite ?_ ?_
   | refine LeO.bind ?_ (fun _ => ?_)
theorem laws_eqNodeS.mono : ∀ a0 a1 k, LeO (laws_eqNodeS.f k a0 a1) (laws_eqNodeS.f (k + 1) a0 a1) := by
 intro a0 a1 k
 have ih0 := laws_eqNodeS.mono_l k
 unfold laws_eqNodeS.f
 repeat' first
   | (with_reducible exact ih0 _ _ _)
   | (with_reducible exact LeO.refl _)
   | (with_reducible exact LeO.none _)
   | (with_reducible refine LeO.ite ?_ ?_)
   | (with_reducible refine LeO.bind ?_ (fun _ => ?_))
   | exact ih0 _ _ _
   | exact LeO.none _
   | refine LeO.ite ?_ ?_
   | refine LeO.bind ?_ (fun _ => ?_)
def laws_eqNodeS.T6 : Bool × List (List Nat × List Nat) := (true, [([], []), ([], []), ([0, 1], [0, 1]), ([2], [2]), ([], []), ([], []), ([4, 5], [4, 5]), ([6], [6]), ([3, 7], [3, 7]), ([8], [8])])
def laws_eqNodeS.B6 : List Nat := [0, 0, 3, 7, 0, 0, 48, 112, 255, 511]
theorem laws_eqNodeS.tab6 : rtab .any (opsOf Tryd.f20 6) = laws_eqNodeS.T6 := by kernel_rfl
theorem laws_eqNodeS.bits6 : waitsOk laws_eqNodeS.T6.2 laws_eqNodeS.B6 = true := by kernel_rfl
set_option maxHeartbeats 8000000 in
set_option maxRecDepth 100000 in
theorem laws_eqNodeS.calls (k : Nat) (A0 : Option Addr) (c0 : Nat) (l0 : List (S50)) (A1 : Option Addr) (c1 : Nat) (l1 : List (S50)) (r : Bool) (w : World) (hr0 : Kd.C k50 w A0 l0.length l0) (hc0 : l0.length ≤ c0) (hr1 : Kd.C k50 w A1 l1.length l1) (hc1 : l1.length ≤ c1) (h : laws_eqNodeS.f k l0 l1 = some r) :
  Calls Tryd.prog 20 #[.slice A0 l0.length c0, .slice A1 l1.length c1] w fun e w' => e = .returned (.bool r) ∧ Below w.heap.size w w' := by
 have hu50 := Tryd.underlying50
 have HR0 := Aside0.mk hr0
 have HC0 := Aside0.mk hc0
 clear hr0 hc0
 have HR1 := Aside0.mk hr1
 have HC1 := Aside0.mk hc1
 clear hr1 hc1
 have HB := Aside0.mk (Below.refl w.heap.size w)
 have H : (if (l0.length : Int) = (l1.length : Int) then (laws_eqNodeS.l0 k l0 l1 0) else (some false)) = some r := h
 clear h
 by_cases c3 : (l0.length : Int) = (l1.length : Int)
 ·
  rw [if_pos c3] at H
  have c3b0 : ((l0.length : Int) == (l1.length : Int)) = true := beq_iff_eq.mpr c3
  have c3b1 : ((l0.length : Int) != (l1.length : Int)) = false := bne_eq_false_iff_eq.mpr c3
  have c3b2 : (l0.length == l1.length) = true := by first | simpa using c3 | (simp at c3 ⊢; omega)
  clear c3
  have H' := Aside0.mk H
  clear H
  go_enter Tryd.func20, Tryd.ntmps20
  go_wp2
  go_loopg [5] k (fun kq v5 w' => ∃ (x5_1 : Int), v5 = .int .i64 x5_1 ∧ Aside0 (laws_eqNodeS.l0 kq l0 l1 x5_1 = some r) ∧ Aside0 (kq ≤ k) ∧ Aside0 (Below w.heap.size w w'))
  case atStart => exact ⟨(0), (by first | rfl | (simp; done) | (simp [*]; done)), H', ⟨Nat.le_refl _⟩, ⟨by repeat (first | (with_reducible first | exact HB.out | apply below_alloc | apply pw_below_drewN | apply below_drew1) | exact HB.out)⟩⟩
  case round =>
   clear H'
   try clear c1
   try clear c2
   try clear p2
   try clear c3
   try clear c3b0
   try clear c3b1
   try clear c3b2
   obtain ⟨x5_1, rfl, HA, HK1, HB⟩ := hrel
   cases gk with
   | zero => exact absurd HA.out (by simp [laws_eqNodeS.l0])
   | succ k1 =>
    have H := HA.out
    clear HA
    simp only [laws_eqNodeS.l0] at H
    by_cases c4 : x5_1 < (l0.length : Int)
    ·
     rw [if_pos c4] at H
     have c4b0 : decide (x5_1 < (l0.length : Int)) = true := decide_eq_true c4
     clear c4
     by_cases c5 : 0 ≤ x5_1
     ·
      rw [if_pos c5] at H
      have c5b0 : decide (0 ≤ x5_1) = true := decide_eq_true c5
      clear c5
      by_cases c6 : x5_1 < (l1.length : Int)
      ·
       rw [if_pos c6] at H
       have c6b0 : decide (x5_1 < (l1.length : Int)) = true := decide_eq_true c6
       clear c6
       replace H := Option.bind_eq_some_iff.mp H
       obtain ⟨t420, A70, H⟩ := H
       replace H : (if t420 = true then (laws_eqNodeS.l0 k1 l0 l1 (wrap64 (x5_1 + 1))) else (some false)) = some r := H
       have A7 := Aside0.mk A70
       clear A70
       by_cases c8 : t420 = true
       ·
        subst c8
        have H1 : (laws_eqNodeS.l0 k1 l0 l1 (wrap64 (x5_1 + 1))) = some r := by rw [if_pos rfl] at H; exact H
        clear H
        have H := H1
        clear H1
        have H' := Aside0.mk H
        clear H
        try go_wp2
        have n0_ := Aside0.mk (below_drew1 HB.out)
        clear HB
        have HB := n0_
        clear n0_
        have p418 : 0 ≤ (x5_1 : Int) := of_decide_eq_true (by first | (with_reducible assumption) | assumption)
        have q418 : x5_1 < (l0.length : Int) := of_decide_eq_true (by first | (with_reducible assumption) | assumption)
        obtain ⟨ad418, e418, hx418_0, hx418_1, hx418_2⟩ := at_T50 HR0.out x5_1 p418 q418
        have hw418_2 := hx418_2
        have hw418_1 := hx418_1
        have hw418_0 := hx418_0
        cases e418
        replace hx418_0 := (HB.out.cell (World.block_lt_of_cell? w _ hx418_0)).trans hx418_0
        replace hx418_1 := (HB.out.cell (World.block_lt_of_cell? w _ hx418_1)).trans hx418_1
        replace hx418_2 := (HB.out.cell (World.block_lt_of_cell? w _ hx418_2)).trans hx418_2
        replace p418 := eq_true p418
        replace q418 := eq_true q418
        have p419 : 0 ≤ (x5_1 : Int) := of_decide_eq_true (by first | (with_reducible assumption) | assumption)
        have q419 : x5_1 < (l1.length : Int) := of_decide_eq_true (by first | (with_reducible assumption) | assumption)
        obtain ⟨ad419, e419, hx419_0, hx419_1, hx419_2⟩ := at_T50 HR1.out x5_1 p419 q419
        have hw419_2 := hx419_2
        have hw419_1 := hx419_1
        have hw419_0 := hx419_0
        cases e419
        replace hx419_0 := (HB.out.cell (World.block_lt_of_cell? w _ hx419_0)).trans hx419_0
        replace hx419_1 := (HB.out.cell (World.block_lt_of_cell? w _ hx419_1)).trans hx419_1
        replace hx419_2 := (HB.out.cell (World.block_lt_of_cell? w _ hx419_2)).trans hx419_2
        replace p419 := eq_true p419
        replace q419 := eq_true q419
        refine start_ (n := 10) (S := fun w' => w'.cell? (ad418.add ((x5_1).toNat * 3)) = some (.int .i64 ((rd_T50 l0 x5_1).f0)) ∧ w'.cell? ⟨(ad418.add ((x5_1).toNat * 3)).block, (ad418.add ((x5_1).toNat * 3)).off + 1, none⟩ = some (.int .i64 ((rd_T50 l0 x5_1).f1)) ∧ w'.cell? ⟨(ad418.add ((x5_1).toNat * 3)).block, (ad418.add ((x5_1).toNat * 3)).off + 2, none⟩ = some (.bool ((rd_T50 l0 x5_1).f2)) ∧ w'.cell? (ad419.add ((x5_1).toNat * 3)) = some (.int .i64 ((rd_T50 l1 x5_1).f0)) ∧ w'.cell? ⟨(ad419.add ((x5_1).toNat * 3)).block, (ad419.add ((x5_1).toNat * 3)).off + 1, none⟩ = some (.int .i64 ((rd_T50 l1 x5_1).f1)) ∧ w'.cell? ⟨(ad419.add ((x5_1).toNat * 3)).block, (ad419.add ((x5_1).toNat * 3)).off + 2, none⟩ = some (.bool ((rd_T50 l1 x5_1).f2))) (ds := []) #[false, false, false, false, false, false, false, false, false, false] (by kernel_rfl) rfl rfl ⟨((HB.out.cell (World.block_lt_of_cell? w _ hw418_0)).trans hw418_0), ((HB.out.cell (World.block_lt_of_cell? w _ hw418_1)).trans hw418_1), ((HB.out.cell (World.block_lt_of_cell? w _ hw418_2)).trans hw418_2), ((HB.out.cell (World.block_lt_of_cell? w _ hw419_0)).trans hw419_0), ((HB.out.cell (World.block_lt_of_cell? w _ hw419_1)).trans hw419_1), ((HB.out.cell (World.block_lt_of_cell? w _ hw419_2)).trans hw419_2)⟩ (fun hHeld => ?_); refine with_tabW laws_eqNodeS.tab6 laws_eqNodeS.bits6 (fun HT_ HW_ => ?_)
        generalize wr.drew = w9 at HB hx418_0 hx418_1 hx418_2 hx419_0 hx419_1 hx419_2 hHeld ⊢
        refine pure_ (i := 0) (N := some 17) (v := ?_) (a' := ?_) #[true, false, false, false, false, false, false, false, false, false] rfl rfl (any_of HT_.out (by kernel_rfl)) (fun _ _ _ h => h) (Or.inl ⟨by rfl, ?_⟩) ?_ ?_
        rotate_left
        ·
         intro w'
         go_simp
         with_reducible rfl
        rotate_left
        ·
         simp only [Act.put, List.setIfInBounds_toArray, List.set_cons_zero, List.set_cons_succ, i64_w, i32_w]
         rfl
        refine pure_ (i := 1) (N := some 18) (v := ?_) (a' := ?_) #[true, true, false, false, false, false, false, false, false, false] rfl rfl (any_of HT_.out (by kernel_rfl)) (fun _ _ _ h => h) (Or.inl ⟨by rfl, ?_⟩) ?_ ?_
        rotate_left
        ·
         intro w'
         go_simp
         with_reducible rfl
        rotate_left
        ·
         simp only [Act.put, List.setIfInBounds_toArray, List.set_cons_zero, List.set_cons_succ, i64_w, i32_w]
         rfl
        refine pure_ (i := 2) (N := some 19) (v := ?_) (a' := ?_) #[true, true, true, false, false, false, false, false, false, false] rfl rfl (any_of HT_.out (by kernel_rfl)) (fun _ _ _ h => h) (Or.inl ⟨by rfl, ?_⟩) ?_ ?_
        rotate_left
        ·
         intro w'
         go_simp
         with_reducible rfl
        rotate_left
        ·
         simp only [Act.put, List.setIfInBounds_toArray, List.set_cons_zero, List.set_cons_succ, i64_w, i32_w]
         rfl
        refine pure_ (i := 4) (N := some 21) (v := ?_) (a' := ?_) #[true, true, true, false, true, false, false, false, false, false] rfl rfl (any_of HT_.out (by kernel_rfl)) (fun _ _ _ h => h) (Or.inl ⟨by rfl, ?_⟩) ?_ ?_
        rotate_left
        ·
         intro w'
         go_simp
         with_reducible rfl
        rotate_left
        ·
         simp only [Act.put, List.setIfInBounds_toArray, List.set_cons_zero, List.set_cons_succ, i64_w, i32_w]
         rfl
        refine pure_ (i := 5) (N := some 22) (v := ?_) (a' := ?_) #[true, true, true, false, true, true, false, false, false, false] rfl rfl (any_of HT_.out (by kernel_rfl)) (fun _ _ _ h => h) (Or.inl ⟨by rfl, ?_⟩) ?_ ?_
        rotate_left
        ·
         intro w'
         go_simp
         with_reducible rfl
        rotate_left
        ·
         simp only [Act.put, List.setIfInBounds_toArray, List.set_cons_zero, List.set_cons_succ, i64_w, i32_w]
         rfl
        refine pure_ (i := 6) (N := some 23) (v := ?_) (a' := ?_) #[true, true, true, false, true, true, true, false, false, false] rfl rfl (any_of HT_.out (by kernel_rfl)) (fun _ _ _ h => h) (Or.inl ⟨by rfl, ?_⟩) ?_ ?_
        rotate_left
        ·
         intro w'
         go_simp
         with_reducible rfl
        rotate_left
        ·
         simp only [Act.put, List.setIfInBounds_toArray, List.set_cons_zero, List.set_cons_succ, i64_w, i32_w]
         rfl
        refine take_ (i := 3) (N := some 20) (v := ?_) (a' := ?_) #[true, true, true, true, true, true, true, false, false, false] rfl rfl (take_ofW HT_.out HW_.out (by kernel_rfl)) (fun _ _ _ h => h) (Or.inl ⟨by rfl, ?_⟩) hHeld ?_ ?_
        rotate_left
        ·
         rintro w' ⟨s0, s1, s2, s3, s4, s5⟩
         go_simp
         with_reducible rfl
        rotate_left
        ·
         simp only [Act.put, List.setIfInBounds_toArray, List.set_cons_zero, List.set_cons_succ, i64_w, i32_w]
         rfl
        refine take_ (i := 7) (N := some 24) (v := ?_) (a' := ?_) #[true, true, true, true, true, true, true, true, false, false] rfl rfl (take_ofW HT_.out HW_.out (by kernel_rfl)) (fun _ _ _ h => h) (Or.inl ⟨by rfl, ?_⟩) hHeld ?_ ?_
        rotate_left
        ·
         rintro w' ⟨s0, s1, s2, s3, s4, s5⟩
         go_simp
         with_reducible rfl
        rotate_left
        ·
         simp only [Act.put, List.setIfInBounds_toArray, List.set_cons_zero, List.set_cons_succ, i64_w, i32_w]
         rfl
        refine one_ (i := 8) (N := some 25) #[true, true, true, true, true, true, true, true, true, false] rfl rfl (one_of HT_.out (by kernel_rfl)) (by decide) (fun K hK => ?_)
        refine goes_ Tryd.func30 (by kernel_rfl) rfl #[.agg #[.int .i64 ((rd_T50 l0 x5_1).f0), .int .i64 ((rd_T50 l0 x5_1).f1), .bool ((rd_T50 l0 x5_1).f2)], .agg #[.int .i64 ((rd_T50 l1 x5_1).f0), .int .i64 ((rd_T50 l1 x5_1).f1), .bool ((rd_T50 l1 x5_1).f2)]] (by rfl) rfl rfl (by (try simp only [List.map_toArray, List.map_cons, List.map_nil]); first | done | rfl | (simp only [List.length_drop, List.length_take]; rfl)) ?_
        with_reducible refine (laws_eqNode.calls ((rd_T50 l0 x5_1).f0) ((rd_T50 l0 x5_1).f1) ((rd_T50 l0 x5_1).f2) ((rd_T50 l1 x5_1).f0) ((rd_T50 l1 x5_1).f1) ((rd_T50 l1 x5_1).f2) true _ A7.out).mono ?_
        rintro e w10 ⟨rfl, hb⟩
        refine ⟨_, rfl, ?_⟩
        have n0_ := Aside0.mk (below_step (by repeat (first | (with_reducible first | exact HB.out | apply below_alloc | apply pw_below_drewN | apply below_drew1) | exact HB.out)) hb)
        clear HB
        have HB := n0_
        clear n0_
        (try clear hb)
        (try clear hb2)
        (try clear hk)
        (try clear hi)
        refine hK.out _ _ ⟨((HB.out.cell (World.block_lt_of_cell? w _ hw418_0)).trans hw418_0), ((HB.out.cell (World.block_lt_of_cell? w _ hw418_1)).trans hw418_1), ((HB.out.cell (World.block_lt_of_cell? w _ hw418_2)).trans hw418_2), ((HB.out.cell (World.block_lt_of_cell? w _ hw419_0)).trans hw419_0), ((HB.out.cell (World.block_lt_of_cell? w _ hw419_1)).trans hw419_1), ((HB.out.cell (World.block_lt_of_cell? w _ hw419_2)).trans hw419_2)⟩ (fun hHeld => ?_)
        clear hK K
        refine norm_ (a' := ?_) ?_ ?_
        rotate_left
        ·
         show Act.put _ (some 25) _ = _
         simp only [Act.put, List.setIfInBounds_toArray, List.set_cons_zero, List.set_cons_succ, i64_w, i32_w]
         rfl
        refine pure_ (i := 9) (N := some 26) (v := ?_) (a' := ?_) #[true, true, true, true, true, true, true, true, true, true] rfl rfl (any_of HT_.out (by kernel_rfl)) (fun _ _ _ h => h) (Or.inl ⟨by rfl, ?_⟩) ?_ ?_
        rotate_left
        ·
         intro w'
         go_simp
         with_reducible rfl
        rotate_left
        ·
         simp only [Act.put, List.setIfInBounds_toArray, List.set_cons_zero, List.set_cons_succ, i64_w, i32_w]
         rfl
        refine done_ (done_of HT_.out (by kernel_rfl)) ?_
        try go_wp2
        go_roundg k1
        case measure => have := HK1.out; omega
        case rel => exact ⟨(wrap64 (x5_1 + 1)), (by first | rfl | (simp; done) | (simp [*]; done)), H', ⟨by have := HK1.out; omega⟩, ⟨by repeat (first | (with_reducible first | exact HB.out | apply below_alloc | apply pw_below_drewN | apply below_drew1) | exact HB.out)⟩⟩
       ·
        replace c8 := Bool.eq_false_iff.mpr c8
        subst c8
        have H1 : (some false) = some r := by rw [if_neg (show ¬ (false = true) by decide)] at H; exact H
        clear H
        have H := H1
        clear H1
        obtain rfl := Option.some.inj H
        try go_wp2
        have n0_ := Aside0.mk (below_drew1 HB.out)
        clear HB
        have HB := n0_
        clear n0_
        have p418 : 0 ≤ (x5_1 : Int) := of_decide_eq_true (by first | (with_reducible assumption) | assumption)
        have q418 : x5_1 < (l0.length : Int) := of_decide_eq_true (by first | (with_reducible assumption) | assumption)
        obtain ⟨ad418, e418, hx418_0, hx418_1, hx418_2⟩ := at_T50 HR0.out x5_1 p418 q418
        have hw418_2 := hx418_2
        have hw418_1 := hx418_1
        have hw418_0 := hx418_0
        cases e418
        replace hx418_0 := (HB.out.cell (World.block_lt_of_cell? w _ hx418_0)).trans hx418_0
        replace hx418_1 := (HB.out.cell (World.block_lt_of_cell? w _ hx418_1)).trans hx418_1
        replace hx418_2 := (HB.out.cell (World.block_lt_of_cell? w _ hx418_2)).trans hx418_2
        replace p418 := eq_true p418
        replace q418 := eq_true q418
        have p419 : 0 ≤ (x5_1 : Int) := of_decide_eq_true (by first | (with_reducible assumption) | assumption)
        have q419 : x5_1 < (l1.length : Int) := of_decide_eq_true (by first | (with_reducible assumption) | assumption)
        obtain ⟨ad419, e419, hx419_0, hx419_1, hx419_2⟩ := at_T50 HR1.out x5_1 p419 q419
        have hw419_2 := hx419_2
        have hw419_1 := hx419_1
        have hw419_0 := hx419_0
        cases e419
        replace hx419_0 := (HB.out.cell (World.block_lt_of_cell? w _ hx419_0)).trans hx419_0
        replace hx419_1 := (HB.out.cell (World.block_lt_of_cell? w _ hx419_1)).trans hx419_1
        replace hx419_2 := (HB.out.cell (World.block_lt_of_cell? w _ hx419_2)).trans hx419_2
        replace p419 := eq_true p419
        replace q419 := eq_true q419
        refine start_ (n := 10) (S := fun w' => w'.cell? (ad418.add ((x5_1).toNat * 3)) = some (.int .i64 ((rd_T50 l0 x5_1).f0)) ∧ w'.cell? ⟨(ad418.add ((x5_1).toNat * 3)).block, (ad418.add ((x5_1).toNat * 3)).off + 1, none⟩ = some (.int .i64 ((rd_T50 l0 x5_1).f1)) ∧ w'.cell? ⟨(ad418.add ((x5_1).toNat * 3)).block, (ad418.add ((x5_1).toNat * 3)).off + 2, none⟩ = some (.bool ((rd_T50 l0 x5_1).f2)) ∧ w'.cell? (ad419.add ((x5_1).toNat * 3)) = some (.int .i64 ((rd_T50 l1 x5_1).f0)) ∧ w'.cell? ⟨(ad419.add ((x5_1).toNat * 3)).block, (ad419.add ((x5_1).toNat * 3)).off + 1, none⟩ = some (.int .i64 ((rd_T50 l1 x5_1).f1)) ∧ w'.cell? ⟨(ad419.add ((x5_1).toNat * 3)).block, (ad419.add ((x5_1).toNat * 3)).off + 2, none⟩ = some (.bool ((rd_T50 l1 x5_1).f2))) (ds := []) #[false, false, false, false, false, false, false, false, false, false] (by kernel_rfl) rfl rfl ⟨((HB.out.cell (World.block_lt_of_cell? w _ hw418_0)).trans hw418_0), ((HB.out.cell (World.block_lt_of_cell? w _ hw418_1)).trans hw418_1), ((HB.out.cell (World.block_lt_of_cell? w _ hw418_2)).trans hw418_2), ((HB.out.cell (World.block_lt_of_cell? w _ hw419_0)).trans hw419_0), ((HB.out.cell (World.block_lt_of_cell? w _ hw419_1)).trans hw419_1), ((HB.out.cell (World.block_lt_of_cell? w _ hw419_2)).trans hw419_2)⟩ (fun hHeld => ?_); refine with_tabW laws_eqNodeS.tab6 laws_eqNodeS.bits6 (fun HT_ HW_ => ?_)
        generalize wr.drew = w11 at HB hx418_0 hx418_1 hx418_2 hx419_0 hx419_1 hx419_2 hHeld ⊢
        refine pure_ (i := 0) (N := some 17) (v := ?_) (a' := ?_) #[true, false, false, false, false, false, false, false, false, false] rfl rfl (any_of HT_.out (by kernel_rfl)) (fun _ _ _ h => h) (Or.inl ⟨by rfl, ?_⟩) ?_ ?_
        rotate_left
        ·
         intro w'
         go_simp
         with_reducible rfl
        rotate_left
        ·
         simp only [Act.put, List.setIfInBounds_toArray, List.set_cons_zero, List.set_cons_succ, i64_w, i32_w]
         rfl
        refine pure_ (i := 1) (N := some 18) (v := ?_) (a' := ?_) #[true, true, false, false, false, false, false, false, false, false] rfl rfl (any_of HT_.out (by kernel_rfl)) (fun _ _ _ h => h) (Or.inl ⟨by rfl, ?_⟩) ?_ ?_
        rotate_left
        ·
         intro w'
         go_simp
         with_reducible rfl
        rotate_left
        ·
         simp only [Act.put, List.setIfInBounds_toArray, List.set_cons_zero, List.set_cons_succ, i64_w, i32_w]
         rfl
        refine pure_ (i := 2) (N := some 19) (v := ?_) (a' := ?_) #[true, true, true, false, false, false, false, false, false, false] rfl rfl (any_of HT_.out (by kernel_rfl)) (fun _ _ _ h => h) (Or.inl ⟨by rfl, ?_⟩) ?_ ?_
        rotate_left
        ·
         intro w'
         go_simp
         with_reducible rfl
        rotate_left
        ·
         simp only [Act.put, List.setIfInBounds_toArray, List.set_cons_zero, List.set_cons_succ, i64_w, i32_w]
         rfl
        refine pure_ (i := 4) (N := some 21) (v := ?_) (a' := ?_) #[true, true, true, false, true, false, false, false, false, false] rfl rfl (any_of HT_.out (by kernel_rfl)) (fun _ _ _ h => h) (Or.inl ⟨by rfl, ?_⟩) ?_ ?_
        rotate_left
        ·
         intro w'
         go_simp
         with_reducible rfl
        rotate_left
        ·
         simp only [Act.put, List.setIfInBounds_toArray, List.set_cons_zero, List.set_cons_succ, i64_w, i32_w]
         rfl
        refine pure_ (i := 5) (N := some 22) (v := ?_) (a' := ?_) #[true, true, true, false, true, true, false, false, false, false] rfl rfl (any_of HT_.out (by kernel_rfl)) (fun _ _ _ h => h) (Or.inl ⟨by rfl, ?_⟩) ?_ ?_
        rotate_left
        ·
         intro w'
         go_simp
         with_reducible rfl
        rotate_left
        ·
         simp only [Act.put, List.setIfInBounds_toArray, List.set_cons_zero, List.set_cons_succ, i64_w, i32_w]
         rfl
        refine pure_ (i := 6) (N := some 23) (v := ?_) (a' := ?_) #[true, true, true, false, true, true, true, false, false, false] rfl rfl (any_of HT_.out (by kernel_rfl)) (fun _ _ _ h => h) (Or.inl ⟨by rfl, ?_⟩) ?_ ?_
        rotate_left
        ·
         intro w'
         go_simp
         with_reducible rfl
        rotate_left
        ·
         simp only [Act.put, List.setIfInBounds_toArray, List.set_cons_zero, List.set_cons_succ, i64_w, i32_w]
         rfl
        refine take_ (i := 3) (N := some 20) (v := ?_) (a' := ?_) #[true, true, true, true, true, true, true, false, false, false] rfl rfl (take_ofW HT_.out HW_.out (by kernel_rfl)) (fun _ _ _ h => h) (Or.inl ⟨by rfl, ?_⟩) hHeld ?_ ?_
        rotate_left
        ·
         rintro w' ⟨s0, s1, s2, s3, s4, s5⟩
         go_simp
         with_reducible rfl
        rotate_left
        ·
         simp only [Act.put, List.setIfInBounds_toArray, List.set_cons_zero, List.set_cons_succ, i64_w, i32_w]
         rfl
        refine take_ (i := 7) (N := some 24) (v := ?_) (a' := ?_) #[true, true, true, true, true, true, true, true, false, false] rfl rfl (take_ofW HT_.out HW_.out (by kernel_rfl)) (fun _ _ _ h => h) (Or.inl ⟨by rfl, ?_⟩) hHeld ?_ ?_
        rotate_left
        ·
         rintro w' ⟨s0, s1, s2, s3, s4, s5⟩
         go_simp
         with_reducible rfl
        rotate_left
        ·
         simp only [Act.put, List.setIfInBounds_toArray, List.set_cons_zero, List.set_cons_succ, i64_w, i32_w]
         rfl
        refine one_ (i := 8) (N := some 25) #[true, true, true, true, true, true, true, true, true, false] rfl rfl (one_of HT_.out (by kernel_rfl)) (by decide) (fun K hK => ?_)
        refine goes_ Tryd.func30 (by kernel_rfl) rfl #[.agg #[.int .i64 ((rd_T50 l0 x5_1).f0), .int .i64 ((rd_T50 l0 x5_1).f1), .bool ((rd_T50 l0 x5_1).f2)], .agg #[.int .i64 ((rd_T50 l1 x5_1).f0), .int .i64 ((rd_T50 l1 x5_1).f1), .bool ((rd_T50 l1 x5_1).f2)]] (by rfl) rfl rfl (by (try simp only [List.map_toArray, List.map_cons, List.map_nil]); first | done | rfl | (simp only [List.length_drop, List.length_take]; rfl)) ?_
        with_reducible refine (laws_eqNode.calls ((rd_T50 l0 x5_1).f0) ((rd_T50 l0 x5_1).f1) ((rd_T50 l0 x5_1).f2) ((rd_T50 l1 x5_1).f0) ((rd_T50 l1 x5_1).f1) ((rd_T50 l1 x5_1).f2) false _ A7.out).mono ?_
        rintro e w12 ⟨rfl, hb⟩
        refine ⟨_, rfl, ?_⟩
        have n0_ := Aside0.mk (below_step (by repeat (first | (with_reducible first | exact HB.out | apply below_alloc | apply pw_below_drewN | apply below_drew1) | exact HB.out)) hb)
        clear HB
        have HB := n0_
        clear n0_
        (try clear hb)
        (try clear hb2)
        (try clear hk)
        (try clear hi)
        refine hK.out _ _ ⟨((HB.out.cell (World.block_lt_of_cell? w _ hw418_0)).trans hw418_0), ((HB.out.cell (World.block_lt_of_cell? w _ hw418_1)).trans hw418_1), ((HB.out.cell (World.block_lt_of_cell? w _ hw418_2)).trans hw418_2), ((HB.out.cell (World.block_lt_of_cell? w _ hw419_0)).trans hw419_0), ((HB.out.cell (World.block_lt_of_cell? w _ hw419_1)).trans hw419_1), ((HB.out.cell (World.block_lt_of_cell? w _ hw419_2)).trans hw419_2)⟩ (fun hHeld => ?_)
        clear hK K
        refine norm_ (a' := ?_) ?_ ?_
        rotate_left
        ·
         show Act.put _ (some 25) _ = _
         simp only [Act.put, List.setIfInBounds_toArray, List.set_cons_zero, List.set_cons_succ, i64_w, i32_w]
         rfl
        refine pure_ (i := 9) (N := some 26) (v := ?_) (a' := ?_) #[true, true, true, true, true, true, true, true, true, true] rfl rfl (any_of HT_.out (by kernel_rfl)) (fun _ _ _ h => h) (Or.inl ⟨by rfl, ?_⟩) ?_ ?_
        rotate_left
        ·
         intro w'
         go_simp
         with_reducible rfl
        rotate_left
        ·
         simp only [Act.put, List.setIfInBounds_toArray, List.set_cons_zero, List.set_cons_succ, i64_w, i32_w]
         rfl
        refine done_ (done_of HT_.out (by kernel_rfl)) ?_
        try go_wp2
        go_ret
        exact ⟨by first | rfl | (simp [errW_none, errW_some] <;> rfl) | (simp [*, errW_none, errW_some] <;> rfl), by repeat (first | (with_reducible first | exact HB.out | apply below_alloc | apply pw_below_drewN | apply below_drew1) | exact HB.out)⟩
      ·
       rw [if_neg c6] at H
       exact absurd H (by simp)
     ·
      rw [if_neg c5] at H
      exact absurd H (by simp)
    ·
     rw [if_neg c4] at H
     have c4b0 : decide (x5_1 < (l0.length : Int)) = false := decide_eq_false c4
     clear c4
     obtain rfl := Option.some.inj H
     go_wp2
     go_ret
     exact ⟨by first | rfl | (simp [errW_none, errW_some] <;> rfl) | (simp [*, errW_none, errW_some] <;> rfl), by repeat (first | (with_reducible first | exact HB.out | apply below_alloc | apply pw_below_drewN | apply below_drew1) | exact HB.out)⟩
 ·
  rw [if_neg c3] at H
  have c3b0 : ((l0.length : Int) == (l1.length : Int)) = false := beq_eq_false_iff_ne.mpr c3
  have c3b1 : ((l0.length : Int) != (l1.length : Int)) = true := bne_iff_ne.mpr c3
  have c3b2 : (l0.length == l1.length) = false := by first | simpa using c3 | (simp at c3 ⊢; omega)
  obtain rfl := Option.some.inj H
  go_enter Tryd.func20, Tryd.ntmps20
  go_wp2
  go_ret
  exact ⟨by first | rfl | (simp [errW_none, errW_some] <;> rfl) | (simp [*, errW_none, errW_some] <;> rfl), by repeat (first | (with_reducible first | exact HB.out | apply below_alloc | apply pw_below_drewN | apply below_drew1) | exact HB.out)⟩

end Go.Proofs.YtgagmodkjmegeaaDoor.P

namespace Go.Proofs.YtgagmodkjmegeaaDoor.P
open Go.RowKit Go.Proofs.YtgagmodkjmegeaaDoorW.PrintWords Go.Proofs.YtgagmodkjmegeaaDoorW.PrintLast Go.Proofs.YtgagmodkjmegeaaDoorW.PrintMore
attribute [local go_sem] max2_int min2_int max_two min_two max_three min_three max_four min_four
set_option linter.unusedVariables false
set_option linter.unusedSimpArgs false

/-! ### laws_eqTrie: function 9 -/
def laws_eqTrie.f (k : Nat) (l0_0 : List (S50)) (l1_0 : List (S50)) : Option (Bool) := (laws_eqNodeS.f k l0_0 l1_0).bind fun t423 => (if t423 = true then (some true) else (some false))
theorem laws_eqTrie.mono : ∀ a0 a1 k, LeO (laws_eqTrie.f k a0 a1) (laws_eqTrie.f (k + 1) a0 a1) := by
 intro a0 a1 k
 unfold laws_eqTrie.f
 repeat' first
   | (with_reducible exact laws_eqNodeS.mono _ _ _)
   | (with_reducible exact LeO.refl _)
   | (with_reducible exact LeO.none _)
   | (with_reducible refine LeO.ite ?_ ?_)
   | (with_reducible refine LeO.bind ?_ (fun _ => ?_))
   | exact laws_eqNodeS.mono _ _ _
   | exact LeO.none _
   | refine LeO.ite ?_ ?_
   | refine LeO.bind ?_ (fun _ => ?_)
set_option maxHeartbeats 8000000 in
set_option maxRecDepth 100000 in
theorem laws_eqTrie.calls (k : Nat) (A0_0 : Option Addr) (c0_0 : Nat) (l0_0 : List (S50)) (A1_0 : Option Addr) (c1_0 : Nat) (l1_0 : List (S50)) (r : Bool) (w : World) (hr0_0 : Kd.C k50 w A0_0 l0_0.length l0_0) (hc0_0 : l0_0.length ≤ c0_0) (hr1_0 : Kd.C k50 w A1_0 l1_0.length l1_0) (hc1_0 : l1_0.length ≤ c1_0) (h : laws_eqTrie.f k l0_0 l1_0 = some r) :
  Calls Tryd.prog 9 #[.agg #[.slice A0_0 l0_0.length c0_0], .agg #[.slice A1_0 l1_0.length c1_0]] w fun e w' => e = .returned (.bool r) ∧ Below w.heap.size w w' := by
 have hu31 := Tryd.underlying31
 have HR0_0 := Aside0.mk hr0_0
 have HC0_0 := Aside0.mk hc0_0
 clear hr0_0 hc0_0
 have HR1_0 := Aside0.mk hr1_0
 have HC1_0 := Aside0.mk hc1_0
 clear hr1_0 hc1_0
 have HB := Aside0.mk (Below.refl w.heap.size w)
 have H : ((laws_eqNodeS.f k l0_0 l1_0).bind fun t423 => (if t423 = true then (some true) else (some false))) = some r := h
 clear h
 replace H := Option.bind_eq_some_iff.mp H
 obtain ⟨t423, A30, H⟩ := H
 replace H : (if t423 = true then (some true) else (some false)) = some r := H
 have A3 := Aside0.mk A30
 clear A30
 by_cases c4 : t423 = true
 ·
  subst c4
  have H1 : (some true) = some r := by rw [if_pos rfl] at H; exact H
  clear H
  have H := H1
  clear H1
  obtain rfl := Option.some.inj H
  go_enter Tryd.func9, Tryd.ntmps9
  go_wp2_with (first | ((with_reducible refine gate_dst (N := 2) rfl ?_); refine box_event ?hg (N := 2) ?hd (cs := #[.slice A0_0 l0_0.length c0_0]) (t := 31) ?hr ?_; (case hd => rfl); (case hg => rfl); (case hr => first | (go_simp; done) | (go_simp; rfl)); intro gb421 hg w5 hbox hb; have n0_ := Aside0.mk (below_step (by repeat (first | (with_reducible first | exact HB.out | apply below_alloc | apply pw_below_drewN | apply below_drew1) | exact HB.out)) hb); have n1_ := Aside0.mk (hbox); have n2_ := Aside0.mk ((by rw [hg]; exact (below_size (by repeat (first | (with_reducible first | exact HB.out | apply below_alloc | apply pw_below_drewN | apply below_drew1) | exact HB.out))) : w.heap.size ≤ gb421)); have n3_ := Aside0.mk ((by rw [hg]; exact (below_size (by repeat (first | (with_reducible first | exact HB.out | apply below_alloc | apply pw_below_drewN | apply below_drew1) | exact HB.out))) : w.heap.size ≤ gb421)); clear HB; have HB := n0_; have BK421 := n1_; have GW421 := n2_; have GE421 := n3_; clear n0_ n1_ n2_ n3_; clear hb hbox hg) | ((with_reducible refine gate_dst (N := 3) rfl ?_); refine box_event ?hg (N := 3) ?hd (cs := #[.slice A1_0 l1_0.length c1_0]) (t := 31) ?hr ?_; (case hd => rfl); (case hg => rfl); (case hr => first | (go_simp; done) | (go_simp; rfl)); intro gb422 hg w6 hbox hb; have n0_ := Aside0.mk (blk_below (g := gb421) (o := .cells #[.slice A0_0 l0_0.length c0_0] 31 (0, 0)) (by (with_reducible repeat (first | refine blk_drewN ?_ _ | refine blk_drew ?_ | refine blk_alloc ?_ _)); exact BK421.out) hb); have n1_ := Aside0.mk (below_step (by repeat (first | (with_reducible first | exact HB.out | apply below_alloc | apply pw_below_drewN | apply below_drew1 | refine below_set ?_ GE421.out) | exact HB.out)) hb); have n2_ := Aside0.mk (hbox); have n3_ := Aside0.mk ((by rw [hg]; exact (below_size (by repeat (first | (with_reducible first | exact HB.out | apply below_alloc | apply pw_below_drewN | apply below_drew1 | refine below_set ?_ GE421.out) | exact HB.out))) : w.heap.size ≤ gb422)); have n4_ := Aside0.mk ((by rw [hg]; exact (below_size (by repeat (first | (with_reducible first | exact HB.out | apply below_alloc | apply pw_below_drewN | apply below_drew1 | refine below_set ?_ GE421.out) | exact HB.out))) : w.heap.size ≤ gb422)); have n5_ := Aside0.mk ((by rw [hg]; exact Nat.ne_of_lt (blk_lt (g := gb421) (o := .cells #[.slice A0_0 l0_0.length c0_0] 31 (0, 0)) (by (with_reducible repeat (first | refine blk_drewN ?_ _ | refine blk_drew ?_ | refine blk_alloc ?_ _)); exact BK421.out)) : gb421 ≠ gb422)); have n6_ := Aside0.mk ((by rw [hg]; exact Nat.ne_of_gt (blk_lt (g := gb421) (o := .cells #[.slice A0_0 l0_0.length c0_0] 31 (0, 0)) (by (with_reducible repeat (first | refine blk_drewN ?_ _ | refine blk_drew ?_ | refine blk_alloc ?_ _)); exact BK421.out)) : gb422 ≠ gb421)); clear BK421; clear HB; have BK421 := n0_; have HB := n1_; have BK422 := n2_; have GW422 := n3_; have GE422 := n4_; have NB421_422 := n5_; have NB422_421 := n6_; clear n0_ n1_ n2_ n3_ n4_ n5_ n6_; clear hb hbox hg; have hnb7 := NB421_422.out; have hnc7 := NB422_421.out; have hcz8_0 : w6.cell? ⟨gb421, 0, none⟩ = some (.slice A0_0 l0_0.length c0_0) := (blk_cell BK421.out 0).trans rfl; have hfz8_0 := blk_frozen BK421.out 0; have hcz9_0 : w6.cell? ⟨gb422, 0, none⟩ = some (.slice A1_0 l1_0.length c1_0) := (blk_cell BK422.out 0).trans rfl; have hfz9_0 := blk_frozen BK422.out 0) | ((with_reducible refine gate_callee (f := 20) rfl ?_); refine goesL_ (some 9) rfl rfl Tryd.func20 (by kernel_rfl) rfl #[.slice A0_0 l0_0.length c0_0, .slice A1_0 l1_0.length c1_0] rfl (by (try simp only [List.map_toArray, List.map_cons, List.map_nil]); first | done | rfl | (simp only [List.length_drop, List.length_take]; rfl)) ?_; (with_reducible refine (laws_eqNodeS.calls k _ _ l0_0 _ _ l1_0 true _ ?side1 ?side2 ?side3 ?side4 A3.out).mono ?_); (case side1 => repeat (first | exact (Kd.C_below HR0_0.out HB.out) | (with_reducible refine Kd.C_alloc ?_ _) | (with_reducible refine Kd.C_drewN ?_ _) | (with_reducible refine Kd.C_drew ?_))); (case side2 => exact HC0_0.out); (case side3 => repeat (first | exact (Kd.C_below HR1_0.out HB.out) | (with_reducible refine Kd.C_alloc ?_ _) | (with_reducible refine Kd.C_drewN ?_ _) | (with_reducible refine Kd.C_drew ?_))); (case side4 => exact HC1_0.out); rintro e w10 ⟨rfl, hb⟩; refine ⟨_, rfl, ?_⟩; have n0_ := Aside0.mk (blk_below (g := gb421) (o := .cells #[.slice A0_0 l0_0.length c0_0] 31 (0, 0)) (by (with_reducible repeat (first | refine blk_drewN ?_ _ | refine blk_drew ?_ | refine blk_alloc ?_ _)); exact BK421.out) hb); have n1_ := Aside0.mk (blk_below (g := gb422) (o := .cells #[.slice A1_0 l1_0.length c1_0] 31 (0, 0)) (by (with_reducible repeat (first | refine blk_drewN ?_ _ | refine blk_drew ?_ | refine blk_alloc ?_ _)); exact BK422.out) hb); have n2_ := Aside0.mk (below_step (by repeat (first | (with_reducible first | exact HB.out | apply below_alloc | apply pw_below_drewN | apply below_drew1 | refine below_set ?_ GE421.out | refine below_set ?_ GE422.out) | exact HB.out)) hb); clear BK421; clear BK422; clear HB; have BK421 := n0_; have BK422 := n1_; have HB := n2_; clear n0_ n1_ n2_; (try clear hb); (try clear hb2); (try clear hk); (try clear hi)))
  go_ret
  exact ⟨by first | rfl | (simp [errW_none, errW_some] <;> rfl) | (simp [*, errW_none, errW_some] <;> rfl), by repeat (first | (with_reducible first | exact HB.out | apply below_alloc | apply pw_below_drewN | apply below_drew1 | refine below_set ?_ GE421.out | refine below_set ?_ GE422.out) | exact HB.out)⟩
 ·
  replace c4 := Bool.eq_false_iff.mpr c4
  subst c4
  have H1 : (some false) = some r := by rw [if_neg (show ¬ (false = true) by decide)] at H; exact H
  clear H
  have H := H1
  clear H1
  obtain rfl := Option.some.inj H
  go_enter Tryd.func9, Tryd.ntmps9
  go_wp2_with (first | ((with_reducible refine gate_dst (N := 2) rfl ?_); refine box_event ?hg (N := 2) ?hd (cs := #[.slice A0_0 l0_0.length c0_0]) (t := 31) ?hr ?_; (case hd => rfl); (case hg => rfl); (case hr => first | (go_simp; done) | (go_simp; rfl)); intro gb421 hg w11 hbox hb; have n0_ := Aside0.mk (below_step (by repeat (first | (with_reducible first | exact HB.out | apply below_alloc | apply pw_below_drewN | apply below_drew1) | exact HB.out)) hb); have n1_ := Aside0.mk (hbox); have n2_ := Aside0.mk ((by rw [hg]; exact (below_size (by repeat (first | (with_reducible first | exact HB.out | apply below_alloc | apply pw_below_drewN | apply below_drew1) | exact HB.out))) : w.heap.size ≤ gb421)); have n3_ := Aside0.mk ((by rw [hg]; exact (below_size (by repeat (first | (with_reducible first | exact HB.out | apply below_alloc | apply pw_below_drewN | apply below_drew1) | exact HB.out))) : w.heap.size ≤ gb421)); clear HB; have HB := n0_; have BK421 := n1_; have GW421 := n2_; have GE421 := n3_; clear n0_ n1_ n2_ n3_; clear hb hbox hg) | ((with_reducible refine gate_dst (N := 3) rfl ?_); refine box_event ?hg (N := 3) ?hd (cs := #[.slice A1_0 l1_0.length c1_0]) (t := 31) ?hr ?_; (case hd => rfl); (case hg => rfl); (case hr => first | (go_simp; done) | (go_simp; rfl)); intro gb422 hg w12 hbox hb; have n0_ := Aside0.mk (blk_below (g := gb421) (o := .cells #[.slice A0_0 l0_0.length c0_0] 31 (0, 0)) (by (with_reducible repeat (first | refine blk_drewN ?_ _ | refine blk_drew ?_ | refine blk_alloc ?_ _)); exact BK421.out) hb); have n1_ := Aside0.mk (below_step (by repeat (first | (with_reducible first | exact HB.out | apply below_alloc | apply pw_below_drewN | apply below_drew1 | refine below_set ?_ GE421.out) | exact HB.out)) hb); have n2_ := Aside0.mk (hbox); have n3_ := Aside0.mk ((by rw [hg]; exact (below_size (by repeat (first | (with_reducible first | exact HB.out | apply below_alloc | apply pw_below_drewN | apply below_drew1 | refine below_set ?_ GE421.out) | exact HB.out))) : w.heap.size ≤ gb422)); have n4_ := Aside0.mk ((by rw [hg]; exact (below_size (by repeat (first | (with_reducible first | exact HB.out | apply below_alloc | apply pw_below_drewN | apply below_drew1 | refine below_set ?_ GE421.out) | exact HB.out))) : w.heap.size ≤ gb422)); have n5_ := Aside0.mk ((by rw [hg]; exact Nat.ne_of_lt (blk_lt (g := gb421) (o := .cells #[.slice A0_0 l0_0.length c0_0] 31 (0, 0)) (by (with_reducible repeat (first | refine blk_drewN ?_ _ | refine blk_drew ?_ | refine blk_alloc ?_ _)); exact BK421.out)) : gb421 ≠ gb422)); have n6_ := Aside0.mk ((by rw [hg]; exact Nat.ne_of_gt (blk_lt (g := gb421) (o := .cells #[.slice A0_0 l0_0.length c0_0] 31 (0, 0)) (by (with_reducible repeat (first | refine blk_drewN ?_ _ | refine blk_drew ?_ | refine blk_alloc ?_ _)); exact BK421.out)) : gb422 ≠ gb421)); clear BK421; clear HB; have BK421 := n0_; have HB := n1_; have BK422 := n2_; have GW422 := n3_; have GE422 := n4_; have NB421_422 := n5_; have NB422_421 := n6_; clear n0_ n1_ n2_ n3_ n4_ n5_ n6_; clear hb hbox hg; have hnb13 := NB421_422.out; have hnc13 := NB422_421.out; have hcz14_0 : w12.cell? ⟨gb421, 0, none⟩ = some (.slice A0_0 l0_0.length c0_0) := (blk_cell BK421.out 0).trans rfl; have hfz14_0 := blk_frozen BK421.out 0; have hcz15_0 : w12.cell? ⟨gb422, 0, none⟩ = some (.slice A1_0 l1_0.length c1_0) := (blk_cell BK422.out 0).trans rfl; have hfz15_0 := blk_frozen BK422.out 0) | ((with_reducible refine gate_callee (f := 20) rfl ?_); refine goesL_ (some 9) rfl rfl Tryd.func20 (by kernel_rfl) rfl #[.slice A0_0 l0_0.length c0_0, .slice A1_0 l1_0.length c1_0] rfl (by (try simp only [List.map_toArray, List.map_cons, List.map_nil]); first | done | rfl | (simp only [List.length_drop, List.length_take]; rfl)) ?_; (with_reducible refine (laws_eqNodeS.calls k _ _ l0_0 _ _ l1_0 false _ ?side1 ?side2 ?side3 ?side4 A3.out).mono ?_); (case side1 => repeat (first | exact (Kd.C_below HR0_0.out HB.out) | (with_reducible refine Kd.C_alloc ?_ _) | (with_reducible refine Kd.C_drewN ?_ _) | (with_reducible refine Kd.C_drew ?_))); (case side2 => exact HC0_0.out); (case side3 => repeat (first | exact (Kd.C_below HR1_0.out HB.out) | (with_reducible refine Kd.C_alloc ?_ _) | (with_reducible refine Kd.C_drewN ?_ _) | (with_reducible refine Kd.C_drew ?_))); (case side4 => exact HC1_0.out); rintro e w16 ⟨rfl, hb⟩; refine ⟨_, rfl, ?_⟩; have n0_ := Aside0.mk (blk_below (g := gb421) (o := .cells #[.slice A0_0 l0_0.length c0_0] 31 (0, 0)) (by (with_reducible repeat (first | refine blk_drewN ?_ _ | refine blk_drew ?_ | refine blk_alloc ?_ _)); exact BK421.out) hb); have n1_ := Aside0.mk (blk_below (g := gb422) (o := .cells #[.slice A1_0 l1_0.length c1_0] 31 (0, 0)) (by (with_reducible repeat (first | refine blk_drewN ?_ _ | refine blk_drew ?_ | refine blk_alloc ?_ _)); exact BK422.out) hb); have n2_ := Aside0.mk (below_step (by repeat (first | (with_reducible first | exact HB.out | apply below_alloc | apply pw_below_drewN | apply below_drew1 | refine below_set ?_ GE421.out | refine below_set ?_ GE422.out) | exact HB.out)) hb); clear BK421; clear BK422; clear HB; have BK421 := n0_; have BK422 := n1_; have HB := n2_; clear n0_ n1_ n2_; (try clear hb); (try clear hb2); (try clear hk); (try clear hi)))
  go_ret
  exact ⟨by first | rfl | (simp [errW_none, errW_some] <;> rfl) | (simp [*, errW_none, errW_some] <;> rfl), by repeat (first | (with_reducible first | exact HB.out | apply below_alloc | apply pw_below_drewN | apply below_drew1 | refine below_set ?_ GE421.out | refine below_set ?_ GE422.out) | exact HB.out)⟩

end Go.Proofs.YtgagmodkjmegeaaDoor.P

namespace Go.Proofs.YtgagmodkjmegeaaDoor.P
open Go.RowKit Go.Proofs.YtgagmodkjmegeaaDoorW.PrintWords Go.Proofs.YtgagmodkjmegeaaDoorW.PrintLast Go.Proofs.YtgagmodkjmegeaaDoorW.PrintMore
attribute [local go_sem] max2_int min2_int max_two min_two max_three min_three max_four min_four
set_option linter.unusedVariables false
set_option linter.unusedSimpArgs false

/-! ### laws_FnExactChanceOfDescent: function 3 -/
def laws_FnExactChanceOfDescent.j0 : Nat → Bool → List (S53) → List (S50) → Option (Bool)
 | 0, _, _, _ => none
 | k + 1, x42, x425000, x437000 => if x42 = true then (some false) else ((laws_toTrie.f k x425000).bind fun t442 => ((laws_eqTrie.f k x437000 t442).bind fun t445 => (if t445 = true then (some true) else (some false))))
def laws_FnExactChanceOfDescent.f (k : Nat) (l0_0 : List (S53)) (a1 : ByteArray) : Option (Bool) := if (a1.size : Int) > 1048576 then (some true) else ((laws_szTrie.f l0_0 1048576).bind fun t425 => (if t425 < 0 then (some true) else ((laws_toTrie.f k l0_0).bind fun t426 => ((spec_ChanceOfDescent.f k t426 a1).bind fun bt429 => ((laws_toTrie.f k l0_0).bind fun t433 => ((impl_ChanceOfDescent.f k t433 a1).bind fun bt437 => ((laws_eqIntA2.f bt437.1 bt437.2.1 bt429.1 bt429.2.1).bind fun t441 => (if t441 = true then (laws_FnExactChanceOfDescent.j0 k (bt437.2.2 != bt429.2.2) l0_0 t433) else (laws_FnExactChanceOfDescent.j0 k true l0_0 t433)))))))))
theorem laws_FnExactChanceOfDescent.mono_l : ∀ k, (∀ y0 y1 y2, LeO (laws_FnExactChanceOfDescent.j0 k y0 y1 y2) (laws_FnExactChanceOfDescent.j0 (k + 1) y0 y1 y2))
 | 0 => fun _ _ _ r h => by simp [laws_FnExactChanceOfDescent.j0] at h
 | k + 1 => by
  have ih0 := laws_FnExactChanceOfDescent.mono_l k
  ·
   intro y0 y1 y2
   unfold laws_FnExactChanceOfDescent.j0
   repeat' first
   | (with_reducible exact ih0 _ _ _)
   | (with_reducible exact impl_ChanceOfDescent.mono _ _ _)
   | (with_reducible exact laws_eqTrie.mono _ _ _)
   | (with_reducible exact laws_toTrie.mono _ _)
   | (with_reducible exact spec_ChanceOfDescent.mono _ _ _)
   | (with_reducible exact LeO.refl _)
   | (with_reducible exact LeO.none _)
   | (with_reducible refine LeO.ite ?_ ?_)
   | (with_reducible refine LeO.bind ?_ (fun _ => ?_))
   | exact ih0 _ _ _
   | exact impl_ChanceOfDescent.mono _ _ _
   | exact laws_eqTrie.mono _ _ _
   | exact laws_toTrie.mono _ _
   | exact spec_ChanceOfDescent.mono _ _ _
   | exact LeO.none _
   | refine LeO.ite ?_ ?_
   | refine LeO.bind ?_ (fun _ => ?_)
theorem laws_FnExactChanceOfDescent.mono : ∀ a0 a1 k, LeO (laws_FnExactChanceOfDescent.f k a0 a1) (laws_FnExactChanceOfDescent.f (k + 1) a0 a1) := by
 intro a0 a1 k
 have ih0 := laws_FnExactChanceOfDescent.mono_l k
 unfold laws_FnExactChanceOfDescent.f
 repeat' first
   | (with_reducible exact ih0 _ _ _)
   | (with_reducible exact impl_ChanceOfDescent.mono _ _ _)
   | (with_reducible exact laws_eqTrie.mono _ _ _)
   | (with_reducible exact laws_toTrie.mono _ _)
   | (with_reducible exact spec_ChanceOfDescent.mono _ _ _)
   | (with_reducible exact LeO.refl _)
   | (with_reducible exact LeO.none _)
   | (with_reducible refine LeO.ite ?_ ?_)
   | (with_reducible refine LeO.bind ?_ (fun _ => ?_))
   | exact ih0 _ _ _
   | exact impl_ChanceOfDescent.mono _ _ _
   | exact laws_eqTrie.mono _ _ _
   | exact laws_toTrie.mono _ _
   | exact spec_ChanceOfDescent.mono _ _ _
   | exact LeO.none _
   | refine LeO.ite ?_ ?_
   | refine LeO.bind ?_ (fun _ => ?_)
set_option maxHeartbeats 8000000 in
set_option maxRecDepth 100000 in
theorem laws_FnExactChanceOfDescent.calls (k : Nat) (A0_0 : Option Addr) (c0_0 : Nat) (l0_0 : List (S53)) (a1 : ByteArray) (r : Bool) (w : World) (hr0_0 : Kd.C k53 w A0_0 l0_0.length l0_0) (hc0_0 : l0_0.length ≤ c0_0) (h : laws_FnExactChanceOfDescent.f k l0_0 a1 = some r) :
  Calls Tryd.prog 3 #[.agg #[.slice A0_0 l0_0.length c0_0], .string a1] w fun e w' => e = .returned (.bool r) ∧ Below w.heap.size w w' := by
 have hu24 := Tryd.underlying24
 have hu26 := Tryd.underlying26
 have hu31 := Tryd.underlying31
 have HR0_0 := Aside0.mk hr0_0
 have HC0_0 := Aside0.mk hc0_0
 clear hr0_0 hc0_0
 have HB := Aside0.mk (Below.refl w.heap.size w)
 have H : (if (a1.size : Int) > 1048576 then (some true) else ((laws_szTrie.f l0_0 1048576).bind fun t425 => (if t425 < 0 then (some true) else ((laws_toTrie.f k l0_0).bind fun t426 => ((spec_ChanceOfDescent.f k t426 a1).bind fun bt429 => ((laws_toTrie.f k l0_0).bind fun t433 => ((impl_ChanceOfDescent.f k t433 a1).bind fun bt437 => ((laws_eqIntA2.f bt437.1 bt437.2.1 bt429.1 bt429.2.1).bind fun t441 => (if t441 = true then (laws_FnExactChanceOfDescent.j0 k (bt437.2.2 != bt429.2.2) l0_0 t433) else (laws_FnExactChanceOfDescent.j0 k true l0_0 t433)))))))))) = some r := h
 clear h
 by_cases c3 : (a1.size : Int) > 1048576
 ·
  rw [if_pos c3] at H
  have c3b0 : decide (1048576 < (a1.size : Int)) = true := decide_eq_true c3
  have c3b1 : decide (1048576 < a1.size) = true := decide_eq_true (by omega)
  clear c3
  obtain rfl := Option.some.inj H
  go_enter Tryd.func3, Tryd.ntmps3
  go_wp2_with (first | ((with_reducible refine gate_dst (N := 2) rfl ?_); refine box_event ?hg (N := 2) ?hd (cs := #[.slice A0_0 l0_0.length c0_0]) (t := 24) ?hr ?_; (case hd => rfl); (case hg => rfl); (case hr => first | (go_simp; done) | (go_simp; rfl)); intro gb424 hg w4 hbox hb; have n0_ := Aside0.mk (below_step (by repeat (first | (with_reducible first | exact HB.out | apply below_alloc | apply pw_below_drewN | apply below_drew1) | exact HB.out)) hb); have n1_ := Aside0.mk (hbox); have n2_ := Aside0.mk ((by rw [hg]; exact (below_size (by repeat (first | (with_reducible first | exact HB.out | apply below_alloc | apply pw_below_drewN | apply below_drew1) | exact HB.out))) : w.heap.size ≤ gb424)); have n3_ := Aside0.mk ((by rw [hg]; exact (below_size (by repeat (first | (with_reducible first | exact HB.out | apply below_alloc | apply pw_below_drewN | apply below_drew1) | exact HB.out))) : w.heap.size ≤ gb424)); clear HB; have HB := n0_; have BK424 := n1_; have GW424 := n2_; have GE424 := n3_; clear n0_ n1_ n2_ n3_; clear hb hbox hg))
  go_ret
  exact ⟨by first | rfl | (simp [errW_none, errW_some] <;> rfl) | (simp [*, errW_none, errW_some] <;> rfl), by repeat (first | (with_reducible first | exact HB.out | apply below_alloc | apply pw_below_drewN | apply below_drew1 | refine below_set ?_ GE424.out) | exact HB.out)⟩
 ·
  rw [if_neg c3] at H
  have c3b0 : decide (1048576 < (a1.size : Int)) = false := decide_eq_false c3
  have c3b1 : decide (1048576 < a1.size) = false := decide_eq_false (by omega)
  clear c3
  replace H := Option.bind_eq_some_iff.mp H
  obtain ⟨t425, A50, H⟩ := H
  replace H : (if t425 < 0 then (some true) else ((laws_toTrie.f k l0_0).bind fun t426 => ((spec_ChanceOfDescent.f k t426 a1).bind fun bt429 => ((laws_toTrie.f k l0_0).bind fun t433 => ((impl_ChanceOfDescent.f k t433 a1).bind fun bt437 => ((laws_eqIntA2.f bt437.1 bt437.2.1 bt429.1 bt429.2.1).bind fun t441 => (if t441 = true then (laws_FnExactChanceOfDescent.j0 k (bt437.2.2 != bt429.2.2) l0_0 t433) else (laws_FnExactChanceOfDescent.j0 k true l0_0 t433)))))))) = some r := H
  have A5 := Aside0.mk A50
  clear A50
  by_cases c6 : t425 < 0
  ·
   rw [if_pos c6] at H
   have c6b0 : decide (t425 < 0) = true := decide_eq_true c6
   clear c6
   obtain rfl := Option.some.inj H
   go_enter Tryd.func3, Tryd.ntmps3
   go_wp2_with (first | ((with_reducible refine gate_dst (N := 2) rfl ?_); refine box_event ?hg (N := 2) ?hd (cs := #[.slice A0_0 l0_0.length c0_0]) (t := 24) ?hr ?_; (case hd => rfl); (case hg => rfl); (case hr => first | (go_simp; done) | (go_simp; rfl)); intro gb424 hg w7 hbox hb; have n0_ := Aside0.mk (below_step (by repeat (first | (with_reducible first | exact HB.out | apply below_alloc | apply pw_below_drewN | apply below_drew1) | exact HB.out)) hb); have n1_ := Aside0.mk (hbox); have n2_ := Aside0.mk ((by rw [hg]; exact (below_size (by repeat (first | (with_reducible first | exact HB.out | apply below_alloc | apply pw_below_drewN | apply below_drew1) | exact HB.out))) : w.heap.size ≤ gb424)); have n3_ := Aside0.mk ((by rw [hg]; exact (below_size (by repeat (first | (with_reducible first | exact HB.out | apply below_alloc | apply pw_below_drewN | apply below_drew1) | exact HB.out))) : w.heap.size ≤ gb424)); clear HB; have HB := n0_; have BK424 := n1_; have GW424 := n2_; have GE424 := n3_; clear n0_ n1_ n2_ n3_; clear hb hbox hg; have hcz8_0 : w7.cell? ⟨gb424, 0, none⟩ = some (.slice A0_0 l0_0.length c0_0) := (blk_cell BK424.out 0).trans rfl; have hfz8_0 := blk_frozen BK424.out 0) | ((with_reducible refine gate_callee (f := 4) rfl ?_); refine goesL_ (some 16) rfl rfl Tryd.func4 (by kernel_rfl) rfl #[.agg #[.slice A0_0 l0_0.length c0_0], .int .i64 1048576] rfl (by (try simp only [List.map_toArray, List.map_cons, List.map_nil]); first | done | rfl | (simp only [List.length_drop, List.length_take]; rfl)) ?_; (with_reducible refine (laws_szTrie.calls _ _ l0_0 1048576 t425 _ ?side1 ?side2 A5.out).mono ?_); (case side1 => repeat (first | exact (Kd.C_below HR0_0.out HB.out) | (with_reducible refine Kd.C_alloc ?_ _) | (with_reducible refine Kd.C_drewN ?_ _) | (with_reducible refine Kd.C_drew ?_))); (case side2 => exact HC0_0.out); rintro e w9 ⟨rfl, hb⟩; refine ⟨_, rfl, ?_⟩; have n0_ := Aside0.mk (blk_below (g := gb424) (o := .cells #[.slice A0_0 l0_0.length c0_0] 24 (0, 0)) (by (with_reducible repeat (first | refine blk_drewN ?_ _ | refine blk_drew ?_ | refine blk_alloc ?_ _)); exact BK424.out) hb); have n1_ := Aside0.mk (below_step (by repeat (first | (with_reducible first | exact HB.out | apply below_alloc | apply pw_below_drewN | apply below_drew1 | refine below_set ?_ GE424.out) | exact HB.out)) hb); clear BK424; clear HB; have BK424 := n0_; have HB := n1_; clear n0_ n1_; (try clear hb); (try clear hb2); (try clear hk); (try clear hi)))
   go_ret
   exact ⟨by first | rfl | (simp [errW_none, errW_some] <;> rfl) | (simp [*, errW_none, errW_some] <;> rfl), by repeat (first | (with_reducible first | exact HB.out | apply below_alloc | apply pw_below_drewN | apply below_drew1 | refine below_set ?_ GE424.out) | exact HB.out)⟩
  ·
   rw [if_neg c6] at H
   have c6b0 : decide (t425 < 0) = false := decide_eq_false c6
   clear c6
   replace H := Option.bind_eq_some_iff.mp H
   obtain ⟨t426, A100, H⟩ := H
   replace H : ((spec_ChanceOfDescent.f k t426 a1).bind fun bt429 => ((laws_toTrie.f k l0_0).bind fun t433 => ((impl_ChanceOfDescent.f k t433 a1).bind fun bt437 => ((laws_eqIntA2.f bt437.1 bt437.2.1 bt429.1 bt429.2.1).bind fun t441 => (if t441 = true then (laws_FnExactChanceOfDescent.j0 k (bt437.2.2 != bt429.2.2) l0_0 t433) else (laws_FnExactChanceOfDescent.j0 k true l0_0 t433)))))) = some r := H
   have A10 := Aside0.mk A100
   clear A100
   replace H := Option.bind_eq_some_iff.mp H
   obtain ⟨⟨t429, t430, t431⟩, A110, H⟩ := H
   replace H : ((laws_toTrie.f k l0_0).bind fun t433 => ((impl_ChanceOfDescent.f k t433 a1).bind fun bt437 => ((laws_eqIntA2.f bt437.1 bt437.2.1 t429 t430).bind fun t441 => (if t441 = true then (laws_FnExactChanceOfDescent.j0 k (bt437.2.2 != t431) l0_0 t433) else (laws_FnExactChanceOfDescent.j0 k true l0_0 t433))))) = some r := H
   have A11 := Aside0.mk A110
   clear A110
   replace H := Option.bind_eq_some_iff.mp H
   obtain ⟨t433, A120, H⟩ := H
   replace H : ((impl_ChanceOfDescent.f k t433 a1).bind fun bt437 => ((laws_eqIntA2.f bt437.1 bt437.2.1 t429 t430).bind fun t441 => (if t441 = true then (laws_FnExactChanceOfDescent.j0 k (bt437.2.2 != t431) l0_0 t433) else (laws_FnExactChanceOfDescent.j0 k true l0_0 t433)))) = some r := H
   have A12 := Aside0.mk A120
   clear A120
   replace H := Option.bind_eq_some_iff.mp H
   obtain ⟨⟨t437, t438, t439⟩, A130, H⟩ := H
   replace H : ((laws_eqIntA2.f t437 t438 t429 t430).bind fun t441 => (if t441 = true then (laws_FnExactChanceOfDescent.j0 k (t439 != t431) l0_0 t433) else (laws_FnExactChanceOfDescent.j0 k true l0_0 t433))) = some r := H
   have A13 := Aside0.mk A130
   clear A130
   have HC14 := Aside0.mk H
   clear H
   go_enter Tryd.func3, Tryd.ntmps3
   go_upto_region 10 with (first | ((with_reducible refine gate_dst (N := 2) rfl ?_); refine box_event ?hg (N := 2) ?hd (cs := #[.slice A0_0 l0_0.length c0_0]) (t := 24) ?hr ?_; (case hd => rfl); (case hg => rfl); (case hr => first | (go_simp; done) | (go_simp; rfl)); intro gb424 hg w15 hbox hb; have n0_ := Aside0.mk (below_step (by repeat (first | (with_reducible first | exact HB.out | apply below_alloc | apply pw_below_drewN | apply below_drew1) | exact HB.out)) hb); have n1_ := Aside0.mk (hbox); have n2_ := Aside0.mk ((by rw [hg]; exact (below_size (by repeat (first | (with_reducible first | exact HB.out | apply below_alloc | apply pw_below_drewN | apply below_drew1) | exact HB.out))) : w.heap.size ≤ gb424)); have n3_ := Aside0.mk ((by rw [hg]; exact (below_size (by repeat (first | (with_reducible first | exact HB.out | apply below_alloc | apply pw_below_drewN | apply below_drew1) | exact HB.out))) : w.heap.size ≤ gb424)); clear HB; have HB := n0_; have BK424 := n1_; have GW424 := n2_; have GE424 := n3_; clear n0_ n1_ n2_ n3_; clear hb hbox hg; have hcz16_0 : w15.cell? ⟨gb424, 0, none⟩ = some (.slice A0_0 l0_0.length c0_0) := (blk_cell BK424.out 0).trans rfl; have hfz16_0 := blk_frozen BK424.out 0) | ((with_reducible refine gate_callee (f := 4) rfl ?_); refine goesL_ (some 16) rfl rfl Tryd.func4 (by kernel_rfl) rfl #[.agg #[.slice A0_0 l0_0.length c0_0], .int .i64 1048576] rfl (by (try simp only [List.map_toArray, List.map_cons, List.map_nil]); first | done | rfl | (simp only [List.length_drop, List.length_take]; rfl)) ?_; (with_reducible refine (laws_szTrie.calls _ _ l0_0 1048576 t425 _ ?side1 ?side2 A5.out).mono ?_); (case side1 => repeat (first | exact (Kd.C_below HR0_0.out HB.out) | (with_reducible refine Kd.C_alloc ?_ _) | (with_reducible refine Kd.C_drewN ?_ _) | (with_reducible refine Kd.C_drew ?_))); (case side2 => exact HC0_0.out); rintro e w17 ⟨rfl, hb⟩; refine ⟨_, rfl, ?_⟩; have n0_ := Aside0.mk (blk_below (g := gb424) (o := .cells #[.slice A0_0 l0_0.length c0_0] 24 (0, 0)) (by (with_reducible repeat (first | refine blk_drewN ?_ _ | refine blk_drew ?_ | refine blk_alloc ?_ _)); exact BK424.out) hb); have n1_ := Aside0.mk (below_step (by repeat (first | (with_reducible first | exact HB.out | apply below_alloc | apply pw_below_drewN | apply below_drew1 | refine below_set ?_ GE424.out) | exact HB.out)) hb); clear BK424; clear HB; have BK424 := n0_; have HB := n1_; clear n0_ n1_; (try clear hb); (try clear hb2); (try clear hk); (try clear hi); have hcz18_0 : w17.cell? ⟨gb424, 0, none⟩ = some (.slice A0_0 l0_0.length c0_0) := (blk_cell BK424.out 0).trans rfl; have hfz18_0 := blk_frozen BK424.out 0) | ((with_reducible refine gate_callee (f := 6) rfl ?_); refine goesL_ (some 21) rfl rfl Tryd.func6 (by kernel_rfl) rfl #[.agg #[.slice A0_0 l0_0.length c0_0]] rfl (by (try simp only [List.map_toArray, List.map_cons, List.map_nil]); first | done | rfl | (simp only [List.length_drop, List.length_take]; rfl)) ?_; (with_reducible refine (laws_toTrie.calls k _ _ l0_0 t426 _ ?side1 ?side2 A10.out).mono ?_); (case side1 => repeat (first | exact (Kd.C_below HR0_0.out HB.out) | (with_reducible refine Kd.C_alloc ?_ _) | (with_reducible refine Kd.C_drewN ?_ _) | (with_reducible refine Kd.C_drew ?_))); (case side2 => exact HC0_0.out); rintro e w19 ⟨v427, rfl, ho0, hb⟩; refine ⟨_, rfl, ?_⟩; have n0_ := Aside0.mk (Kd.R_lower ho0 (below_size (by repeat (first | (with_reducible first | exact HB.out | apply below_alloc | apply pw_below_drewN | apply below_drew1 | refine below_set ?_ GE424.out) | exact HB.out)))); have n1_ := Aside0.mk (blk_below (g := gb424) (o := .cells #[.slice A0_0 l0_0.length c0_0] 24 (0, 0)) (by (with_reducible repeat (first | refine blk_drewN ?_ _ | refine blk_drew ?_ | refine blk_alloc ?_ _)); exact BK424.out) hb); have n2_ := Aside0.mk (below_step (by repeat (first | (with_reducible first | exact HB.out | apply below_alloc | apply pw_below_drewN | apply below_drew1 | refine below_set ?_ GE424.out) | exact HB.out)) hb); clear BK424; clear HB; have HO428 := n0_; have BK424 := n1_; have HB := n2_; clear n0_ n1_ n2_; (try clear hb); (try clear hb2); (try clear hk); (try clear hi); (try clear ho0); obtain ⟨Ao20, co20, eo20⟩ := Kd.R_slice HO428.out; subst eo20) | ((with_reducible refine gate_callee (f := 5) rfl ?_); refine goesL_ (some 23) rfl rfl Tryd.func5 (by kernel_rfl) rfl #[.agg #[.slice Ao20 t426.length co20], .string a1] rfl (by (try simp only [List.map_toArray, List.map_cons, List.map_nil]); first | done | rfl | (simp only [List.length_drop, List.length_take]; rfl)) ?_; (with_reducible refine (spec_ChanceOfDescent.calls k _ _ t426 a1 t429 t430 t431 _ ?side1 ?side2 A11.out).mono ?_); (case side1 => repeat (first | exact (Kd.R_reads' HO428.out).2.2 | (with_reducible refine Kd.C_alloc ?_ _) | (with_reducible refine Kd.C_drewN ?_ _) | (with_reducible refine Kd.C_drew ?_))); (case side2 => exact (Kd.R_reads' HO428.out).2.1); rintro e w21 ⟨rfl, hb⟩; refine ⟨_, rfl, ?_⟩; have n0_ := Aside0.mk (Kd.R_below (by (with_reducible repeat (first | apply Kd.R_alloc | apply Kd.R_drewN | apply Kd.R_drew)); exact HO428.out) hb); have n1_ := Aside0.mk (blk_below (g := gb424) (o := .cells #[.slice A0_0 l0_0.length c0_0] 24 (0, 0)) (by (with_reducible repeat (first | refine blk_drewN ?_ _ | refine blk_drew ?_ | refine blk_alloc ?_ _)); exact BK424.out) hb); have n2_ := Aside0.mk (below_step (by repeat (first | (with_reducible first | exact HB.out | apply below_alloc | apply pw_below_drewN | apply below_drew1 | refine below_set ?_ GE424.out) | exact HB.out)) hb); clear HO428; clear BK424; clear HB; have HO428 := n0_; have BK424 := n1_; have HB := n2_; clear n0_ n1_ n2_; (try clear hb); (try clear hb2); (try clear hk); (try clear hi)) | ((with_reducible refine gate_dst (N := 6) rfl ?_); refine box_event ?hg (N := 6) ?hd (cs := #[.int .i64 0, .int .i64 0]) (t := 26) ?hr ?_; (case hd => rfl); (case hg => rfl); (case hr => first | (go_simp; done) | (go_simp; rfl)); intro gb432 hg w22 hbox hb; have n0_ := Aside0.mk (Kd.R_below (by (with_reducible repeat (first | apply Kd.R_alloc | apply Kd.R_drewN | apply Kd.R_drew)); exact HO428.out) hb); have n1_ := Aside0.mk (blk_below (g := gb424) (o := .cells #[.slice A0_0 l0_0.length c0_0] 24 (0, 0)) (by (with_reducible repeat (first | refine blk_drewN ?_ _ | refine blk_drew ?_ | refine blk_alloc ?_ _)); exact BK424.out) hb); have n2_ := Aside0.mk (below_step (by repeat (first | (with_reducible first | exact HB.out | apply below_alloc | apply pw_below_drewN | apply below_drew1 | refine below_set ?_ GE424.out) | exact HB.out)) hb); have n3_ := Aside0.mk (hbox); have n4_ := Aside0.mk ((by rw [hg]; exact (below_size (by repeat (first | (with_reducible first | exact HB.out | apply below_alloc | apply pw_below_drewN | apply below_drew1 | refine below_set ?_ GE424.out) | exact HB.out))) : w.heap.size ≤ gb432)); have n5_ := Aside0.mk ((by rw [hg]; exact (below_size (by repeat (first | (with_reducible first | exact HB.out | apply below_alloc | apply pw_below_drewN | apply below_drew1 | refine below_set ?_ GE424.out) | exact HB.out))) : w.heap.size ≤ gb432)); have n6_ := Aside0.mk ((by rw [hg]; exact Nat.ne_of_lt (blk_lt (g := gb424) (o := .cells #[.slice A0_0 l0_0.length c0_0] 24 (0, 0)) (by (with_reducible repeat (first | refine blk_drewN ?_ _ | refine blk_drew ?_ | refine blk_alloc ?_ _)); exact BK424.out)) : gb424 ≠ gb432)); have n7_ := Aside0.mk ((by rw [hg]; exact Nat.ne_of_gt (blk_lt (g := gb424) (o := .cells #[.slice A0_0 l0_0.length c0_0] 24 (0, 0)) (by (with_reducible repeat (first | refine blk_drewN ?_ _ | refine blk_drew ?_ | refine blk_alloc ?_ _)); exact BK424.out)) : gb432 ≠ gb424)); clear HO428; clear BK424; clear HB; have HO428 := n0_; have BK424 := n1_; have HB := n2_; have BK432 := n3_; have GW432 := n4_; have GE432 := n5_; have NB424_432 := n6_; have NB432_424 := n7_; clear n0_ n1_ n2_ n3_ n4_ n5_ n6_ n7_; clear hb hbox hg; have hnb23 := NB432_424.out; have hnc23 := NB424_432.out; have hcz24_0 : w22.cell? ⟨gb432, 0, none⟩ = some (.int .i64 0) := (blk_cell BK432.out 0).trans rfl; have hcz24_1 : w22.cell? ⟨gb432, 1, none⟩ = some (.int .i64 0) := (blk_cell BK432.out 1).trans rfl; have hfz24_0 := blk_frozen BK432.out 0; have hfz24_1 := blk_frozen BK432.out 1; have hcz25_0 : w22.cell? ⟨gb424, 0, none⟩ = some (.slice A0_0 l0_0.length c0_0) := (blk_cell BK424.out 0).trans rfl; have hfz25_0 := blk_frozen BK424.out 0) | ((with_reducible refine gate_callee (f := 6) rfl ?_); refine goesL_ (some 27) rfl rfl Tryd.func6 (by kernel_rfl) rfl #[.agg #[.slice A0_0 l0_0.length c0_0]] rfl (by (try simp only [List.map_toArray, List.map_cons, List.map_nil]); first | done | rfl | (simp only [List.length_drop, List.length_take]; rfl)) ?_; (with_reducible refine (laws_toTrie.calls k _ _ l0_0 t433 _ ?side1 ?side2 A12.out).mono ?_); (case side1 => exact Kd.C_below HR0_0.out (by repeat (first | (with_reducible first | exact HB.out | apply below_alloc | apply pw_below_drewN | apply below_drew1 | refine below_set ?_ GE424.out | refine below_set ?_ GE432.out) | exact HB.out))); (case side2 => exact HC0_0.out); rintro e w26 ⟨v434, rfl, ho0, hb⟩; refine ⟨_, rfl, ?_⟩; have n0_ := Aside0.mk (Kd.R_elder' (by (with_reducible repeat (first | apply Kd.R_alloc | apply Kd.R_drewN | apply Kd.R_drew)); exact (Kd.R_mono (Kd.R_far (p := ⟨gb432, 1, none⟩) (Kd.R_far (p := ⟨gb432, 0, none⟩) (Kd.R_types HO428.out BK432.out (by decide)) (fun _ hk => hk.2) (.int .i64 t429)) (fun _ hk => hk.2) (.int .i64 t430)) (fun _ h_ => h_.1))) (Kd.R_base ho0) hb); have n1_ := Aside0.mk (Kd.R_lower (Kd.R_new' ho0 (Kd.R_lt (by (with_reducible repeat (first | apply Kd.R_alloc | apply Kd.R_drewN | apply Kd.R_drew)); exact (Kd.R_mono (Kd.R_far (p := ⟨gb432, 1, none⟩) (Kd.R_far (p := ⟨gb432, 0, none⟩) (Kd.R_types HO428.out BK432.out (by decide)) (fun _ hk => hk.2) (.int .i64 t429)) (fun _ hk => hk.2) (.int .i64 t430)) (fun _ h_ => h_.1))))) (below_size (by repeat (first | (with_reducible first | exact HB.out | apply below_alloc | apply pw_below_drewN | apply below_drew1 | refine below_set ?_ GE424.out | refine below_set ?_ GE432.out) | exact HB.out)))); have n2_ := Aside0.mk (blk_below (g := gb424) (o := .cells #[.slice A0_0 l0_0.length c0_0] 24 (0, 0)) (by (with_reducible repeat (first | refine blk_drewN ?_ _ | refine blk_drew ?_ | refine blk_alloc ?_ _)); refine blk_far ?_ NB424_432.out _; (with_reducible repeat (first | refine blk_drewN ?_ _ | refine blk_drew ?_ | refine blk_alloc ?_ _)); refine blk_far ?_ NB424_432.out _; (with_reducible repeat (first | refine blk_drewN ?_ _ | refine blk_drew ?_ | refine blk_alloc ?_ _)); exact BK424.out) hb); have n3_ := Aside0.mk (blk_below (g := gb432) (o := .cells #[.int .i64 t429, .int .i64 t430] 26 (0, 0)) (by (with_reducible repeat (first | refine blk_drewN ?_ _ | refine blk_drew ?_ | refine blk_alloc ?_ _)); refine blk_put (cs := #[.int .i64 t429, .int .i64 0]) ?_ 1 _ rfl; (with_reducible repeat (first | refine blk_drewN ?_ _ | refine blk_drew ?_ | refine blk_alloc ?_ _)); refine blk_put (cs := #[.int .i64 0, .int .i64 0]) ?_ 0 _ rfl; (with_reducible repeat (first | refine blk_drewN ?_ _ | refine blk_drew ?_ | refine blk_alloc ?_ _)); exact BK432.out) hb); have n4_ := Aside0.mk (below_step (by repeat (first | (with_reducible first | exact HB.out | apply below_alloc | apply pw_below_drewN | apply below_drew1 | refine below_set ?_ GE424.out | refine below_set ?_ GE432.out) | exact HB.out)) hb); clear HO428; clear BK424; clear BK432; clear HB; have HO428 := n0_; have HO435 := n1_; have BK424 := n2_; have BK432 := n3_; have HB := n4_; clear n0_ n1_ n2_ n3_ n4_; (try clear hb); (try clear hb2); (try clear hk); (try clear hi); (try clear ho0)) | ((with_reducible refine gate_dst (N := 8) rfl ?_); refine box_event ?hg (N := 8) ?hd (cs := #[.slice none 0 0]) (t := 31) ?hr ?_; (case hd => rfl); (case hg => rfl); (case hr => first | (go_simp; done) | (go_simp; rfl)); intro gb436 hg w27 hbox hb; have n0_ := Aside0.mk (Kd.R_below (by (with_reducible repeat (first | apply Kd.R_alloc | apply Kd.R_drewN | apply Kd.R_drew)); exact HO428.out) hb); have n1_ := Aside0.mk (Kd.R_below (by (with_reducible repeat (first | apply Kd.R_alloc | apply Kd.R_drewN | apply Kd.R_drew)); exact HO435.out) hb); have n2_ := Aside0.mk (blk_below (g := gb424) (o := .cells #[.slice A0_0 l0_0.length c0_0] 24 (0, 0)) (by (with_reducible repeat (first | refine blk_drewN ?_ _ | refine blk_drew ?_ | refine blk_alloc ?_ _)); exact BK424.out) hb); have n3_ := Aside0.mk (blk_below (g := gb432) (o := .cells #[.int .i64 t429, .int .i64 t430] 26 (0, 0)) (by (with_reducible repeat (first | refine blk_drewN ?_ _ | refine blk_drew ?_ | refine blk_alloc ?_ _)); exact BK432.out) hb); have n4_ := Aside0.mk (below_step (by repeat (first | (with_reducible first | exact HB.out | apply below_alloc | apply pw_below_drewN | apply below_drew1 | refine below_set ?_ GE424.out | refine below_set ?_ GE432.out) | exact HB.out)) hb); have n5_ := Aside0.mk (hbox); have n6_ := Aside0.mk ((by rw [hg]; exact (below_size (by repeat (first | (with_reducible first | exact HB.out | apply below_alloc | apply pw_below_drewN | apply below_drew1 | refine below_set ?_ GE424.out | refine below_set ?_ GE432.out) | exact HB.out))) : w.heap.size ≤ gb436)); have n7_ := Aside0.mk ((by rw [hg]; exact (below_size (by repeat (first | (with_reducible first | exact HB.out | apply below_alloc | apply pw_below_drewN | apply below_drew1 | refine below_set ?_ GE424.out | refine below_set ?_ GE432.out) | exact HB.out))) : w.heap.size ≤ gb436)); have n8_ := Aside0.mk ((by rw [hg]; exact Nat.ne_of_lt (blk_lt (g := gb424) (o := .cells #[.slice A0_0 l0_0.length c0_0] 24 (0, 0)) (by (with_reducible repeat (first | refine blk_drewN ?_ _ | refine blk_drew ?_ | refine blk_alloc ?_ _)); exact BK424.out)) : gb424 ≠ gb436)); have n9_ := Aside0.mk ((by rw [hg]; exact Nat.ne_of_gt (blk_lt (g := gb424) (o := .cells #[.slice A0_0 l0_0.length c0_0] 24 (0, 0)) (by (with_reducible repeat (first | refine blk_drewN ?_ _ | refine blk_drew ?_ | refine blk_alloc ?_ _)); exact BK424.out)) : gb436 ≠ gb424)); have n10_ := Aside0.mk ((by rw [hg]; exact Nat.ne_of_lt (blk_lt (g := gb432) (o := .cells #[.int .i64 t429, .int .i64 t430] 26 (0, 0)) (by (with_reducible repeat (first | refine blk_drewN ?_ _ | refine blk_drew ?_ | refine blk_alloc ?_ _)); exact BK432.out)) : gb432 ≠ gb436)); have n11_ := Aside0.mk ((by rw [hg]; exact Nat.ne_of_gt (blk_lt (g := gb432) (o := .cells #[.int .i64 t429, .int .i64 t430] 26 (0, 0)) (by (with_reducible repeat (first | refine blk_drewN ?_ _ | refine blk_drew ?_ | refine blk_alloc ?_ _)); exact BK432.out)) : gb436 ≠ gb432)); clear HO428; clear HO435; clear BK424; clear BK432; clear HB; have HO428 := n0_; have HO435 := n1_; have BK424 := n2_; have BK432 := n3_; have HB := n4_; have BK436 := n5_; have GW436 := n6_; have GE436 := n7_; have NB424_436 := n8_; have NB436_424 := n9_; have NB432_436 := n10_; have NB436_432 := n11_; clear n0_ n1_ n2_ n3_ n4_ n5_ n6_ n7_ n8_ n9_ n10_ n11_; clear hb hbox hg; obtain ⟨Ao28, co28, eo28⟩ := Kd.R_slice HO435.out; subst eo28; have hnb29 := NB436_424.out; have hnc29 := NB424_436.out; have hnb30 := NB436_432.out; have hnc30 := NB432_436.out; have hcz31_0 : w27.cell? ⟨gb436, 0, none⟩ = some (.slice none 0 0) := (blk_cell BK436.out 0).trans rfl; have hfz31_0 := blk_frozen BK436.out 0) | ((with_reducible refine gate_callee (f := 7) rfl ?_); refine goesL_ (some 31) rfl rfl Tryd.func7 (by kernel_rfl) rfl #[.agg #[.slice Ao28 t433.length co28], .string a1] rfl (by (try simp only [List.map_toArray, List.map_cons, List.map_nil]); first | done | rfl | (simp only [List.length_drop, List.length_take]; rfl)) ?_; (with_reducible refine (impl_ChanceOfDescent.calls k _ _ t433 a1 t437 t438 t439 _ ?side1 ?side2 A13.out).mono ?_); (case side1 => refine (Kd.R_reads' (e := 50) (base := w.heap.size) (ok := fun k_ => (True ∧ some k_ ≠ (.slice Ao20 t426.length co20 : Value).ownBlock)) (n := t433.length) (c := co28) ?_).2.2; exact (by (with_reducible repeat (first | apply Kd.R_alloc | apply Kd.R_drewN | apply Kd.R_drew)); exact (Kd.R_mono (Kd.R_far (p := ⟨gb436, 0, none⟩) (Kd.R_types HO435.out BK436.out (by decide)) (fun _ hk => hk.2) (.slice Ao28 t433.length co28)) (fun _ h_ => h_.1)))); (case side2 => exact (Kd.R_reads' HO435.out).2.1); rintro e w32 ⟨rfl, hb⟩; refine ⟨_, rfl, ?_⟩; have n0_ := Aside0.mk (Kd.R_below (by (with_reducible repeat (first | apply Kd.R_alloc | apply Kd.R_drewN | apply Kd.R_drew)); exact (Kd.R_mono (Kd.R_far (p := ⟨gb436, 0, none⟩) (Kd.R_types HO428.out BK436.out (by decide)) (fun _ hk => hk.2) (.slice Ao28 t433.length co28)) (fun _ h_ => h_.1))) hb); have n1_ := Aside0.mk (Kd.R_below (by (with_reducible repeat (first | apply Kd.R_alloc | apply Kd.R_drewN | apply Kd.R_drew)); exact (Kd.R_mono (Kd.R_far (p := ⟨gb436, 0, none⟩) (Kd.R_types HO435.out BK436.out (by decide)) (fun _ hk => hk.2) (.slice Ao28 t433.length co28)) (fun _ h_ => h_.1))) hb); have n2_ := Aside0.mk (blk_below (g := gb424) (o := .cells #[.slice A0_0 l0_0.length c0_0] 24 (0, 0)) (by (with_reducible repeat (first | refine blk_drewN ?_ _ | refine blk_drew ?_ | refine blk_alloc ?_ _)); refine blk_far ?_ NB424_436.out _; (with_reducible repeat (first | refine blk_drewN ?_ _ | refine blk_drew ?_ | refine blk_alloc ?_ _)); exact BK424.out) hb); have n3_ := Aside0.mk (blk_below (g := gb432) (o := .cells #[.int .i64 t429, .int .i64 t430] 26 (0, 0)) (by (with_reducible repeat (first | refine blk_drewN ?_ _ | refine blk_drew ?_ | refine blk_alloc ?_ _)); refine blk_far ?_ NB432_436.out _; (with_reducible repeat (first | refine blk_drewN ?_ _ | refine blk_drew ?_ | refine blk_alloc ?_ _)); exact BK432.out) hb); have n4_ := Aside0.mk (blk_below (g := gb436) (o := .cells #[.slice Ao28 t433.length co28] 31 (0, 0)) (by (with_reducible repeat (first | refine blk_drewN ?_ _ | refine blk_drew ?_ | refine blk_alloc ?_ _)); refine blk_put (cs := #[.slice none 0 0]) ?_ 0 _ rfl; (with_reducible repeat (first | refine blk_drewN ?_ _ | refine blk_drew ?_ | refine blk_alloc ?_ _)); exact BK436.out) hb); have n5_ := Aside0.mk (below_step (by repeat (first | (with_reducible first | exact HB.out | apply below_alloc | apply pw_below_drewN | apply below_drew1 | refine below_set ?_ GE424.out | refine below_set ?_ GE432.out | refine below_set ?_ GE436.out) | exact HB.out)) hb); clear HO428; clear HO435; clear BK424; clear BK432; clear BK436; clear HB; have HO428 := n0_; have HO435 := n1_; have BK424 := n2_; have BK432 := n3_; have BK436 := n4_; have HB := n5_; clear n0_ n1_ n2_ n3_ n4_ n5_; (try clear hb); (try clear hb2); (try clear hk); (try clear hi)) | ((with_reducible refine gate_dst (N := 9) rfl ?_); refine box_event ?hg (N := 9) ?hd (cs := #[.int .i64 0, .int .i64 0]) (t := 26) ?hr ?_; (case hd => rfl); (case hg => rfl); (case hr => first | (go_simp; done) | (go_simp; rfl)); intro gb440 hg w33 hbox hb; have n0_ := Aside0.mk (Kd.R_below (by (with_reducible repeat (first | apply Kd.R_alloc | apply Kd.R_drewN | apply Kd.R_drew)); exact HO428.out) hb); have n1_ := Aside0.mk (Kd.R_below (by (with_reducible repeat (first | apply Kd.R_alloc | apply Kd.R_drewN | apply Kd.R_drew)); exact HO435.out) hb); have n2_ := Aside0.mk (blk_below (g := gb424) (o := .cells #[.slice A0_0 l0_0.length c0_0] 24 (0, 0)) (by (with_reducible repeat (first | refine blk_drewN ?_ _ | refine blk_drew ?_ | refine blk_alloc ?_ _)); exact BK424.out) hb); have n3_ := Aside0.mk (blk_below (g := gb432) (o := .cells #[.int .i64 t429, .int .i64 t430] 26 (0, 0)) (by (with_reducible repeat (first | refine blk_drewN ?_ _ | refine blk_drew ?_ | refine blk_alloc ?_ _)); exact BK432.out) hb); have n4_ := Aside0.mk (blk_below (g := gb436) (o := .cells #[.slice Ao28 t433.length co28] 31 (0, 0)) (by (with_reducible repeat (first | refine blk_drewN ?_ _ | refine blk_drew ?_ | refine blk_alloc ?_ _)); exact BK436.out) hb); have n5_ := Aside0.mk (below_step (by repeat (first | (with_reducible first | exact HB.out | apply below_alloc | apply pw_below_drewN | apply below_drew1 | refine below_set ?_ GE424.out | refine below_set ?_ GE432.out | refine below_set ?_ GE436.out) | exact HB.out)) hb); have n6_ := Aside0.mk (hbox); have n7_ := Aside0.mk ((by rw [hg]; exact (below_size (by repeat (first | (with_reducible first | exact HB.out | apply below_alloc | apply pw_below_drewN | apply below_drew1 | refine below_set ?_ GE424.out | refine below_set ?_ GE432.out | refine below_set ?_ GE436.out) | exact HB.out))) : w.heap.size ≤ gb440)); have n8_ := Aside0.mk ((by rw [hg]; exact (below_size (by repeat (first | (with_reducible first | exact HB.out | apply below_alloc | apply pw_below_drewN | apply below_drew1 | refine below_set ?_ GE424.out | refine below_set ?_ GE432.out | refine below_set ?_ GE436.out) | exact HB.out))) : w.heap.size ≤ gb440)); have n9_ := Aside0.mk ((by rw [hg]; exact Nat.ne_of_lt (blk_lt (g := gb424) (o := .cells #[.slice A0_0 l0_0.length c0_0] 24 (0, 0)) (by (with_reducible repeat (first | refine blk_drewN ?_ _ | refine blk_drew ?_ | refine blk_alloc ?_ _)); exact BK424.out)) : gb424 ≠ gb440)); have n10_ := Aside0.mk ((by rw [hg]; exact Nat.ne_of_gt (blk_lt (g := gb424) (o := .cells #[.slice A0_0 l0_0.length c0_0] 24 (0, 0)) (by (with_reducible repeat (first | refine blk_drewN ?_ _ | refine blk_drew ?_ | refine blk_alloc ?_ _)); exact BK424.out)) : gb440 ≠ gb424)); have n11_ := Aside0.mk ((by rw [hg]; exact Nat.ne_of_lt (blk_lt (g := gb432) (o := .cells #[.int .i64 t429, .int .i64 t430] 26 (0, 0)) (by (with_reducible repeat (first | refine blk_drewN ?_ _ | refine blk_drew ?_ | refine blk_alloc ?_ _)); exact BK432.out)) : gb432 ≠ gb440)); have n12_ := Aside0.mk ((by rw [hg]; exact Nat.ne_of_gt (blk_lt (g := gb432) (o := .cells #[.int .i64 t429, .int .i64 t430] 26 (0, 0)) (by (with_reducible repeat (first | refine blk_drewN ?_ _ | refine blk_drew ?_ | refine blk_alloc ?_ _)); exact BK432.out)) : gb440 ≠ gb432)); have n13_ := Aside0.mk ((by rw [hg]; exact Nat.ne_of_lt (blk_lt (g := gb436) (o := .cells #[.slice Ao28 t433.length co28] 31 (0, 0)) (by (with_reducible repeat (first | refine blk_drewN ?_ _ | refine blk_drew ?_ | refine blk_alloc ?_ _)); exact BK436.out)) : gb436 ≠ gb440)); have n14_ := Aside0.mk ((by rw [hg]; exact Nat.ne_of_gt (blk_lt (g := gb436) (o := .cells #[.slice Ao28 t433.length co28] 31 (0, 0)) (by (with_reducible repeat (first | refine blk_drewN ?_ _ | refine blk_drew ?_ | refine blk_alloc ?_ _)); exact BK436.out)) : gb440 ≠ gb436)); clear HO428; clear HO435; clear BK424; clear BK432; clear BK436; clear HB; have HO428 := n0_; have HO435 := n1_; have BK424 := n2_; have BK432 := n3_; have BK436 := n4_; have HB := n5_; have BK440 := n6_; have GW440 := n7_; have GE440 := n8_; have NB424_440 := n9_; have NB440_424 := n10_; have NB432_440 := n11_; have NB440_432 := n12_; have NB436_440 := n13_; have NB440_436 := n14_; clear n0_ n1_ n2_ n3_ n4_ n5_ n6_ n7_ n8_ n9_ n10_ n11_ n12_ n13_ n14_; clear hb hbox hg; have hnb34 := NB440_424.out; have hnc34 := NB424_440.out; have hnb35 := NB440_432.out; have hnc35 := NB432_440.out; have hnb36 := NB440_436.out; have hnc36 := NB436_440.out; have hcz37_0 : w33.cell? ⟨gb440, 0, none⟩ = some (.int .i64 0) := (blk_cell BK440.out 0).trans rfl; have hcz37_1 : w33.cell? ⟨gb440, 1, none⟩ = some (.int .i64 0) := (blk_cell BK440.out 1).trans rfl; have hfz37_0 := blk_frozen BK440.out 0; have hfz37_1 := blk_frozen BK440.out 1))
   (try simp only [Act.put, List.setIfInBounds_toArray, List.set_cons_zero, List.set_cons_succ])
   go_cut [42] (fun v42 wc => ∃ (kq : Nat) (x42_13 : Bool), v42 = .bool x42_13 ∧ Aside0 (laws_FnExactChanceOfDescent.j0 kq x42_13 l0_0 t433 = some r) ∧ Aside0 (kq ≤ k) ∧ Aside0 (Kd.R k50 50 wc w.heap.size (fun _ => True) (.slice Ao28 t433.length co28) t433) ∧ Aside0 (wc.heap[gb424]? = some (.cells #[(.slice A0_0 l0_0.length c0_0)] 24 (0, 0))) ∧ Aside0 (wc.heap[gb432]? = some (.cells #[.int .i64 t429, .int .i64 t430] 26 (0, 0))) ∧ Aside0 (wc.heap[gb436]? = some (.cells #[(.slice Ao28 t433.length co28)] 31 (0, 0))) ∧ Aside0 (wc.heap[gb440]? = some (.cells #[.int .i64 t437, .int .i64 t438] 26 (0, 0))) ∧ Aside0 (Below w.heap.size w wc))
   case first =>
    have H := HC14.out
    clear HC14
    replace H := Option.bind_eq_some_iff.mp H
    obtain ⟨t441, A380, H⟩ := H
    replace H : (if t441 = true then (laws_FnExactChanceOfDescent.j0 k (t439 != t431) l0_0 t433) else (laws_FnExactChanceOfDescent.j0 k true l0_0 t433)) = some r := H
    have A38 := Aside0.mk A380
    clear A380
    by_cases c39 : t441 = true
    ·
     subst c39
     have H1 : (laws_FnExactChanceOfDescent.j0 k (t439 != t431) l0_0 t433) = some r := by rw [if_pos rfl] at H; exact H
     clear H
     have H := H1
     clear H1
     have H' := Aside0.mk H
     clear H
     have hnb40 := NB440_424.out
     have hnc40 := NB424_440.out
     have hnb41 := NB440_432.out
     have hnc41 := NB432_440.out
     have hnb42 := NB440_436.out
     have hnc42 := NB436_440.out
     have hcz43_0 : w33.cell? ⟨gb440, 0, none⟩ = some (.int .i64 0) := (blk_cell BK440.out 0).trans rfl
     have hcz43_1 : w33.cell? ⟨gb440, 1, none⟩ = some (.int .i64 0) := (blk_cell BK440.out 1).trans rfl
     have hfz43_0 := blk_frozen BK440.out 0
     have hfz43_1 := blk_frozen BK440.out 1
     have hnb44 := NB432_424.out
     have hnc44 := NB424_432.out
     have hnb45 := NB432_436.out
     have hnc45 := NB436_432.out
     have hcz46_0 : w33.cell? ⟨gb432, 0, none⟩ = some (.int .i64 t429) := (blk_cell BK432.out 0).trans rfl
     have hcz46_1 : w33.cell? ⟨gb432, 1, none⟩ = some (.int .i64 t430) := (blk_cell BK432.out 1).trans rfl
     have hfz46_0 := blk_frozen BK432.out 0
     have hfz46_1 := blk_frozen BK432.out 1
     go_wp2_with (first | ((with_reducible refine gate_callee (f := 8) rfl ?_); refine goesL_ (some 36) rfl rfl Tryd.func8 (by kernel_rfl) rfl #[.agg #[.int .i64 t437, .int .i64 t438], .agg #[.int .i64 t429, .int .i64 t430]] rfl (by (try simp only [List.map_toArray, List.map_cons, List.map_nil]); first | done | rfl | (simp only [List.length_drop, List.length_take]; rfl)) ?_; (with_reducible refine (laws_eqIntA2.calls t437 t438 t429 t430 true _ A38.out).mono ?_); rintro e w47 ⟨rfl, hb⟩; refine ⟨_, rfl, ?_⟩; have n0_ := Aside0.mk (Kd.R_below (by (with_reducible repeat (first | apply Kd.R_alloc | apply Kd.R_drewN | apply Kd.R_drew)); exact (Kd.R_mono (Kd.R_far (p := ⟨gb440, 1, none⟩) (Kd.R_far (p := ⟨gb440, 0, none⟩) (Kd.R_types HO428.out BK440.out (by decide)) (fun _ hk => hk.2) (.int .i64 t437)) (fun _ hk => hk.2) (.int .i64 t438)) (fun _ h_ => h_.1))) hb); have n1_ := Aside0.mk (Kd.R_below (by (with_reducible repeat (first | apply Kd.R_alloc | apply Kd.R_drewN | apply Kd.R_drew)); exact (Kd.R_mono (Kd.R_far (p := ⟨gb440, 1, none⟩) (Kd.R_far (p := ⟨gb440, 0, none⟩) (Kd.R_types HO435.out BK440.out (by decide)) (fun _ hk => hk.2) (.int .i64 t437)) (fun _ hk => hk.2) (.int .i64 t438)) (fun _ h_ => h_.1))) hb); have n2_ := Aside0.mk (blk_below (g := gb424) (o := .cells #[.slice A0_0 l0_0.length c0_0] 24 (0, 0)) (by (with_reducible repeat (first | refine blk_drewN ?_ _ | refine blk_drew ?_ | refine blk_alloc ?_ _)); refine blk_far ?_ NB424_440.out _; (with_reducible repeat (first | refine blk_drewN ?_ _ | refine blk_drew ?_ | refine blk_alloc ?_ _)); refine blk_far ?_ NB424_440.out _; (with_reducible repeat (first | refine blk_drewN ?_ _ | refine blk_drew ?_ | refine blk_alloc ?_ _)); exact BK424.out) hb); have n3_ := Aside0.mk (blk_below (g := gb432) (o := .cells #[.int .i64 t429, .int .i64 t430] 26 (0, 0)) (by (with_reducible repeat (first | refine blk_drewN ?_ _ | refine blk_drew ?_ | refine blk_alloc ?_ _)); refine blk_far ?_ NB432_440.out _; (with_reducible repeat (first | refine blk_drewN ?_ _ | refine blk_drew ?_ | refine blk_alloc ?_ _)); refine blk_far ?_ NB432_440.out _; (with_reducible repeat (first | refine blk_drewN ?_ _ | refine blk_drew ?_ | refine blk_alloc ?_ _)); exact BK432.out) hb); have n4_ := Aside0.mk (blk_below (g := gb436) (o := .cells #[.slice Ao28 t433.length co28] 31 (0, 0)) (by (with_reducible repeat (first | refine blk_drewN ?_ _ | refine blk_drew ?_ | refine blk_alloc ?_ _)); refine blk_far ?_ NB436_440.out _; (with_reducible repeat (first | refine blk_drewN ?_ _ | refine blk_drew ?_ | refine blk_alloc ?_ _)); refine blk_far ?_ NB436_440.out _; (with_reducible repeat (first | refine blk_drewN ?_ _ | refine blk_drew ?_ | refine blk_alloc ?_ _)); exact BK436.out) hb); have n5_ := Aside0.mk (blk_below (g := gb440) (o := .cells #[.int .i64 t437, .int .i64 t438] 26 (0, 0)) (by (with_reducible repeat (first | refine blk_drewN ?_ _ | refine blk_drew ?_ | refine blk_alloc ?_ _)); refine blk_put (cs := #[.int .i64 t437, .int .i64 0]) ?_ 1 _ rfl; (with_reducible repeat (first | refine blk_drewN ?_ _ | refine blk_drew ?_ | refine blk_alloc ?_ _)); refine blk_put (cs := #[.int .i64 0, .int .i64 0]) ?_ 0 _ rfl; (with_reducible repeat (first | refine blk_drewN ?_ _ | refine blk_drew ?_ | refine blk_alloc ?_ _)); exact BK440.out) hb); have n6_ := Aside0.mk (below_step (by repeat (first | (with_reducible first | exact HB.out | apply below_alloc | apply pw_below_drewN | apply below_drew1 | refine below_set ?_ GE424.out | refine below_set ?_ GE432.out | refine below_set ?_ GE436.out | refine below_set ?_ GE440.out) | exact HB.out)) hb); clear HO428; clear HO435; clear BK424; clear BK432; clear BK436; clear BK440; clear HB; have HO428 := n0_; have HO435 := n1_; have BK424 := n2_; have BK432 := n3_; have BK436 := n4_; have BK440 := n5_; have HB := n6_; clear n0_ n1_ n2_ n3_ n4_ n5_ n6_; (try clear hb); (try clear hb2); (try clear hk); (try clear hi)))
     go_meet
     case rel => exact ⟨_, ((t439 != t431)), (by first | rfl | (simp; done) | (simp [*]; done)), H', ⟨by first | omega | exact Nat.le_refl _⟩, ⟨by (with_reducible repeat (first | apply Kd.R_alloc | apply Kd.R_drewN | apply Kd.R_drew)); exact Kd.R_mono HO435.out (fun _ hk => trivial)⟩, ⟨by (with_reducible repeat (first | refine blk_drewN ?_ _ | refine blk_drew ?_ | refine blk_alloc ?_ _)); exact BK424.out⟩, ⟨by (with_reducible repeat (first | refine blk_drewN ?_ _ | refine blk_drew ?_ | refine blk_alloc ?_ _)); exact BK432.out⟩, ⟨by (with_reducible repeat (first | refine blk_drewN ?_ _ | refine blk_drew ?_ | refine blk_alloc ?_ _)); exact BK436.out⟩, ⟨by (with_reducible repeat (first | refine blk_drewN ?_ _ | refine blk_drew ?_ | refine blk_alloc ?_ _)); exact BK440.out⟩, ⟨by repeat (first | (with_reducible first | exact HB.out | apply below_alloc | apply pw_below_drewN | apply below_drew1 | refine below_set ?_ GE424.out | refine below_set ?_ GE432.out | refine below_set ?_ GE436.out | refine below_set ?_ GE440.out) | exact HB.out)⟩⟩
    ·
     replace c39 := Bool.eq_false_iff.mpr c39
     subst c39
     have H1 : (laws_FnExactChanceOfDescent.j0 k true l0_0 t433) = some r := by rw [if_neg (show ¬ (false = true) by decide)] at H; exact H
     clear H
     have H := H1
     clear H1
     have H' := Aside0.mk H
     clear H
     have hnb48 := NB440_424.out
     have hnc48 := NB424_440.out
     have hnb49 := NB440_432.out
     have hnc49 := NB432_440.out
     have hnb50 := NB440_436.out
     have hnc50 := NB436_440.out
     have hcz51_0 : w33.cell? ⟨gb440, 0, none⟩ = some (.int .i64 0) := (blk_cell BK440.out 0).trans rfl
     have hcz51_1 : w33.cell? ⟨gb440, 1, none⟩ = some (.int .i64 0) := (blk_cell BK440.out 1).trans rfl
     have hfz51_0 := blk_frozen BK440.out 0
     have hfz51_1 := blk_frozen BK440.out 1
     have hnb52 := NB432_424.out
     have hnc52 := NB424_432.out
     have hnb53 := NB432_436.out
     have hnc53 := NB436_432.out
     have hcz54_0 : w33.cell? ⟨gb432, 0, none⟩ = some (.int .i64 t429) := (blk_cell BK432.out 0).trans rfl
     have hcz54_1 : w33.cell? ⟨gb432, 1, none⟩ = some (.int .i64 t430) := (blk_cell BK432.out 1).trans rfl
     have hfz54_0 := blk_frozen BK432.out 0
     have hfz54_1 := blk_frozen BK432.out 1
     go_wp2_with (first | ((with_reducible refine gate_callee (f := 8) rfl ?_); refine goesL_ (some 36) rfl rfl Tryd.func8 (by kernel_rfl) rfl #[.agg #[.int .i64 t437, .int .i64 t438], .agg #[.int .i64 t429, .int .i64 t430]] rfl (by (try simp only [List.map_toArray, List.map_cons, List.map_nil]); first | done | rfl | (simp only [List.length_drop, List.length_take]; rfl)) ?_; (with_reducible refine (laws_eqIntA2.calls t437 t438 t429 t430 false _ A38.out).mono ?_); rintro e w55 ⟨rfl, hb⟩; refine ⟨_, rfl, ?_⟩; have n0_ := Aside0.mk (Kd.R_below (by (with_reducible repeat (first | apply Kd.R_alloc | apply Kd.R_drewN | apply Kd.R_drew)); exact (Kd.R_mono (Kd.R_far (p := ⟨gb440, 1, none⟩) (Kd.R_far (p := ⟨gb440, 0, none⟩) (Kd.R_types HO428.out BK440.out (by decide)) (fun _ hk => hk.2) (.int .i64 t437)) (fun _ hk => hk.2) (.int .i64 t438)) (fun _ h_ => h_.1))) hb); have n1_ := Aside0.mk (Kd.R_below (by (with_reducible repeat (first | apply Kd.R_alloc | apply Kd.R_drewN | apply Kd.R_drew)); exact (Kd.R_mono (Kd.R_far (p := ⟨gb440, 1, none⟩) (Kd.R_far (p := ⟨gb440, 0, none⟩) (Kd.R_types HO435.out BK440.out (by decide)) (fun _ hk => hk.2) (.int .i64 t437)) (fun _ hk => hk.2) (.int .i64 t438)) (fun _ h_ => h_.1))) hb); have n2_ := Aside0.mk (blk_below (g := gb424) (o := .cells #[.slice A0_0 l0_0.length c0_0] 24 (0, 0)) (by (with_reducible repeat (first | refine blk_drewN ?_ _ | refine blk_drew ?_ | refine blk_alloc ?_ _)); refine blk_far ?_ NB424_440.out _; (with_reducible repeat (first | refine blk_drewN ?_ _ | refine blk_drew ?_ | refine blk_alloc ?_ _)); refine blk_far ?_ NB424_440.out _; (with_reducible repeat (first | refine blk_drewN ?_ _ | refine blk_drew ?_ | refine blk_alloc ?_ _)); exact BK424.out) hb); have n3_ := Aside0.mk (blk_below (g := gb432) (o := .cells #[.int .i64 t429, .int .i64 t430] 26 (0, 0)) (by (with_reducible repeat (first | refine blk_drewN ?_ _ | refine blk_drew ?_ | refine blk_alloc ?_ _)); refine blk_far ?_ NB432_440.out _; (with_reducible repeat (first | refine blk_drewN ?_ _ | refine blk_drew ?_ | refine blk_alloc ?_ _)); refine blk_far ?_ NB432_440.out _; (with_reducible repeat (first | refine blk_drewN ?_ _ | refine blk_drew ?_ | refine blk_alloc ?_ _)); exact BK432.out) hb); have n4_ := Aside0.mk (blk_below (g := gb436) (o := .cells #[.slice Ao28 t433.length co28] 31 (0, 0)) (by (with_reducible repeat (first | refine blk_drewN ?_ _ | refine blk_drew ?_ | refine blk_alloc ?_ _)); refine blk_far ?_ NB436_440.out _; (with_reducible repeat (first | refine blk_drewN ?_ _ | refine blk_drew ?_ | refine blk_alloc ?_ _)); refine blk_far ?_ NB436_440.out _; (with_reducible repeat (first | refine blk_drewN ?_ _ | refine blk_drew ?_ | refine blk_alloc ?_ _)); exact BK436.out) hb); have n5_ := Aside0.mk (blk_below (g := gb440) (o := .cells #[.int .i64 t437, .int .i64 t438] 26 (0, 0)) (by (with_reducible repeat (first | refine blk_drewN ?_ _ | refine blk_drew ?_ | refine blk_alloc ?_ _)); refine blk_put (cs := #[.int .i64 t437, .int .i64 0]) ?_ 1 _ rfl; (with_reducible repeat (first | refine blk_drewN ?_ _ | refine blk_drew ?_ | refine blk_alloc ?_ _)); refine blk_put (cs := #[.int .i64 0, .int .i64 0]) ?_ 0 _ rfl; (with_reducible repeat (first | refine blk_drewN ?_ _ | refine blk_drew ?_ | refine blk_alloc ?_ _)); exact BK440.out) hb); have n6_ := Aside0.mk (below_step (by repeat (first | (with_reducible first | exact HB.out | apply below_alloc | apply pw_below_drewN | apply below_drew1 | refine below_set ?_ GE424.out | refine below_set ?_ GE432.out | refine below_set ?_ GE436.out | refine below_set ?_ GE440.out) | exact HB.out)) hb); clear HO428; clear HO435; clear BK424; clear BK432; clear BK436; clear BK440; clear HB; have HO428 := n0_; have HO435 := n1_; have BK424 := n2_; have BK432 := n3_; have BK436 := n4_; have BK440 := n5_; have HB := n6_; clear n0_ n1_ n2_ n3_ n4_ n5_ n6_; (try clear hb); (try clear hb2); (try clear hk); (try clear hi)))
     go_meet
     case rel => exact ⟨_, (true), (by first | rfl | (simp; done) | (simp [*]; done)), H', ⟨by first | omega | exact Nat.le_refl _⟩, ⟨by (with_reducible repeat (first | apply Kd.R_alloc | apply Kd.R_drewN | apply Kd.R_drew)); exact Kd.R_mono HO435.out (fun _ hk => trivial)⟩, ⟨by (with_reducible repeat (first | refine blk_drewN ?_ _ | refine blk_drew ?_ | refine blk_alloc ?_ _)); exact BK424.out⟩, ⟨by (with_reducible repeat (first | refine blk_drewN ?_ _ | refine blk_drew ?_ | refine blk_alloc ?_ _)); exact BK432.out⟩, ⟨by (with_reducible repeat (first | refine blk_drewN ?_ _ | refine blk_drew ?_ | refine blk_alloc ?_ _)); exact BK436.out⟩, ⟨by (with_reducible repeat (first | refine blk_drewN ?_ _ | refine blk_drew ?_ | refine blk_alloc ?_ _)); exact BK440.out⟩, ⟨by repeat (first | (with_reducible first | exact HB.out | apply below_alloc | apply pw_below_drewN | apply below_drew1 | refine below_set ?_ GE424.out | refine below_set ?_ GE432.out | refine below_set ?_ GE436.out | refine below_set ?_ GE440.out) | exact HB.out)⟩⟩
   case rest =>
    clear HC14
    try clear c2
    try clear p2
    try clear c3
    try clear c3b0
    try clear c3b1
    try clear c4
    try clear c5
    try clear c6
    try clear c6b0
    try clear c7
    try clear c8
    try clear c23
    try clear c29
    try clear c30
    try clear c34
    try clear c35
    try clear c36
    try clear c39
    try clear c40
    try clear c41
    try clear c42
    try clear c44
    try clear c45
    try clear c48
    try clear c49
    try clear c50
    try clear c52
    try clear c53
    try clear hcz16_0
    try clear hcz18_0
    try clear hcz24_0
    try clear hcz24_1
    try clear hcz25_0
    try clear hcz31_0
    try clear hcz37_0
    try clear hcz37_1
    try clear hcz43_0
    try clear hcz43_1
    try clear hcz46_0
    try clear hcz46_1
    try clear hcz51_0
    try clear hcz51_1
    try clear hcz54_0
    try clear hcz54_1
    try clear hcz8_0
    try clear hfz16_0
    try clear hfz18_0
    try clear hfz24_0
    try clear hfz24_1
    try clear hfz25_0
    try clear hfz31_0
    try clear hfz37_0
    try clear hfz37_1
    try clear hfz43_0
    try clear hfz43_1
    try clear hfz46_0
    try clear hfz46_1
    try clear hfz51_0
    try clear hfz51_1
    try clear hfz54_0
    try clear hfz54_1
    try clear hfz8_0
    obtain ⟨kq, x42_13, rfl, HA, HJ13, HO_437000, BK424, BK432, BK436, BK440, HB⟩ := hcut
    cases kq with
    | zero => exact absurd HA.out (by simp [laws_FnExactChanceOfDescent.j0])
    | succ kj13 =>
     have H := HA.out
     clear HA
     simp only [laws_FnExactChanceOfDescent.j0] at H
     by_cases c56 : x42_13 = true
     ·
      subst c56
      have H1 : (some false) = some r := by rw [if_pos rfl] at H; exact H
      clear H
      have H := H1
      clear H1
      obtain rfl := Option.some.inj H
      go_wp2
      go_ret
      exact ⟨by first | rfl | (simp [errW_none, errW_some] <;> rfl) | (simp [*, errW_none, errW_some] <;> rfl), by repeat (first | (with_reducible first | exact HB.out | apply below_alloc | apply pw_below_drewN | apply below_drew1 | refine below_set ?_ GE424.out | refine below_set ?_ GE432.out | refine below_set ?_ GE436.out | refine below_set ?_ GE440.out) | exact HB.out)⟩
     ·
      replace c56 := Bool.eq_false_iff.mpr c56
      subst c56
      have H1 : ((laws_toTrie.f kj13 l0_0).bind fun t442 => ((laws_eqTrie.f kj13 t433 t442).bind fun t445 => (if t445 = true then (some true) else (some false)))) = some r := by rw [if_neg (show ¬ (false = true) by decide)] at H; exact H
      clear H
      have H := H1
      clear H1
      replace H := Option.bind_eq_some_iff.mp H
      obtain ⟨t442, A570, H⟩ := H
      replace H : ((laws_eqTrie.f kj13 t433 t442).bind fun t445 => (if t445 = true then (some true) else (some false))) = some r := H
      have A57 := Aside0.mk A570
      clear A570
      replace H := Option.bind_eq_some_iff.mp H
      obtain ⟨t445, A580, H⟩ := H
      replace H : (if t445 = true then (some true) else (some false)) = some r := H
      have A58 := Aside0.mk A580
      clear A580
      by_cases c59 : t445 = true
      ·
       subst c59
       have H1 : (some true) = some r := by rw [if_pos rfl] at H; exact H
       clear H
       have H := H1
       clear H1
       obtain rfl := Option.some.inj H
       try go_wp2
       have n0_ := Aside0.mk (Kd.R_drew HO_437000.out)
       have n1_ := Aside0.mk (blk_drew BK424.out)
       have n2_ := Aside0.mk (blk_drew BK432.out)
       have n3_ := Aside0.mk (blk_drew BK436.out)
       have n4_ := Aside0.mk (blk_drew BK440.out)
       have n5_ := Aside0.mk (below_drew1 HB.out)
       clear HO_437000
       clear BK424
       clear BK432
       clear BK436
       clear BK440
       clear HB
       have HO_437000 := n0_
       have BK424 := n1_
       have BK432 := n2_
       have BK436 := n3_
       have BK440 := n4_
       have HB := n5_
       clear n0_ n1_ n2_ n3_ n4_ n5_
       refine start_ (n := 5) (S := fun w' => w'.cell? ⟨gb436, 0, none⟩ = some (.slice Ao28 t433.length co28) ∧ w'.cell? ⟨gb424, 0, none⟩ = some (.slice A0_0 l0_0.length c0_0)) (ds := []) #[false, false, false, false, false] (by kernel_rfl) rfl rfl ⟨(blk_cell BK436.out 0).trans rfl, (blk_cell BK424.out 0).trans rfl⟩ (fun hHeld => ?_)
       generalize wc.drew = w60 at HO_437000 BK424 BK432 BK436 BK440 HB hHeld ⊢
       refine take_ (i := 0) (N := some 43) (v := ?_) (a' := ?_) #[true, false, false, false, false] rfl rfl (by kernel_rfl) (fun _ _ _ h => h) (Or.inl ⟨by rfl, ?_⟩) hHeld ?_ ?_
       rotate_left
       ·
        rintro w' ⟨s0, s1⟩
        go_simp
        with_reducible rfl
       rotate_left
       ·
        simp only [Act.put, List.setIfInBounds_toArray, List.set_cons_zero, List.set_cons_succ, i64_w, i32_w]
        rfl
       refine take_ (i := 1) (N := some 44) (v := ?_) (a' := ?_) #[true, true, false, false, false] rfl rfl (by kernel_rfl) (fun _ _ _ h => h) (Or.inl ⟨by rfl, ?_⟩) hHeld ?_ ?_
       rotate_left
       ·
        rintro w' ⟨s0, s1⟩
        go_simp
        with_reducible rfl
       rotate_left
       ·
        simp only [Act.put, List.setIfInBounds_toArray, List.set_cons_zero, List.set_cons_succ, i64_w, i32_w]
        rfl
       refine one_ (i := 2) (N := some 45) #[true, true, true, false, false] rfl rfl (by kernel_rfl) (by decide) (fun K hK => ?_)
       refine goes_ Tryd.func6 (by kernel_rfl) rfl #[.agg #[.slice A0_0 l0_0.length c0_0]] (by rfl) rfl rfl (by (try simp only [List.map_toArray, List.map_cons, List.map_nil]); first | done | rfl | (simp only [List.length_drop, List.length_take]; rfl)) ?_
       with_reducible refine (laws_toTrie.calls kj13 _ _ l0_0 t442 _ ?side1 ?side2 A57.out).mono ?_
       (case side1 => repeat (first | exact (Kd.C_below HR0_0.out HB.out) | (with_reducible refine Kd.C_alloc ?_ _) | (with_reducible refine Kd.C_drewN ?_ _) | (with_reducible refine Kd.C_drew ?_)))
       (case side2 => exact HC0_0.out)
       rintro e w61 ⟨v443, rfl, ho0, hb⟩
       refine ⟨_, rfl, ?_⟩
       have n0_ := Aside0.mk (Kd.R_elder' (by (with_reducible repeat (first | apply Kd.R_alloc | apply Kd.R_drewN | apply Kd.R_drew)); exact HO_437000.out) (Kd.R_base ho0) hb)
       have n1_ := Aside0.mk (Kd.R_lower (Kd.R_new' ho0 (Kd.R_lt (by (with_reducible repeat (first | apply Kd.R_alloc | apply Kd.R_drewN | apply Kd.R_drew)); exact HO_437000.out))) (below_size (by repeat (first | (with_reducible first | exact HB.out | apply below_alloc | apply pw_below_drewN | apply below_drew1 | refine below_set ?_ GE424.out | refine below_set ?_ GE432.out | refine below_set ?_ GE436.out | refine below_set ?_ GE440.out) | exact HB.out))))
       have n2_ := Aside0.mk (blk_below (g := gb424) (o := .cells #[.slice A0_0 l0_0.length c0_0] 24 (0, 0)) (by (with_reducible repeat (first | refine blk_drewN ?_ _ | refine blk_drew ?_ | refine blk_alloc ?_ _)); exact BK424.out) hb)
       have n3_ := Aside0.mk (blk_below (g := gb432) (o := .cells #[.int .i64 t429, .int .i64 t430] 26 (0, 0)) (by (with_reducible repeat (first | refine blk_drewN ?_ _ | refine blk_drew ?_ | refine blk_alloc ?_ _)); exact BK432.out) hb)
       have n4_ := Aside0.mk (blk_below (g := gb436) (o := .cells #[.slice Ao28 t433.length co28] 31 (0, 0)) (by (with_reducible repeat (first | refine blk_drewN ?_ _ | refine blk_drew ?_ | refine blk_alloc ?_ _)); exact BK436.out) hb)
       have n5_ := Aside0.mk (blk_below (g := gb440) (o := .cells #[.int .i64 t437, .int .i64 t438] 26 (0, 0)) (by (with_reducible repeat (first | refine blk_drewN ?_ _ | refine blk_drew ?_ | refine blk_alloc ?_ _)); exact BK440.out) hb)
       have n6_ := Aside0.mk (below_step (by repeat (first | (with_reducible first | exact HB.out | apply below_alloc | apply pw_below_drewN | apply below_drew1 | refine below_set ?_ GE424.out | refine below_set ?_ GE432.out | refine below_set ?_ GE436.out | refine below_set ?_ GE440.out) | exact HB.out)) hb)
       clear HO_437000
       clear BK424
       clear BK432
       clear BK436
       clear BK440
       clear HB
       have HO_437000 := n0_
       have HO444 := n1_
       have BK424 := n2_
       have BK432 := n3_
       have BK436 := n4_
       have BK440 := n5_
       have HB := n6_
       clear n0_ n1_ n2_ n3_ n4_ n5_ n6_
       (try clear hb)
       (try clear hb2)
       (try clear hk)
       (try clear hi)
       (try clear ho0)
       obtain ⟨Ao62, co62, eo62⟩ := Kd.R_slice HO444.out
       (first | subst eo62 | (injection eo62 with f1_ f2_ f3_; have f4_ := f1_.symm; have f5_ := f3_.symm; clear f1_ f2_ f3_; subst f4_; subst f5_))
       refine hK.out _ _ ⟨(blk_cell BK436.out 0).trans rfl, (blk_cell BK424.out 0).trans rfl⟩ (fun hHeld => ?_)
       clear hK K
       refine norm_ (a' := ?_) ?_ ?_
       rotate_left
       ·
        show Act.put _ (some 45) _ = _
        simp only [Act.put, List.setIfInBounds_toArray, List.set_cons_zero, List.set_cons_succ, i64_w, i32_w]
        rfl
       refine one_ (i := 3) (N := some 46) #[true, true, true, true, false] rfl rfl (by kernel_rfl) (by decide) (fun K hK => ?_)
       refine goes_ Tryd.func9 (by kernel_rfl) rfl #[.agg #[.slice Ao28 t433.length co28], .agg #[.slice Ao62 t442.length co62]] (by rfl) rfl rfl (by (try simp only [List.map_toArray, List.map_cons, List.map_nil]); first | done | rfl | (simp only [List.length_drop, List.length_take]; rfl)) ?_
       with_reducible refine (laws_eqTrie.calls kj13 _ _ t433 _ _ t442 true _ ?side1 ?side2 ?side3 ?side4 A58.out).mono ?_
       (case side1 => repeat (first | exact (Kd.R_reads' HO_437000.out).2.2 | (with_reducible refine Kd.C_alloc ?_ _) | (with_reducible refine Kd.C_drewN ?_ _) | (with_reducible refine Kd.C_drew ?_)))
       (case side2 => exact (Kd.R_reads' HO_437000.out).2.1)
       (case side3 => repeat (first | exact (Kd.R_reads' HO444.out).2.2 | (with_reducible refine Kd.C_alloc ?_ _) | (with_reducible refine Kd.C_drewN ?_ _) | (with_reducible refine Kd.C_drew ?_)))
       (case side4 => exact (Kd.R_reads' HO444.out).2.1)
       rintro e w63 ⟨rfl, hb⟩
       refine ⟨_, rfl, ?_⟩
       have n0_ := Aside0.mk (Kd.R_below (by (with_reducible repeat (first | apply Kd.R_alloc | apply Kd.R_drewN | apply Kd.R_drew)); exact HO_437000.out) hb)
       have n1_ := Aside0.mk (Kd.R_below (by (with_reducible repeat (first | apply Kd.R_alloc | apply Kd.R_drewN | apply Kd.R_drew)); exact HO444.out) hb)
       have n2_ := Aside0.mk (blk_below (g := gb424) (o := .cells #[.slice A0_0 l0_0.length c0_0] 24 (0, 0)) (by (with_reducible repeat (first | refine blk_drewN ?_ _ | refine blk_drew ?_ | refine blk_alloc ?_ _)); exact BK424.out) hb)
       have n3_ := Aside0.mk (blk_below (g := gb432) (o := .cells #[.int .i64 t429, .int .i64 t430] 26 (0, 0)) (by (with_reducible repeat (first | refine blk_drewN ?_ _ | refine blk_drew ?_ | refine blk_alloc ?_ _)); exact BK432.out) hb)
       have n4_ := Aside0.mk (blk_below (g := gb436) (o := .cells #[.slice Ao28 t433.length co28] 31 (0, 0)) (by (with_reducible repeat (first | refine blk_drewN ?_ _ | refine blk_drew ?_ | refine blk_alloc ?_ _)); exact BK436.out) hb)
       have n5_ := Aside0.mk (blk_below (g := gb440) (o := .cells #[.int .i64 t437, .int .i64 t438] 26 (0, 0)) (by (with_reducible repeat (first | refine blk_drewN ?_ _ | refine blk_drew ?_ | refine blk_alloc ?_ _)); exact BK440.out) hb)
       have n6_ := Aside0.mk (below_step (by repeat (first | (with_reducible first | exact HB.out | apply below_alloc | apply pw_below_drewN | apply below_drew1 | refine below_set ?_ GE424.out | refine below_set ?_ GE432.out | refine below_set ?_ GE436.out | refine below_set ?_ GE440.out) | exact HB.out)) hb)
       clear HO_437000
       clear HO444
       clear BK424
       clear BK432
       clear BK436
       clear BK440
       clear HB
       have HO_437000 := n0_
       have HO444 := n1_
       have BK424 := n2_
       have BK432 := n3_
       have BK436 := n4_
       have BK440 := n5_
       have HB := n6_
       clear n0_ n1_ n2_ n3_ n4_ n5_ n6_
       (try clear hb)
       (try clear hb2)
       (try clear hk)
       (try clear hi)
       refine hK.out _ _ ⟨(blk_cell BK436.out 0).trans rfl, (blk_cell BK424.out 0).trans rfl⟩ (fun hHeld => ?_)
       clear hK K
       refine norm_ (a' := ?_) ?_ ?_
       rotate_left
       ·
        show Act.put _ (some 46) _ = _
        simp only [Act.put, List.setIfInBounds_toArray, List.set_cons_zero, List.set_cons_succ, i64_w, i32_w]
        rfl
       refine pure_ (i := 4) (N := some 47) (v := ?_) (a' := ?_) #[true, true, true, true, true] rfl rfl (by kernel_rfl) (fun _ _ _ h => h) (Or.inl ⟨by rfl, ?_⟩) ?_ ?_
       rotate_left
       ·
        intro w'
        go_simp
        with_reducible rfl
       rotate_left
       ·
        simp only [Act.put, List.setIfInBounds_toArray, List.set_cons_zero, List.set_cons_succ, i64_w, i32_w]
        rfl
       refine done_ (by kernel_rfl) ?_
       try go_wp2
       go_ret
       exact ⟨by first | rfl | (simp [errW_none, errW_some] <;> rfl) | (simp [*, errW_none, errW_some] <;> rfl), by repeat (first | (with_reducible first | exact HB.out | apply below_alloc | apply pw_below_drewN | apply below_drew1 | refine below_set ?_ GE424.out | refine below_set ?_ GE432.out | refine below_set ?_ GE436.out | refine below_set ?_ GE440.out) | exact HB.out)⟩
      ·
       replace c59 := Bool.eq_false_iff.mpr c59
       subst c59
       have H1 : (some false) = some r := by rw [if_neg (show ¬ (false = true) by decide)] at H; exact H
       clear H
       have H := H1
       clear H1
       obtain rfl := Option.some.inj H
       try go_wp2
       have n0_ := Aside0.mk (Kd.R_drew HO_437000.out)
       have n1_ := Aside0.mk (blk_drew BK424.out)
       have n2_ := Aside0.mk (blk_drew BK432.out)
       have n3_ := Aside0.mk (blk_drew BK436.out)
       have n4_ := Aside0.mk (blk_drew BK440.out)
       have n5_ := Aside0.mk (below_drew1 HB.out)
       clear HO_437000
       clear BK424
       clear BK432
       clear BK436
       clear BK440
       clear HB
       have HO_437000 := n0_
       have BK424 := n1_
       have BK432 := n2_
       have BK436 := n3_
       have BK440 := n4_
       have HB := n5_
       clear n0_ n1_ n2_ n3_ n4_ n5_
       refine start_ (n := 5) (S := fun w' => w'.cell? ⟨gb436, 0, none⟩ = some (.slice Ao28 t433.length co28) ∧ w'.cell? ⟨gb424, 0, none⟩ = some (.slice A0_0 l0_0.length c0_0)) (ds := []) #[false, false, false, false, false] (by kernel_rfl) rfl rfl ⟨(blk_cell BK436.out 0).trans rfl, (blk_cell BK424.out 0).trans rfl⟩ (fun hHeld => ?_)
       generalize wc.drew = w64 at HO_437000 BK424 BK432 BK436 BK440 HB hHeld ⊢
       refine take_ (i := 0) (N := some 43) (v := ?_) (a' := ?_) #[true, false, false, false, false] rfl rfl (by kernel_rfl) (fun _ _ _ h => h) (Or.inl ⟨by rfl, ?_⟩) hHeld ?_ ?_
       rotate_left
       ·
        rintro w' ⟨s0, s1⟩
        go_simp
        with_reducible rfl
       rotate_left
       ·
        simp only [Act.put, List.setIfInBounds_toArray, List.set_cons_zero, List.set_cons_succ, i64_w, i32_w]
        rfl
       refine take_ (i := 1) (N := some 44) (v := ?_) (a' := ?_) #[true, true, false, false, false] rfl rfl (by kernel_rfl) (fun _ _ _ h => h) (Or.inl ⟨by rfl, ?_⟩) hHeld ?_ ?_
       rotate_left
       ·
        rintro w' ⟨s0, s1⟩
        go_simp
        with_reducible rfl
       rotate_left
       ·
        simp only [Act.put, List.setIfInBounds_toArray, List.set_cons_zero, List.set_cons_succ, i64_w, i32_w]
        rfl
       refine one_ (i := 2) (N := some 45) #[true, true, true, false, false] rfl rfl (by kernel_rfl) (by decide) (fun K hK => ?_)
       refine goes_ Tryd.func6 (by kernel_rfl) rfl #[.agg #[.slice A0_0 l0_0.length c0_0]] (by rfl) rfl rfl (by (try simp only [List.map_toArray, List.map_cons, List.map_nil]); first | done | rfl | (simp only [List.length_drop, List.length_take]; rfl)) ?_
       with_reducible refine (laws_toTrie.calls kj13 _ _ l0_0 t442 _ ?side1 ?side2 A57.out).mono ?_
       (case side1 => repeat (first | exact (Kd.C_below HR0_0.out HB.out) | (with_reducible refine Kd.C_alloc ?_ _) | (with_reducible refine Kd.C_drewN ?_ _) | (with_reducible refine Kd.C_drew ?_)))
       (case side2 => exact HC0_0.out)
       rintro e w65 ⟨v443, rfl, ho0, hb⟩
       refine ⟨_, rfl, ?_⟩
       have n0_ := Aside0.mk (Kd.R_elder' (by (with_reducible repeat (first | apply Kd.R_alloc | apply Kd.R_drewN | apply Kd.R_drew)); exact HO_437000.out) (Kd.R_base ho0) hb)
       have n1_ := Aside0.mk (Kd.R_lower (Kd.R_new' ho0 (Kd.R_lt (by (with_reducible repeat (first | apply Kd.R_alloc | apply Kd.R_drewN | apply Kd.R_drew)); exact HO_437000.out))) (below_size (by repeat (first | (with_reducible first | exact HB.out | apply below_alloc | apply pw_below_drewN | apply below_drew1 | refine below_set ?_ GE424.out | refine below_set ?_ GE432.out | refine below_set ?_ GE436.out | refine below_set ?_ GE440.out) | exact HB.out))))
       have n2_ := Aside0.mk (blk_below (g := gb424) (o := .cells #[.slice A0_0 l0_0.length c0_0] 24 (0, 0)) (by (with_reducible repeat (first | refine blk_drewN ?_ _ | refine blk_drew ?_ | refine blk_alloc ?_ _)); exact BK424.out) hb)
       have n3_ := Aside0.mk (blk_below (g := gb432) (o := .cells #[.int .i64 t429, .int .i64 t430] 26 (0, 0)) (by (with_reducible repeat (first | refine blk_drewN ?_ _ | refine blk_drew ?_ | refine blk_alloc ?_ _)); exact BK432.out) hb)
       have n4_ := Aside0.mk (blk_below (g := gb436) (o := .cells #[.slice Ao28 t433.length co28] 31 (0, 0)) (by (with_reducible repeat (first | refine blk_drewN ?_ _ | refine blk_drew ?_ | refine blk_alloc ?_ _)); exact BK436.out) hb)
       have n5_ := Aside0.mk (blk_below (g := gb440) (o := .cells #[.int .i64 t437, .int .i64 t438] 26 (0, 0)) (by (with_reducible repeat (first | refine blk_drewN ?_ _ | refine blk_drew ?_ | refine blk_alloc ?_ _)); exact BK440.out) hb)
       have n6_ := Aside0.mk (below_step (by repeat (first | (with_reducible first | exact HB.out | apply below_alloc | apply pw_below_drewN | apply below_drew1 | refine below_set ?_ GE424.out | refine below_set ?_ GE432.out | refine below_set ?_ GE436.out | refine below_set ?_ GE440.out) | exact HB.out)) hb)
       clear HO_437000
       clear BK424
       clear BK432
       clear BK436
       clear BK440
       clear HB
       have HO_437000 := n0_
       have HO444 := n1_
       have BK424 := n2_
       have BK432 := n3_
       have BK436 := n4_
       have BK440 := n5_
       have HB := n6_
       clear n0_ n1_ n2_ n3_ n4_ n5_ n6_
       (try clear hb)
       (try clear hb2)
       (try clear hk)
       (try clear hi)
       (try clear ho0)
       obtain ⟨Ao66, co66, eo66⟩ := Kd.R_slice HO444.out
       (first | subst eo66 | (injection eo66 with f1_ f2_ f3_; have f4_ := f1_.symm; have f5_ := f3_.symm; clear f1_ f2_ f3_; subst f4_; subst f5_))
       refine hK.out _ _ ⟨(blk_cell BK436.out 0).trans rfl, (blk_cell BK424.out 0).trans rfl⟩ (fun hHeld => ?_)
       clear hK K
       refine norm_ (a' := ?_) ?_ ?_
       rotate_left
       ·
        show Act.put _ (some 45) _ = _
        simp only [Act.put, List.setIfInBounds_toArray, List.set_cons_zero, List.set_cons_succ, i64_w, i32_w]
        rfl
       refine one_ (i := 3) (N := some 46) #[true, true, true, true, false] rfl rfl (by kernel_rfl) (by decide) (fun K hK => ?_)
       refine goes_ Tryd.func9 (by kernel_rfl) rfl #[.agg #[.slice Ao28 t433.length co28], .agg #[.slice Ao66 t442.length co66]] (by rfl) rfl rfl (by (try simp only [List.map_toArray, List.map_cons, List.map_nil]); first | done | rfl | (simp only [List.length_drop, List.length_take]; rfl)) ?_
       with_reducible refine (laws_eqTrie.calls kj13 _ _ t433 _ _ t442 false _ ?side1 ?side2 ?side3 ?side4 A58.out).mono ?_
       (case side1 => repeat (first | exact (Kd.R_reads' HO_437000.out).2.2 | (with_reducible refine Kd.C_alloc ?_ _) | (with_reducible refine Kd.C_drewN ?_ _) | (with_reducible refine Kd.C_drew ?_)))
       (case side2 => exact (Kd.R_reads' HO_437000.out).2.1)
       (case side3 => repeat (first | exact (Kd.R_reads' HO444.out).2.2 | (with_reducible refine Kd.C_alloc ?_ _) | (with_reducible refine Kd.C_drewN ?_ _) | (with_reducible refine Kd.C_drew ?_)))
       (case side4 => exact (Kd.R_reads' HO444.out).2.1)
       rintro e w67 ⟨rfl, hb⟩
       refine ⟨_, rfl, ?_⟩
       have n0_ := Aside0.mk (Kd.R_below (by (with_reducible repeat (first | apply Kd.R_alloc | apply Kd.R_drewN | apply Kd.R_drew)); exact HO_437000.out) hb)
       have n1_ := Aside0.mk (Kd.R_below (by (with_reducible repeat (first | apply Kd.R_alloc | apply Kd.R_drewN | apply Kd.R_drew)); exact HO444.out) hb)
       have n2_ := Aside0.mk (blk_below (g := gb424) (o := .cells #[.slice A0_0 l0_0.length c0_0] 24 (0, 0)) (by (with_reducible repeat (first | refine blk_drewN ?_ _ | refine blk_drew ?_ | refine blk_alloc ?_ _)); exact BK424.out) hb)
       have n3_ := Aside0.mk (blk_below (g := gb432) (o := .cells #[.int .i64 t429, .int .i64 t430] 26 (0, 0)) (by (with_reducible repeat (first | refine blk_drewN ?_ _ | refine blk_drew ?_ | refine blk_alloc ?_ _)); exact BK432.out) hb)
       have n4_ := Aside0.mk (blk_below (g := gb436) (o := .cells #[.slice Ao28 t433.length co28] 31 (0, 0)) (by (with_reducible repeat (first | refine blk_drewN ?_ _ | refine blk_drew ?_ | refine blk_alloc ?_ _)); exact BK436.out) hb)
       have n5_ := Aside0.mk (blk_below (g := gb440) (o := .cells #[.int .i64 t437, .int .i64 t438] 26 (0, 0)) (by (with_reducible repeat (first | refine blk_drewN ?_ _ | refine blk_drew ?_ | refine blk_alloc ?_ _)); exact BK440.out) hb)
       have n6_ := Aside0.mk (below_step (by repeat (first | (with_reducible first | exact HB.out | apply below_alloc | apply pw_below_drewN | apply below_drew1 | refine below_set ?_ GE424.out | refine below_set ?_ GE432.out | refine below_set ?_ GE436.out | refine below_set ?_ GE440.out) | exact HB.out)) hb)
       clear HO_437000
       clear HO444
       clear BK424
       clear BK432
       clear BK436
       clear BK440
       clear HB
       have HO_437000 := n0_
       have HO444 := n1_
       have BK424 := n2_
       have BK432 := n3_
       have BK436 := n4_
       have BK440 := n5_
       have HB := n6_
       clear n0_ n1_ n2_ n3_ n4_ n5_ n6_
       (try clear hb)
       (try clear hb2)
       (try clear hk)
       (try clear hi)
       refine hK.out _ _ ⟨(blk_cell BK436.out 0).trans rfl, (blk_cell BK424.out 0).trans rfl⟩ (fun hHeld => ?_)
       clear hK K
       refine norm_ (a' := ?_) ?_ ?_
       rotate_left
       ·
        show Act.put _ (some 46) _ = _
        simp only [Act.put, List.setIfInBounds_toArray, List.set_cons_zero, List.set_cons_succ, i64_w, i32_w]
        rfl
       refine pure_ (i := 4) (N := some 47) (v := ?_) (a' := ?_) #[true, true, true, true, true] rfl rfl (by kernel_rfl) (fun _ _ _ h => h) (Or.inl ⟨by rfl, ?_⟩) ?_ ?_
       rotate_left
       ·
        intro w'
        go_simp
        with_reducible rfl
       rotate_left
       ·
        simp only [Act.put, List.setIfInBounds_toArray, List.set_cons_zero, List.set_cons_succ, i64_w, i32_w]
        rfl
       refine done_ (by kernel_rfl) ?_
       try go_wp2
       go_ret
       exact ⟨by first | rfl | (simp [errW_none, errW_some] <;> rfl) | (simp [*, errW_none, errW_some] <;> rfl), by repeat (first | (with_reducible first | exact HB.out | apply below_alloc | apply pw_below_drewN | apply below_drew1 | refine below_set ?_ GE424.out | refine below_set ?_ GE432.out | refine below_set ?_ GE436.out | refine below_set ?_ GE440.out) | exact HB.out)⟩

/-- THE ONE PURE STATEMENT of laws_FnExactChanceOfDescent. -/
def laws_FnExactChanceOfDescent.Pure : Prop := ∀ (l0_0 : List S53) (a1 : ByteArray), l0_0.length ≤ 9223372036854775807 → a1.size ≤ 140737488351232 → ∃ k, laws_FnExactChanceOfDescent.f k l0_0 a1 = some true
theorem laws_FnExactChanceOfDescent.walk (P : laws_FnExactChanceOfDescent.Pure) (w : World) (A0 : Option Addr) (c0 : Nat) (l0_0 : List S53) (hr0 : Kd.C k53 w A0 l0_0.length l0_0) (hc0 : l0_0.length ≤ c0) (a1 : ByteArray) (w1 : a1.size ≤ 140737488351232) :
  Calls Tryd.prog 3 #[.agg #[.slice A0 l0_0.length c0], .string a1] w fun e w' => e = .returned (.bool true) ∧ Below w.heap.size w w' := by
 obtain ⟨k, h⟩ := P l0_0 a1 hr0.2.1 w1
 refine (laws_FnExactChanceOfDescent.calls k _ _ l0_0 a1 true w hr0 hc0 h).mono ?_
 rintro e w' ⟨rfl, hd⟩
 exact ⟨rfl, hd⟩

end Go.Proofs.YtgagmodkjmegeaaDoor.P

namespace Go.Proofs.YtgagmodkjmegeaaDoor.P
open Go.RowKit Go.Proofs.YtgagmodkjmegeaaDoorW.PrintWords Go.Proofs.YtgagmodkjmegeaaDoorW.PrintLast Go.Proofs.YtgagmodkjmegeaaDoorW.PrintMore
attribute [local go_sem] max2_int min2_int max_two min_two max_three min_three max_four min_four
set_option linter.unusedVariables false
set_option linter.unusedSimpArgs false

namespace OA
open Go.ChangeShapes Go.WideShapes Go.Deep Go.ChangeAt Go.Joins
section
variable {H : Type} {enc : TypeId × Value → H} {P : Program} {w : World} {base : Nat} {spare : Nat → Bool} {held : Bool}
/-- A slice of structs of one-cell fields: each element's cells with their readings. -/
theorem fields {t e : TypeId} {fs : Array Field} {fuel : Nat} {cs : List Value} {x : DataW H × List MemPlace} (ht : P.underlying t = some (.slice e)) (he : P.underlying e = some (.struct fs))
    (hone : oneCellFields P fs = true) (hC : P.cellsOf e = fs.size) (h : DataW.trod enc P w base spare held fuel t cs = some x) :
    (cs = [.slice none 0 0]) ∨
    ∃ (a : Addr) (len cap : Nat), cs = [.slice (some a) len cap] ∧ len ≤ cap ∧ cap ≤ maxLen ∧
      ∀ i, i < len → ∃ n : Nat, ∀ (j : Nat) (f : Field), fs[j]? = some f → ∃ (v : Value) (y : DataW H × List MemPlace), w.cell? (a.add (i * fs.size + j)) = some v ∧ DataW.trod enc P w base spare held n f.type [v] = some y := by
  rcases open_slice ht h with h0 | ⟨a, len, cap, m, n, D, Pl, hcs, hb, hl, hm, hmm, hx, hi⟩
  · exact .inl h0.1
  · refine .inr ⟨a, len, cap, hcs, hl, hm, fun i hil => ?_⟩
    have him : i < m := by rw [hmm]; split <;> omega
    obtain ⟨cs', hc, ht'⟩ := hi i him
    rw [hC] at hc
    obtain ⟨ys, n', hn', hy, hlen, hyl, hf⟩ := DataW.trod_struct he ht'
    obtain ⟨_, hcl, hat⟩ := World.cells?_some hc
    refine ⟨n', fun j f hj => ?_⟩
    obtain ⟨ho, hk⟩ := hone_of hone j f hj
    have hjl : j < fs.size := (Array.getElem?_eq_some_iff.1 hj).1
    have hcell := hat j hjl
    have hv : cs'[j]? = some (cs'[j]'(by omega)) := List.getElem?_eq_getElem (by omega)
    have h1 := hf j f hj
    rw [ho, hk] at h1
    have hone' : (cs'.drop j).take 1 = [cs'[j]'(by omega)] := by
      rw [List.drop_eq_getElem_cons (by omega)]
      rfl
    rw [hone'] at h1
    have hys : ys[j]? = some (ys[j]'(by omega)) := List.getElem?_eq_getElem (by omega)
    refine ⟨_, _, ?_, h1.trans hys⟩
    rw [← Go.Deep.add_add, hcell, hv]
theorem array1 {α : Type} {cs : Array α} (h : cs.size = 1) : ∃ c0, cs = #[c0] := by
  obtain ⟨l⟩ := cs
  match l, h with
  | [c0], _ => exact ⟨c0, rfl⟩
theorem agg1 {r : Reach} {b0 : Nat} {t : TypeId} {f0 : Field} {v : Value} {d : DataW H} {p : List MemPlace} (hs : P.underlying t = some (.struct #[f0])) (hone : oneCellFields P #[f0] = true) (hC : P.cellsOf t = 1)
    (hv : Value.okWide P w r b0 t v) (h : DataW.Trod enc P w base spare held t v d p) :
    ∃ (v0 : Value) (y0 : DataW H × List MemPlace) (n : Nat), v = .agg #[v0] ∧ DataW.trod enc P w base spare held n f0.type [v0] = some y0 := by
  obtain ⟨cs, rfl, hsz⟩ := okWide_struct hs hv
  obtain ⟨c0, rfl⟩ := array1 (hsz.trans hC)
  obtain ⟨fuel, hf⟩ := h
  obtain ⟨xs, n, _, hx, _, hlen, hg⟩ := DataW.trod_struct hs hf
  obtain ⟨o0, k0⟩ := hone_of hone 0 f0 rfl
  have h0 := hg 0 f0 rfl
  have hl : 0 < xs.length := by rw [hlen]; exact Nat.zero_lt_one
  rw [List.getElem?_eq_getElem hl] at h0
  exact ⟨c0, _, n, rfl, by simpa [Value.cells, o0, k0] using h0⟩
end
end OA

end Go.Proofs.YtgagmodkjmegeaaDoor.P

namespace Go.Proofs.YtgagmodkjmegeaaDoor.P
open Go.RowKit Go.Proofs.YtgagmodkjmegeaaDoorW.PrintWords Go.Proofs.YtgagmodkjmegeaaDoorW.PrintLast Go.Proofs.YtgagmodkjmegeaaDoorW.PrintMore
attribute [local go_sem] max2_int min2_int max_two min_two max_three min_three max_four min_four
set_option linter.unusedVariables false
set_option linter.unusedSimpArgs false

namespace OT
open Go.ChangeShapes Go.WideShapes Go.Deep Go.ChangeAt Go.Joins OA
set_option maxRecDepth 100000 in
/-- The argument, opened: a slice of nodes. -/
theorem trie {H : Type} {enc : TypeId × Value → H} {w : World} {base : Nat} {spare : Nat → Bool} {held : Bool} {r : Reach} {b0 : Nat} {v : Value} {d : DataW H} {p : List MemPlace}
    (hv : Value.okWide Tryd.prog w r b0 24 v) (h : DataW.Trod enc Tryd.prog w base spare held 24 v d p) :
    ∃ (A : Option Addr) (cap : Nat) (l : List S53), v = .agg #[.slice A l.length cap] ∧ l.length ≤ cap ∧ Kd.C k53 w A l.length l := by
  obtain ⟨v0, y0, n, rfl, h0⟩ := agg1 Tryd.underlying24 (by kernel_rfl) (by kernel_rfl) hv h
  rcases fields Tryd.underlying22 Tryd.underlying53 (by kernel_rfl) (by kernel_rfl) h0 with e | ⟨a, len, cap, e, hl, hm, hi⟩
  · obtain rfl : v0 = .slice none 0 0 := by simpa using e
    exact ⟨none, 0, [], rfl, Nat.le_refl _, ⟨rfl, by simp, fun h => absurd h (Nat.lt_irrefl _)⟩⟩
  · obtain rfl : v0 = .slice (some a) len cap := by simpa using e
    have hex : ∀ i, i < len → ∃ x : S53, w.cell? (a.add (i * 3 + 0)) = some (.int .i64 x.f0) ∧ w.cell? (a.add (i * 3 + 1)) = some (.int .i64 x.f1) ∧ w.cell? (a.add (i * 3 + 2)) = some (.bool x.f2) := by
      intro i hil
      obtain ⟨n, hf⟩ := hi i hil
      obtain ⟨u0, y0, c0, t0⟩ := hf 0 _ rfl
      obtain ⟨u1, y1, c1, t1⟩ := hf 1 _ rfl
      obtain ⟨u2, y2, c2, t2⟩ := hf 2 _ rfl
      obtain ⟨n0, e0, _, _⟩ := DataW.trod_int Tryd.underlying3 t0
      obtain ⟨n1, e1, _, _⟩ := DataW.trod_int Tryd.underlying3 t1
      obtain ⟨b2, e2, _⟩ := DataW.trod_bool Tryd.underlying4 t2
      simp only [List.cons.injEq, and_true] at e0 e1 e2
      subst e0 e1 e2
      exact ⟨⟨n0, n1, b2⟩, c0, c1, c2⟩
    obtain ⟨g, hg⟩ : ∃ g : Nat → S53, ∀ i, i < len → w.cell? (a.add (i * 3 + 0)) = some (.int .i64 (g i).f0) ∧ w.cell? (a.add (i * 3 + 1)) = some (.int .i64 (g i).f1) ∧ w.cell? (a.add (i * 3 + 2)) = some (.bool (g i).f2) :=
      ⟨fun i => if h : i < len then Classical.choose (hex i h) else z53, fun i h => by simp only [dif_pos h]; exact Classical.choose_spec (hex i h)⟩
    refine ⟨some a, cap, (List.range len).map g, by simp, by simpa using hl, ⟨by simp, ?_, fun _ => ⟨a, rfl, fun j p hj => ?_⟩⟩⟩
    · have : (maxLen : Nat) ≤ 9223372036854775807 := by decide
      simp; omega
    · obtain ⟨hjl, rfl⟩ := List.getElem?_eq_some_iff.1 hj
      have hjl' : j < len := by simpa using hjl
      obtain ⟨c0, c1, c2⟩ := hg j hjl'
      rw [List.getElem_map, List.getElem_range]
      refine ⟨_, rfl, k53_mk w (g j), fun i u hu => ?_⟩
      match i, hu with
      | 0, hu => obtain rfl := Option.some.inj hu; exact c0
      | 1, hu => obtain rfl := Option.some.inj hu; exact c1
      | 2, hu => obtain rfl := Option.some.inj hu; exact c2
end OT

end Go.Proofs.YtgagmodkjmegeaaDoor.P

namespace Go.Proofs.YtgagmodkjmegeaaDoor.M
theorem txt_lt_snoc : ∀ (p : Txt) (x : UInt8), p < p ++ [x]
  | [], x => List.nil_lt_cons x []
  | a :: p, x => List.cons_lt_cons_iff.2 (.inr ⟨rfl, txt_lt_snoc p x⟩)
theorem dropLast_getD (p : Txt) (h : p ≠ []) : p.dropLast ++ [p.getD (p.length - 1) 0] = p := by
  have h0 := List.length_pos_iff.2 h
  have h1 : p.length - 1 < p.length := by omega
  rw [List.dropLast_eq_take, getD_lt 0 h1, ← List.take_succ_eq_append_getElem h1, List.take_of_length_le (by omega)]
theorem txt_dropLast_lt (p : Txt) (h : p ≠ []) : p.dropLast < p := by
  have := txt_lt_snoc p.dropLast (p.getD (p.length - 1) 0)
  rwa [dropLast_getD p h] at this
/-- The empty text is there, and each text's beginning. -/
def Clo (P : List Txt) : Prop := [] ∈ P ∧ ∀ p ∈ P, p ≠ [] → p.dropLast ∈ P
/-- The beginnings of a text but the empty one. -/
def begs (w : Txt) : List Txt := (List.range w.length).map fun n => w.take (n + 1)
/-- The beginnings of some texts. -/
def preL (ws : List Txt) : List Txt := setL ([] :: ws.flatMap begs)
theorem mem_begs {w p : Txt} : p ∈ begs w ↔ p ≠ [] ∧ p <+: w := by
  constructor
  · intro h
    obtain ⟨n, hn, rfl⟩ := List.mem_map.1 h
    rw [List.mem_range] at hn
    exact ⟨fun e => by have := congrArg List.length e; rw [List.length_take, List.length_nil] at this; omega, List.take_prefix _ _⟩
  · rintro ⟨h1, h2⟩
    have h3 := h2.length_le
    have h4 := List.length_pos_iff.2 h1
    refine List.mem_map.2 ⟨p.length - 1, List.mem_range.2 (by omega), ?_⟩
    rw [show p.length - 1 + 1 = p.length from by omega]
    exact (List.prefix_iff_eq_take.1 h2).symm
theorem mem_preL {ws : List Txt} {p : Txt} : p ∈ preL ws ↔ p = [] ∨ ∃ w ∈ ws, p ≠ [] ∧ p <+: w := by
  unfold preL
  rw [mem_setL, List.mem_cons, List.mem_flatMap]
  simp only [mem_begs]
theorem clo_preL (ws : List Txt) : Clo (preL ws) := by
  refine ⟨mem_preL.2 (.inl rfl), fun p hp hne => ?_⟩
  rcases mem_preL.1 hp with rfl | ⟨w, hw, _, h⟩
  · exact absurd rfl hne
  · by_cases h0 : p.dropLast = []
    · rw [h0]; exact mem_preL.2 (.inl rfl)
    · exact mem_preL.2 (.inr ⟨w, hw, h0, (List.dropLast_prefix p).trans h⟩)
theorem asc_preL (ws : List Txt) : Asc (preL ws) := asc_setL _
theorem self_preL {ws : List Txt} {w : Txt} (h : w ∈ ws) : w ∈ preL ws := by
  by_cases h0 : w = []
  · rw [h0]; exact mem_preL.2 (.inl rfl)
  · exact mem_preL.2 (.inr ⟨w, h, h0, List.prefix_refl _⟩)
theorem preL_congr {ws vs : List Txt} (h : ∀ w, w ∈ ws ↔ w ∈ vs) : preL ws = preL vs :=
  asc_ext _ _ (asc_preL _) (asc_preL _) fun y => by rw [mem_preL, mem_preL]; simp only [h]
theorem foldl_putL_len : ∀ (l acc : List Txt), (l.foldl putL acc).length ≤ acc.length + l.length
  | [], _ => Nat.le_refl _
  | x :: l, acc => by
    have h1 := foldl_putL_len l (putL acc x)
    have h2 := putL_length_le acc x
    rw [List.foldl_cons, List.length_cons]; omega
theorem setL_length_le (l : List Txt) : (setL l).length ≤ l.length := by have := foldl_putL_len l []; simpa [setL] using this
theorem begs_length (w : Txt) : (begs w).length = w.length := by simp [begs]
theorem flatMap_begs_length : ∀ (ws : List Txt), (∀ w ∈ ws, w.length ≤ 12) → (ws.flatMap begs).length ≤ 12 * ws.length
  | [], _ => by simp
  | w :: ws, h => by
    have h1 := flatMap_begs_length ws fun x hx => h x (List.mem_cons_of_mem _ hx)
    have h2 := h w (by simp)
    rw [List.flatMap_cons, List.length_append, begs_length, List.length_cons]; omega
theorem preL_length {ws : List Txt} (h : ∀ w ∈ ws, w.length ≤ 12) : (preL ws).length ≤ 12 * ws.length + 1 := by
  have h1 := flatMap_begs_length ws h
  have h2 := setL_length_le ([] :: ws.flatMap begs)
  unfold preL
  rw [List.length_cons] at h2
  omega
/-- The place of a text in a list. -/
def placeL : List Txt → Txt → Nat
  | [], _ => 0
  | x :: r, p => if x = p then 0 else placeL r p + 1
theorem placeL_le : ∀ (P : List Txt) (p : Txt), placeL P p ≤ P.length
  | [], _ => Nat.le_refl _
  | x :: r, p => by
    have := placeL_le r p
    by_cases h : x = p
    · simp [placeL, h]
    · simp only [placeL, if_neg h, List.length_cons]; omega
theorem placeL_mem : ∀ {P : List Txt} {p : Txt}, p ∈ P → placeL P p < P.length ∧ P.getD (placeL P p) [] = p
  | [], _, h => by simp at h
  | x :: r, p, h => by
    by_cases h0 : x = p
    · simp [placeL, h0]
    · have h1 : p ∈ r := by
        rcases List.mem_cons.1 h with e | e
        · exact absurd e.symm h0
        · exact e
      obtain ⟨h2, h3⟩ := placeL_mem h1
      simp only [placeL, if_neg h0, List.length_cons]
      exact ⟨by omega, by simpa using h3⟩
theorem getD_mem {P : List Txt} {i : Nat} (h : i < P.length) : P.getD i [] ∈ P := by rw [getD_lt [] h]; exact List.getElem_mem h
theorem asc_get {P : List Txt} (hA : Asc P) {i j : Nat} (hj : j < P.length) (hij : i < j) : P.getD i [] < P.getD j [] := by
  have := List.pairwise_iff_getElem.1 hA i j (by omega) hj hij
  rwa [getD_lt [] hj, getD_lt [] (show i < P.length by omega)]
theorem asc_get_lt {P : List Txt} (hA : Asc P) {i j : Nat} (hi : i < P.length) (hj : j < P.length) (h : P.getD i [] < P.getD j []) : i < j := by
  rcases Nat.lt_trichotomy i j with h1 | h1 | h1
  · exact h1
  · subst h1; exact absurd h (txt_irrefl _)
  · exact absurd (asc_get hA hi h1) (txt_asymm h)
theorem asc_inj {P : List Txt} (hA : Asc P) {i j : Nat} (hi : i < P.length) (hj : j < P.length) (h : P.getD i [] = P.getD j []) : i = j := by
  rcases Nat.lt_trichotomy i j with h1 | h1 | h1
  · exact absurd (h ▸ asc_get hA hj h1) (txt_irrefl _)
  · exact h1
  · exact absurd (h ▸ asc_get hA hi h1) (txt_irrefl _)
theorem placeL_get {P : List Txt} (hA : Asc P) {i : Nat} (hi : i < P.length) : placeL P (P.getD i []) = i := by
  obtain ⟨h1, h2⟩ := placeL_mem (getD_mem hi)
  exact asc_inj hA h1 hi h2
theorem clo_zero {P : List Txt} (hA : Asc P) (hC : Clo P) : 0 < P.length ∧ P.getD 0 [] = [] := by
  obtain ⟨h1, h2⟩ := placeL_mem hC.1
  refine ⟨by omega, ?_⟩
  rcases Nat.eq_zero_or_pos (placeL P []) with h0 | h0
  · rwa [h0] at h2
  · have := asc_get hA h1 h0
    rw [h2] at this
    exact absurd this (List.not_lt_nil _)
theorem clo_pos {P : List Txt} (hA : Asc P) (hC : Clo P) {i : Nat} (hi : i < P.length) (h0 : 0 < i) : P.getD i [] ≠ [] := fun e => by
  obtain ⟨h1, h2⟩ := clo_zero hA hC
  have := asc_inj hA hi h1 (e.trans h2.symm)
  omega
/-- The place of a node's parent comes ahead of it. -/
theorem clo_parent {P : List Txt} (hA : Asc P) (hC : Clo P) {i : Nat} (hi : i < P.length) (h0 : 0 < i) :
    placeL P (P.getD i []).dropLast < i ∧ P.getD (placeL P (P.getD i []).dropLast) [] = (P.getD i []).dropLast := by
  have hne := clo_pos hA hC hi h0
  obtain ⟨h1, h2⟩ := placeL_mem (hC.2 _ (getD_mem hi) hne)
  exact ⟨asc_get_lt hA h1 hi (by rw [h2]; exact txt_dropLast_lt _ hne), h2⟩
/-- A node: its letter, its parent's place, and whether a word ends there. -/
def ltrOf (p : Txt) : Int := (((p.getD (p.length - 1) 0).toNat : Int) - 97) % 256
def ndL (P ws : List Txt) (p : Txt) : Int × Int × Bool := (if p = [] then -1 else ltrOf p, if p = [] then -1 else (placeL P p.dropLast : Int), decide (p ∈ ws))
def nodesL (P ws : List Txt) : List (Int × Int × Bool) := P.map (ndL P ws)
/-- A word: at most twelve letters. -/
def wordL (w : Txt) : Bool := w.all letterB && decide (w.length ≤ 12)
/-- Words as a valid trie has them. -/
structure OkW (ws : List Txt) : Prop where
  asc : Asc ws
  len : ws.length ≤ 40
  word : ∀ w ∈ ws, wordL w = true
theorem wordL_iff {w : Txt} : wordL w = true ↔ (∀ c ∈ w, letterB c = true) ∧ w.length ≤ 12 := by
  unfold wordL
  rw [Bool.and_eq_true, List.all_eq_true, decide_eq_true_eq]
theorem OkW.le {ws : List Txt} (h : OkW ws) : ∀ w ∈ ws, w.length ≤ 12 := fun w hw => (wordL_iff.1 (h.word w hw)).2
theorem OkW.pre {ws : List Txt} (h : OkW ws) : (preL ws).length ≤ 481 := by
  have h1 := preL_length h.le
  have h2 := h.len
  omega
theorem wordL_pre {p w : Txt} (h : p <+: w) (hw : wordL w = true) : wordL p = true := by
  obtain ⟨h1, h2⟩ := wordL_iff.1 hw
  exact wordL_iff.2 ⟨fun c hc => h1 c (h.subset hc), Nat.le_trans h.length_le h2⟩
theorem preL_word {ws : List Txt} (h : ∀ w ∈ ws, wordL w = true) {p : Txt} (hp : p ∈ preL ws) : wordL p = true := by
  rcases mem_preL.1 hp with rfl | ⟨w, hw, _, h1⟩
  · rfl
  · exact wordL_pre h1 (h w hw)
theorem letter_bd {c : UInt8} (h : letterB c = true) : 97 ≤ c.toNat ∧ c.toNat ≤ 122 := by simpa [letterB] using h
theorem getLast_mem {p : Txt} (h : p ≠ []) : p.getD (p.length - 1) 0 ∈ p := by
  have := List.length_pos_iff.2 h
  rw [getD_lt 0 (show p.length - 1 < p.length by omega)]
  exact List.getElem_mem _
theorem ltrOf_bd {p : Txt} (hw : wordL p = true) (h : p ≠ []) : ltrOf p = ((p.getD (p.length - 1) 0).toNat : Int) - 97 ∧ 0 ≤ ltrOf p ∧ ltrOf p ≤ 25 := by
  have h1 := letter_bd ((wordL_iff.1 hw).1 _ (getLast_mem h))
  unfold ltrOf
  omega
/-- The words of a list of texts that are there: they come out again. -/
theorem filter_preL {ws : List Txt} (h : Asc ws) : (preL ws).filter (fun p => decide (p ∈ ws)) = ws := by
  refine asc_ext _ _ ((asc_preL ws).filter _) h fun y => ?_
  rw [List.mem_filter, decide_eq_true_eq]
  exact ⟨fun h => h.2, fun h => ⟨self_preL h, h⟩⟩

end Go.Proofs.YtgagmodkjmegeaaDoor.M

namespace Go.Proofs.YtgagmodkjmegeaaDoor.M
open Go.RowKit Go.Proofs.YtgagmodkjmegeaaDoorW.PrintWords
theorem rdB (l : List Txt) (n : Nat) (h : n < l.length) : rdOf ByteArray.empty (l.map B) (n : Int) = B (l.getD n []) := by
  simp [rdOf, List.getD_eq_getElem?_getD, h]
theorem exBs (l : List ByteArray) : ∃ m : List Txt, l = m.map B := ⟨l.map fun x => x.data.toList, by rw [List.map_map]; exact ((List.map_congr_left (fun x _ => B_data x)).trans (List.map_id _)).symm⟩
theorem map_B_inj {l m : List Txt} (h : l.map B = m.map B) : l = m := (List.map_inj_right (fun _ _ h => B_inj h)).1 h

end Go.Proofs.YtgagmodkjmegeaaDoor.M

namespace Go.Proofs.YtgagmodkjmegeaaDoor.M
/-- The texts of a list that are one letter longer than a text, and begin with it. -/
def kidsL (P : List Txt) (p : Txt) : List Txt := P.filter fun q => decide (q ≠ [] ∧ q.dropLast = p)
/-- Does the node of a prefix stay? -/
def stayL (P ws : List Txt) (p : Txt) : Bool := decide (p = []) || decide (p ∈ ws) || decide ((kidsL P p).length ≠ 1)
/-- The prefixes of the nodes that stay. -/
def stayQ (P ws : List Txt) : List Txt := P.filter (stayL P ws)
/-- The next one above that stays. -/
def upF (P ws : List Txt) : Nat → Txt → Txt
  | 0, _ => []
  | n + 1, p => if stayL P ws p.dropLast = true then p.dropLast else upF P ws n p.dropLast
def upL (P ws : List Txt) (p : Txt) : Txt := upF P ws p.length p
theorem stay_nil (P ws : List Txt) : stayL P ws [] = true := by unfold stayL; simp
theorem upF_spec {P : List Txt} (ws : List Txt) (hC : Clo P) : ∀ (n : Nat) (p : Txt), p.length = n → p ∈ P → p ≠ [] → upF P ws n p <+: p ∧ (upF P ws n p).length < p.length ∧ upF P ws n p ∈ P ∧ stayL P ws (upF P ws n p) = true
  | 0, p, h, _, hne => absurd (List.eq_nil_of_length_eq_zero h) hne
  | n + 1, p, h, hp, hne => by
    have hd := hC.2 p hp hne
    have hl : p.dropLast.length = n := by rw [List.length_dropLast]; omega
    rw [upF]
    by_cases hs : stayL P ws p.dropLast = true
    · rw [if_pos hs]
      exact ⟨List.dropLast_prefix p, by omega, hd, hs⟩
    · rw [if_neg hs]
      have hne2 : p.dropLast ≠ [] := fun e => hs (by rw [e]; exact stay_nil P ws)
      obtain ⟨h1, h2, h3, h4⟩ := upF_spec ws hC n p.dropLast hl hd hne2
      exact ⟨h1.trans (List.dropLast_prefix p), by omega, h3, h4⟩
theorem upL_spec {P : List Txt} (ws : List Txt) (hC : Clo P) {p : Txt} (hp : p ∈ P) (hne : p ≠ []) : upL P ws p <+: p ∧ (upL P ws p).length < p.length ∧ upL P ws p ∈ P ∧ stayL P ws (upL P ws p) = true := upF_spec ws hC _ p rfl hp hne
theorem prefix_lt {p q : Txt} (h : p <+: q) (hl : p.length < q.length) : p < q := by
  obtain ⟨r, rfl⟩ := h
  cases r with
  | nil => rw [List.append_nil] at hl; omega
  | cons x r =>
    induction p with
    | nil => exact List.nil_lt_cons x r
    | cons a p ih => exact List.cons_lt_cons_iff.2 (.inr ⟨rfl, ih (by simp)⟩)
theorem asc_stayQ {P : List Txt} (ws : List Txt) (hA : Asc P) : Asc (stayQ P ws) := hA.filter _
theorem mem_stayQ {P ws : List Txt} {p : Txt} : p ∈ stayQ P ws ↔ p ∈ P ∧ stayL P ws p = true := List.mem_filter
theorem nil_stayQ {P : List Txt} (ws : List Txt) (hC : Clo P) : [] ∈ stayQ P ws := mem_stayQ.2 ⟨hC.1, stay_nil P ws⟩
theorem up_stayQ {P : List Txt} (ws : List Txt) (hC : Clo P) {p : Txt} (hp : p ∈ stayQ P ws) (hne : p ≠ []) : upL P ws p ∈ stayQ P ws := by
  obtain ⟨_, _, h3, h4⟩ := upL_spec ws hC (mem_stayQ.1 hp).1 hne
  exact mem_stayQ.2 ⟨h3, h4⟩
theorem stayQ_zero {P : List Txt} (ws : List Txt) (hA : Asc P) (hC : Clo P) : 0 < (stayQ P ws).length ∧ (stayQ P ws).getD 0 [] = [] := by
  obtain ⟨h1, h2⟩ := placeL_mem (nil_stayQ ws hC)
  refine ⟨by omega, ?_⟩
  rcases Nat.eq_zero_or_pos (placeL (stayQ P ws) []) with h0 | h0
  · rwa [h0] at h2
  · have := asc_get (asc_stayQ ws hA) h1 h0
    rw [h2] at this
    exact absurd this (List.not_lt_nil _)
theorem stayQ_pos {P : List Txt} (ws : List Txt) (hA : Asc P) (hC : Clo P) {i : Nat} (hi : i < (stayQ P ws).length) (h0 : 0 < i) : (stayQ P ws).getD i [] ≠ [] := fun e => by
  obtain ⟨h1, h2⟩ := stayQ_zero ws hA hC
  have := asc_inj (asc_stayQ ws hA) hi h1 (e.trans h2.symm)
  omega
/-- The place of the branch above comes ahead. -/
theorem stayQ_parent {P : List Txt} (ws : List Txt) (hA : Asc P) (hC : Clo P) {i : Nat} (hi : i < (stayQ P ws).length) (h0 : 0 < i) :
    placeL (stayQ P ws) (upL P ws ((stayQ P ws).getD i [])) < i ∧ (stayQ P ws).getD (placeL (stayQ P ws) (upL P ws ((stayQ P ws).getD i []))) [] = upL P ws ((stayQ P ws).getD i []) := by
  have hne := stayQ_pos ws hA hC hi h0
  have hm := getD_mem hi
  obtain ⟨h1, h2⟩ := placeL_mem (up_stayQ ws hC hm hne)
  obtain ⟨u1, u2, _, _⟩ := upL_spec ws hC (mem_stayQ.1 hm).1 hne
  exact ⟨asc_get_lt (asc_stayQ ws hA) h1 hi (by rw [h2]; exact prefix_lt u1 u2), h2⟩
/-- A branch: its letters, the place of the one above, and whether a word ends there. -/
def brL (P ws : List Txt) (p : Txt) : Txt × Int × Bool := (if p = [] then [] else p.drop (upL P ws p).length, if p = [] then -1 else (placeL (stayQ P ws) (upL P ws p) : Int), decide (p ∈ ws))
def brsL (P ws : List Txt) : List (Txt × Int × Bool) := (stayQ P ws).map (brL P ws)
theorem up_append {P : List Txt} (ws : List Txt) (hC : Clo P) {p : Txt} (hp : p ∈ P) (hne : p ≠ []) : upL P ws p ++ p.drop (upL P ws p).length = p := by
  obtain ⟨⟨r, hr⟩, _⟩ := upL_spec ws hC hp hne
  have : p.drop (upL P ws p).length = r := by
    have := congrArg (List.drop (upL P ws p).length) hr
    rw [List.drop_left] at this
    exact this.symm
  rw [this, hr]
theorem drop_ne {P : List Txt} (ws : List Txt) (hC : Clo P) {p : Txt} (hp : p ∈ P) (hne : p ≠ []) : p.drop (upL P ws p).length ≠ [] := fun e => by
  obtain ⟨_, h2, _⟩ := upL_spec ws hC hp hne
  have := congrArg List.length e
  rw [List.length_drop, List.length_nil] at this
  omega
/-- Words stay. -/
theorem filter_stayQ {ws : List Txt} (h : Asc ws) : (stayQ (preL ws) ws).filter (fun p => decide (p ∈ ws)) = ws := by
  refine asc_ext _ _ ((asc_stayQ ws (asc_preL ws)).filter _) h fun y => ?_
  rw [List.mem_filter, decide_eq_true_eq]
  refine ⟨fun h => h.2, fun h => ⟨mem_stayQ.2 ⟨self_preL h, ?_⟩, h⟩⟩
  unfold stayL
  rw [decide_eq_true h, Bool.or_true, Bool.true_or]

end Go.Proofs.YtgagmodkjmegeaaDoor.M

namespace Go.Proofs.YtgagmodkjmegeaaDoor.M
open Go.Lib
theorem keeps_iff (d : Array Txt) (j : Nat) : keeps d j = true ↔ (j = 0 ∨ d[j]! ≠ d[j - 1]!) := by simp [keeps]
theorem mem_compact (zs : List Txt) (y : Txt) : y ∈ compact zs ↔ y ∈ zs := by
  unfold compact compactUpTo
  simp only [List.mem_map, List.mem_filter, List.mem_range]
  constructor
  · rintro ⟨j, ⟨hj, _⟩, rfl⟩
    rw [getElem!_pos zs.toArray j (by simpa using hj)]
    simp
  · intro hy
    have hex : ∃ n, ∃ h : n < zs.length, zs[n] = y := by
      obtain ⟨n, h, e⟩ := List.mem_iff_getElem.1 hy
      exact ⟨n, h, e⟩
    have key : ∀ n, (∃ h : n < zs.length, zs[n] = y) → ∃ m, m < zs.length ∧ keeps zs.toArray m = true ∧ zs.toArray[m]! = y := by
      intro n
      induction n with
      | zero => rintro ⟨h, e⟩; exact ⟨0, h, (keeps_iff _ _).2 (.inl rfl), by rw [getElem!_pos zs.toArray 0 (by simpa using h)]; simpa using e⟩
      | succ n ih =>
        rintro ⟨h, e⟩
        have e1 : zs.toArray[n + 1]! = y := by rw [getElem!_pos zs.toArray (n + 1) (by simpa using h)]; simpa using e
        by_cases hk : keeps zs.toArray (n + 1) = true
        · exact ⟨n + 1, h, hk, e1⟩
        · have : zs.toArray[n + 1]! = zs.toArray[n]! := by
            by_cases h9 : zs.toArray[n + 1]! = zs.toArray[n]!
            · exact h9
            · exact absurd ((keeps_iff _ _).2 (.inr h9)) hk
          refine ih ⟨by omega, ?_⟩
          have h2 : zs.toArray[n]! = zs[n] := by rw [getElem!_pos zs.toArray n (by simp; omega)]; simp
          rw [← h2, ← this, e1]
    obtain ⟨n, h⟩ := hex
    obtain ⟨m, h1, h2, h3⟩ := key n h
    exact ⟨m, ⟨h1, h2⟩, h3⟩
theorem pair_get {zs : List Txt} (h : zs.Pairwise (fun a b => decide (a ≤ b) = true)) {i j : Nat} (hij : i < j) (hj : j < zs.length) : zs.toArray[i]! ≤ zs.toArray[j]! := by
  have := List.pairwise_iff_getElem.1 h i j (by omega) hj hij
  rw [getElem!_pos zs.toArray i (by simp; omega), getElem!_pos zs.toArray j (by simpa using hj)]
  simpa using this
theorem asc_compact {zs : List Txt} (h : zs.Pairwise (fun a b => decide (a ≤ b) = true)) : Asc (compact zs) := by
  unfold Asc compact compactUpTo
  rw [List.pairwise_map]
  have h1 : ((List.range zs.length).filter (keeps zs.toArray)).Pairwise (· < ·) := List.Pairwise.filter _ List.pairwise_lt_range
  refine List.Pairwise.imp_of_mem ?_ h1
  intro a b ha hb hab
  rw [List.mem_filter, List.mem_range] at ha hb
  have hk := (keeps_iff _ _).1 hb.2
  have hne : zs.toArray[b]! ≠ zs.toArray[b - 1]! := by
    rcases hk with h0 | h0
    · omega
    · exact h0
  have h2 : zs.toArray[b - 1]! ≤ zs.toArray[b]! := pair_get h (by omega) hb.1
  have h3 : zs.toArray[a]! ≤ zs.toArray[b - 1]! := by
    by_cases e : a = b - 1
    · subst e; exact List.le_refl _
    · exact pair_get h (by omega) (by omega)
  have h4 : zs.toArray[b - 1]! < zs.toArray[b]! := by
    by_cases hlt : zs.toArray[b - 1]! < zs.toArray[b]!
    · exact hlt
    · exact absurd (List.le_antisymm (List.not_lt.1 hlt) h2) hne
  exact List.lt_of_le_of_lt h3 h4
theorem sorted_compact (l : List Txt) : compact (l.mergeSort fun x y => decide (x ≤ y)) = setL l := by
  have hp : (l.mergeSort fun x y => decide (x ≤ y)).Pairwise (fun a b => decide (a ≤ b) = true) := by
    refine List.pairwise_mergeSort ?_ ?_ l
    · intro a b c h1 h2
      simp only [decide_eq_true_eq] at h1 h2 ⊢
      exact List.le_trans h1 h2
    · intro a b
      simp only [Bool.or_eq_true, decide_eq_true_eq]
      exact List.le_total a b
  refine asc_ext _ _ (asc_compact hp) (asc_setL l) fun y => ?_
  rw [mem_compact, List.mem_mergeSort, mem_setL]

end Go.Proofs.YtgagmodkjmegeaaDoor.M

namespace Go.Proofs.YtgagmodkjmegeaaDoor.L
open Go.RowKit Go.Proofs.YtgagmodkjmegeaaDoor.P Go.Proofs.YtgagmodkjmegeaaDoor.M Go.Proofs.YtgagmodkjmegeaaDoorW.PrintWords Go.Proofs.YtgagmodkjmegeaaDoorW.PrintLast Go.Proofs.YtgagmodkjmegeaaDoorW.PrintMore
set_option linter.unusedVariables false
theorem map_data (l : List Txt) : (l.map B).map (fun x => x.data.toList) = l := by
  rw [List.map_map]
  exact (List.map_congr_left (fun x _ => data_B x)).trans (List.map_id _)
theorem l2Put_eq (l : List Txt) (w : Txt) (h : l.length ≤ 4294967296) (h2 : ∀ x ∈ l, x.length ≤ 4611686018427387900) : spec_l2Put.f (l.map B) (B w) = some ((putL l w).map B) := by
  have hall : ((l.map B).all fun x => decide (x.size ≤ 4611686018427387900)) = true := List.all_eq_true.2 fun x hx => by
    obtain ⟨y, hy, rfl⟩ := List.mem_map.1 hx
    simpa using h2 y hy
  unfold spec_l2Put.f
  rw [map_data, data_B, if_pos ⟨by simpa using h, hall⟩]
theorem set_eq (l : List Txt) (h : l.length ≤ 4294967296) : impl_set.f (l.map B) = some ((setL l).map B) := by
  unfold impl_set.f
  rw [if_pos (by simpa using h), map_data, sorted_compact]
  rfl

end Go.Proofs.YtgagmodkjmegeaaDoor.L

namespace Go.Proofs.YtgagmodkjmegeaaDoor.L
open Go.RowKit Go.Proofs.YtgagmodkjmegeaaDoor.P Go.Proofs.YtgagmodkjmegeaaDoor.M Go.Proofs.YtgagmodkjmegeaaDoorW.PrintWords Go.Proofs.YtgagmodkjmegeaaDoorW.PrintLast Go.Proofs.YtgagmodkjmegeaaDoorW.PrintMore
set_option linter.unusedVariables false
theorem l1In_eq (a b c : Int) : spec_l1In.f a b c = some (decide (b ≤ a ∧ a ≤ c)) := by
  unfold spec_l1In.f
  by_cases h : b ≤ a
  · rw [if_pos (by omega)]; simp [h]
  · rw [if_neg (by omega)]; simp [h]
instance : DecidableEq S50 := fun a b => if h : a.f0 = b.f0 ∧ a.f1 = b.f1 ∧ a.f2 = b.f2 then isTrue (by obtain ⟨a0, a1, a2⟩ := a; obtain ⟨b0, b1, b2⟩ := b; obtain ⟨h1, h2, h3⟩ := h; simp only at h1 h2 h3; subst h1 h2 h3; rfl) else isFalse (fun e => h (by rw [e]; exact ⟨rfl, rfl, rfl⟩))
def mkN (x : Int × Int × Bool) : S50 := ⟨x.1, x.2.1, x.2.2⟩
def trN (P ws : List Txt) : List S50 := (nodesL P ws).map mkN
theorem trN_length (P ws : List Txt) : (trN P ws).length = P.length := by simp [trN, nodesL]
theorem rdN (P ws : List Txt) (i : Nat) (h : i < P.length) : rd_T50 (trN P ws) (i : Int) = mkN (ndL P ws (P.getD i [])) := by
  unfold rd_T50 trN nodesL
  rw [Int.toNat_natCast, getD_lt _ (by simpa using h), getD_lt _ h]
  simp
theorem strOfNums_B (n : Int) : strOfNums [n] = B [UInt8.ofNat n.toNat] := rfl
theorem letter_back {p : Txt} (hw : wordL p = true) (h : p ≠ []) : strOfNums [(wrap64 (97 + ltrOf p)) % 256] = B [p.getD (p.length - 1) 0] := by
  obtain ⟨h1, h2, h3⟩ := ltrOf_bd hw h
  have h4 := letter_bd ((wordL_iff.1 hw).1 _ (getLast_mem h))
  rw [strOfNums_B]
  congr 2
  have e : (wrap64 (97 + ltrOf p) % 256).toNat = (p.getD (p.length - 1) 0).toNat := by rw [wrap64_id (by omega) (by omega)]; omega
  rw [e]
  simp
/-! words -/
theorem l2Word_loop (l : Txt) (hl : l.length ≤ 4611686018427387903) : ∀ (d n : Nat), n + d = l.length → Ev (fun k => spec_l2Word.l0 k (B l) (n : Int)) ((l.drop n).all letterB && decide (l.length ≤ 12)) := by
  have last : ∀ n : Nat, Ev (fun k => spec_l2Word.j1 k (B l) (n : Int) false) (decide (l.length ≤ 12)) := by
    intro n
    refine Ev.step (fun k => spec_l2Word.j1.eq_2 ..) (Ev.ifF (by simp) ?_)
    have : decide (((B l).size : Int) ≤ 12) = decide (l.length ≤ 12) := by simp; omega
    rw [this]; exact Ev.now _
  intro d
  induction d with
  | zero =>
    intro n hn
    refine Ev.step (fun k => spec_l2Word.l0.eq_2 ..) (Ev.ifF (by simp; omega) ?_)
    rw [List.drop_of_length_le (by omega)]; simpa using last n
  | succ d ih =>
    intro n hn
    have h1 : n < l.length := by omega
    refine Ev.step (fun k => spec_l2Word.l0.eq_2 ..) (Ev.ifT (by simp; omega) ?_)
    rw [drop_cons_getD 0 h1]
    by_cases h16 : n ≤ 12
    · rw [show decide ((n : Int) ≤ 12) = true from by simp; omega]
      refine Ev.step (fun k => spec_l2Word.j1.eq_2 ..) (Ev.ifT rfl (Ev.ifT (by omega) (Ev.ifT (by simp; omega) ?_)))
      simp only [bt_B l n h1]
      by_cases ha : ((l.getD n 0).toNat : Int) < 97
      · refine Ev.ifT ha ?_
        have : letterB (l.getD n 0) = false := by simp only [letterB, decide_eq_false_iff_not]; omega
        simpa only [List.all_cons, this, Bool.false_and] using Ev.now false
      refine Ev.ifF ha ?_
      by_cases hz : ((l.getD n 0).toNat : Int) > 122
      · refine Ev.ifT hz ?_
        have : letterB (l.getD n 0) = false := by simp only [letterB, decide_eq_false_iff_not]; omega
        simpa only [List.all_cons, this, Bool.false_and] using Ev.now false
      refine Ev.ifF hz ?_
      have : letterB (l.getD n 0) = true := by simp only [letterB, decide_eq_true_eq]; omega
      simpa only [wrap64_succ n (by omega), List.all_cons, this, Bool.true_and] using ih (n + 1) (by omega)
    · rw [show decide ((n : Int) ≤ 12) = false from by simp; omega]
      have : ((l.getD n 0 :: l.drop (n + 1)).all letterB && decide (l.length ≤ 12)) = decide (l.length ≤ 12) := by
        have : decide (l.length ≤ 12) = false := by simp; omega
        rw [this]; simp
      rw [this]; exact last n
theorem l2Word_ev (l : Txt) (hl : l.length ≤ 4611686018427387903) : Ev (fun k => spec_l2Word.f k (B l)) (wordL l) := by
  simpa [spec_l2Word.f, wordL] using l2Word_loop l hl l.length 0 (by omega)
/-! prefixes -/
theorem l2Prefix_last (x1 : Int) (s : Txt) (N : List S50) : Ev (fun k => spec_l2Prefix.j1 k x1 (B s) false N) (if x1 = 0 then B s else B [63]) := by
  refine Ev.step (fun k => spec_l2Prefix.j1.eq_2 ..) (Ev.ifF (by simp) ?_)
  by_cases h : x1 = 0
  · have e : (if x1 = 0 then B s else B [63]) = B s := if_pos h
    rw [e]; exact Ev.ifT h (Ev.now _)
  · have e : (if x1 = 0 then B s else B [63]) = B [63] := if_neg h
    rw [e]; exact Ev.ifF h (Ev.now _)
theorem l2Prefix_ex (N : List S50) : ∀ (d : Nat) (x1 : Int) (s : Txt), x1.toNat ≤ d → x1 < N.length → s.length ≤ 13 → ∃ r : Txt, r.length ≤ 13 ∧ Ev (fun k => spec_l2Prefix.l0 k x1 (B s) N) (B r) := by
  have low : ∀ (x1 : Int) (s : Txt), x1 ≤ 0 → s.length ≤ 13 → ∃ r : Txt, r.length ≤ 13 ∧ Ev (fun k => spec_l2Prefix.l0 k x1 (B s) N) (B r) := by
    intro x1 s h1 h2
    have hl := l2Prefix_last x1 s N
    by_cases h : x1 = 0
    · rw [if_pos h] at hl; exact ⟨s, h2, Ev.step (fun k => spec_l2Prefix.l0.eq_2 ..) (Ev.ifF (by omega) hl)⟩
    · rw [if_neg h] at hl; exact ⟨[63], by simp, Ev.step (fun k => spec_l2Prefix.l0.eq_2 ..) (Ev.ifF (by omega) hl)⟩
  intro d
  induction d with
  | zero => intro x1 s h1 h2 h3; exact low x1 s (by omega) h3
  | succ d ih =>
    intro x1 s h1 h2 h3
    by_cases hp : x1 ≤ 0
    · exact low x1 s hp h3
    by_cases h12 : s.length ≤ 12
    · have hd : decide (((B s).size : Int) ≤ 12) = true := by simp; omega
      by_cases hin : (0 : Int) ≤ (rd_T50 N x1).f0 ∧ (rd_T50 N x1).f0 ≤ 25
      · by_cases hpar : (rd_T50 N x1).f1 ≥ x1
        · refine ⟨[63], by simp, Ev.step (fun k => spec_l2Prefix.l0.eq_2 ..) (Ev.ifT (by omega) ?_)⟩
          rw [hd]
          refine Ev.step (fun k => spec_l2Prefix.j1.eq_2 ..) (Ev.ifT rfl (Ev.ifT (by omega) (Ev.ifT h2 ?_)))
          rw [l1In_eq, decide_eq_true hin]
          exact Ev.some_bind (Ev.ifT rfl (Ev.ifT hpar (Ev.now _)))
        · obtain ⟨r, hr, he⟩ := ih (rd_T50 N x1).f1 (UInt8.ofNat ((wrap64 (97 + (rd_T50 N x1).f0)) % 256).toNat :: s) (by omega) (by omega) (by simp; omega)
          refine ⟨r, hr, Ev.step (fun k => spec_l2Prefix.l0.eq_2 ..) (Ev.ifT (by omega) ?_)⟩
          rw [hd]
          refine Ev.step (fun k => spec_l2Prefix.j1.eq_2 ..) (Ev.ifT rfl (Ev.ifT (by omega) (Ev.ifT h2 ?_)))
          rw [l1In_eq, decide_eq_true hin]
          refine Ev.some_bind (Ev.ifT rfl (Ev.ifF hpar (Ev.some_bind ?_)))
          rw [strOfNums_B, append_B]
          exact Ev.ifT (by simp; omega) he
      · refine ⟨[63], by simp, Ev.step (fun k => spec_l2Prefix.l0.eq_2 ..) (Ev.ifT (by omega) ?_)⟩
        rw [hd]
        refine Ev.step (fun k => spec_l2Prefix.j1.eq_2 ..) (Ev.ifT rfl (Ev.ifT (by omega) (Ev.ifT h2 ?_)))
        rw [l1In_eq, decide_eq_false hin]
        exact Ev.some_bind (Ev.ifF (by simp) (Ev.now _))
    · have hd : decide (((B s).size : Int) ≤ 12) = false := by simp; omega
      refine ⟨[63], by simp, Ev.step (fun k => spec_l2Prefix.l0.eq_2 ..) (Ev.ifT (by omega) ?_)⟩
      rw [hd]
      have hl := l2Prefix_last x1 s N
      rwa [if_neg (by omega)] at hl
theorem l2Prefix_up {P : List Txt} (ws : List Txt) (hA : Asc P) (hC : Clo P) (hW : ∀ p ∈ P, wordL p = true) : ∀ (n : Nat) (p s : Txt), p.length = n → p ∈ P → (p ++ s).length ≤ 12 → Ev (fun k => spec_l2Prefix.l0 k (placeL P p : Int) (B s) (trN P ws)) (B (p ++ s)) := by
  intro n
  induction n with
  | zero =>
    intro p s h1 h2 h3
    have hp : p = [] := List.eq_nil_of_length_eq_zero h1
    subst hp
    obtain ⟨z1, z2⟩ := clo_zero hA hC
    have hz : placeL P [] = 0 := by have := placeL_get hA z1; rwa [z2] at this
    rw [hz]
    have hl := l2Prefix_last ((0 : Nat) : Int) s (trN P ws)
    exact Ev.step (fun k => spec_l2Prefix.l0.eq_2 ..) (Ev.ifF (by simp) (by simpa using hl))
  | succ n ih =>
    intro p s h1 h2 h3
    have hne : p ≠ [] := fun e => by rw [e] at h1; simp at h1
    obtain ⟨i1, i2⟩ := placeL_mem h2
    have i3 : 0 < placeL P p := by
      rcases Nat.eq_zero_or_pos (placeL P p) with h0 | h0
      · rw [h0, (clo_zero hA hC).2] at i2; exact absurd i2.symm hne
      · exact h0
    obtain ⟨j1, j2⟩ := clo_parent hA hC i1 i3
    rw [i2] at j1 j2
    have hsl : s.length ≤ 12 := by rw [List.length_append] at h3; omega
    have hd : decide (((B s).size : Int) ≤ 12) = true := by simp; omega
    have hf : rd_T50 (trN P ws) (placeL P p : Int) = ⟨ltrOf p, (placeL P p.dropLast : Int), decide (p ∈ ws)⟩ := by
      rw [rdN P ws _ i1, i2]; unfold mkN ndL; rw [if_neg hne, if_neg hne]
    obtain ⟨_, b1, b2⟩ := ltrOf_bd (hW p h2) hne
    refine Ev.step (fun k => spec_l2Prefix.l0.eq_2 ..) (Ev.ifT (by omega) ?_)
    rw [hd]
    refine Ev.step (fun k => spec_l2Prefix.j1.eq_2 ..) (Ev.ifT rfl (Ev.ifT (by omega) (Ev.ifT (by rw [trN_length]; omega) ?_)))
    rw [hf, l1In_eq, decide_eq_true ⟨b1, b2⟩]
    refine Ev.some_bind (Ev.ifT rfl (Ev.ifF (by show ¬ ((placeL P p.dropLast : Nat) : Int) ≥ ((placeL P p : Nat) : Int); omega) (Ev.some_bind ?_)))
    rw [letter_back (hW p h2) hne, append_B]
    have hpd : p.dropLast.length = n := by rw [List.length_dropLast]; omega
    have e1 : p.dropLast ++ ([p.getD (p.length - 1) 0] ++ s) = p ++ s := by rw [← List.append_assoc, dropLast_getD p hne]
    refine Ev.ifT (by simp; omega) ?_
    have := ih p.dropLast ([p.getD (p.length - 1) 0] ++ s) hpd (hC.2 p h2 hne) (by rw [e1]; exact h3)
    rwa [e1] at this
theorem l2Prefix_ev {P : List Txt} (ws : List Txt) (hA : Asc P) (hC : Clo P) (hW : ∀ p ∈ P, wordL p = true) (i : Nat) (hi : i < P.length) : Ev (fun k => spec_l2Prefix.f k (trN P ws) (i : Int)) (B (P.getD i [])) := by
  have hm := getD_mem hi
  have := l2Prefix_up ws hA hC hW _ (P.getD i []) [] rfl hm (by rw [List.append_nil]; exact (wordL_iff.1 (hW _ hm)).2)
  rw [placeL_get hA hi, List.append_nil] at this
  exact this
/-! sets -/
def setR : List Txt → List Txt → List ByteArray × Bool
  | [], acc => (acc.map B, decide (acc.length ≤ 40))
  | w :: r, acc => if wordL w = true then setR r (putL acc w) else ([], false)
theorem setR_eq : ∀ (l acc : List Txt), setR l acc = if l.all wordL = true then ((l.foldl putL acc).map B, decide ((l.foldl putL acc).length ≤ 40)) else ([], false)
  | [], acc => rfl
  | w :: r, acc => by
    unfold setR
    rw [setR_eq r (putL acc w), List.all_cons, List.foldl_cons]
    cases h : wordL w with
    | false => rw [if_neg Bool.false_ne_true, if_neg (by rw [Bool.false_and]; exact Bool.false_ne_true)]
    | true => rw [if_pos rfl, Bool.true_and]
theorem l2Set_loop {b : Nat} (hb : b ≤ 1000000) (ws : List Txt) (hl : ws.length ≤ 2147483648) (hw : ∀ w ∈ ws, w.length ≤ b) : ∀ (d i : Nat) (acc : List Txt), i + d = ws.length → acc.length ≤ i → (∀ w ∈ acc, w.length ≤ b) →
    Ev (fun k => spec_l2Set.l0 k (ws.map B) (acc.map B) (i : Int)) (setR (ws.drop i) acc) := by
  intro d
  induction d with
  | zero =>
    intro i acc h1 h2 h3
    rw [List.drop_of_length_le (by omega)]
    refine Ev.step (fun k => spec_l2Set.l0.eq_2 ..) (Ev.ifF (by simp; omega) ?_)
    have : decide (((acc.map B).length : Int) ≤ 40) = decide (acc.length ≤ 40) := by
      rw [List.length_map]; exact decide_eq_decide.2 (by omega)
    rw [this]
    exact Ev.now _
  | succ d ih =>
    intro i acc h1 h2 h3
    have hi : i < ws.length := by omega
    have hm := getD_mem hi
    rw [drop_cons_getD [] hi]
    refine Ev.step (fun k => spec_l2Set.l0.eq_2 ..) (Ev.ifT (by simp; omega) (Ev.ifT (by omega) ?_))
    rw [rdB ws i hi]
    refine Ev.bind (f := fun k t => if t = true then (spec_l2Put.f (acc.map B) (B (ws.getD i []))).bind fun t165 => spec_l2Set.l0 k (ws.map B) t165 (wrap64 ((i : Int) + 1)) else some ([], false)) (l2Word_ev _ (by have := hw _ hm; omega)) ?_
    unfold setR
    cases hq : wordL (ws.getD i []) with
    | false =>
      rw [if_neg Bool.false_ne_true]
      exact Ev.ifF Bool.false_ne_true (Ev.now _)
    | true =>
      rw [if_pos (show true = true from rfl)]
      refine Ev.ifT rfl ?_
      rw [l2Put_eq acc _ (by omega) (fun x hx => by have := h3 x hx; omega)]
      refine Ev.some_bind ?_
      have h6 := putL_length_le acc (ws.getD i [])
      have := ih (i + 1) (putL acc (ws.getD i [])) (by omega) (by omega) (fun x hx => by
        rcases (mem_putL _ _ _).1 hx with rfl | hx
        · exact hw _ hm
        · exact h3 x hx)
      rw [wrap64_succ i (by omega)]
      exact this
theorem l2Set_ev {b : Nat} (ws : List Txt) (hl : ws.length ≤ 2147483648) (hw : ∀ w ∈ ws, w.length ≤ b) (hb : b ≤ 1000000 := by omega) : Ev (fun k => spec_l2Set.f k (ws.map B)) (if ws.all wordL = true then ((setL ws).map B, decide ((setL ws).length ≤ 40)) else ([], false)) := by
  have := l2Set_loop hb ws hl hw ws.length 0 [] (by omega) (by simp) (by simp)
  rw [List.drop_zero, setR_eq] at this
  exact this
/-! the trie of words -/
theorem l2Has_loop (l : List Txt) (p : Txt) (hl : l.length ≤ 4611686018427387903) : ∀ (d i : Nat), i + d = l.length → Ev (fun k => spec_l2Has.l0 k (l.map B) (B p) (i : Int)) (decide (p ∈ l.drop i)) := by
  intro d
  induction d with
  | zero =>
    intro i h
    rw [List.drop_of_length_le (by omega)]
    exact Ev.step (fun k => spec_l2Has.l0.eq_2 ..) (Ev.ifF (by simp; omega) (by simpa using Ev.now false))
  | succ d ih =>
    intro i h
    have hi : i < l.length := by omega
    refine Ev.step (fun k => spec_l2Has.l0.eq_2 ..) (Ev.ifT (by simp; omega) (Ev.ifT (by omega) ?_))
    rw [rdB l i hi, drop_cons_getD [] hi, toList_B, toList_B]
    by_cases e : l.getD i [] = p
    · rw [show decide (p ∈ l.getD i [] :: l.drop (i + 1)) = true from decide_eq_true (by rw [e]; exact List.mem_cons_self)]
      exact Ev.ifT e (Ev.now _)
    · rw [show decide (p ∈ l.getD i [] :: l.drop (i + 1)) = decide (p ∈ l.drop (i + 1)) from decide_eq_decide.2 ⟨fun h => (List.mem_cons.1 h).resolve_left (fun q => e q.symm), fun h => List.mem_cons_of_mem _ h⟩]
      refine Ev.ifF e ?_
      rw [wrap64_succ i (by omega)]
      exact ih (i + 1) (by omega)
theorem l2Has_ev (l : List Txt) (p : Txt) (hl : l.length ≤ 4611686018427387903) : Ev (fun k => spec_l2Has.f k (l.map B) (B p)) (decide (p ∈ l)) := by
  have := l2Has_loop l p hl l.length 0 (by omega)
  rw [List.drop_zero] at this
  exact this
theorem l2Place_loop (l : List Txt) (p : Txt) (hl : l.length ≤ 4611686018427387903) : ∀ (d i : Nat), i + d = l.length → Ev (fun k => spec_l2Place.l0 k (l.map B) (B p) (i : Int)) (if p ∈ l.drop i then ((i + placeL (l.drop i) p : Nat) : Int) else -1) := by
  intro d
  induction d with
  | zero =>
    intro i h
    rw [List.drop_of_length_le (by omega)]
    exact Ev.step (fun k => spec_l2Place.l0.eq_2 ..) (Ev.ifF (by simp; omega) (by simpa using Ev.now (-1 : Int)))
  | succ d ih =>
    intro i h
    have hi : i < l.length := by omega
    refine Ev.step (fun k => spec_l2Place.l0.eq_2 ..) (Ev.ifT (by simp; omega) (Ev.ifT (by omega) ?_))
    rw [rdB l i hi, drop_cons_getD [] hi, toList_B, toList_B]
    by_cases e : l.getD i [] = p
    · rw [if_pos (show p ∈ l.getD i [] :: l.drop (i + 1) from by rw [e]; exact List.mem_cons_self), placeL, if_pos e]
      exact Ev.ifT e (Ev.now _)
    · refine Ev.ifF e ?_
      rw [wrap64_succ i (by omega)]
      have h1 := ih (i + 1) (by omega)
      by_cases hm : p ∈ l.drop (i + 1)
      · rw [if_pos hm] at h1
        rw [if_pos (List.mem_cons_of_mem _ hm), placeL, if_neg e]
        rwa [show i + (placeL (l.drop (i + 1)) p + 1) = i + 1 + placeL (l.drop (i + 1)) p from by omega]
      · rw [if_neg hm] at h1
        rw [if_neg (fun h => hm ((List.mem_cons.1 h).resolve_left (fun q => e q.symm)))]
        exact h1
theorem l2Place_ev (l : List Txt) (p : Txt) (hl : l.length ≤ 4611686018427387903) (h : p ∈ l) : Ev (fun k => spec_l2Place.f k (l.map B) (B p)) (placeL l p : Int) := by
  have := l2Place_loop l p hl l.length 0 (by omega)
  rw [List.drop_zero, if_pos h, Nat.zero_add] at this
  exact this
def begF (w : Txt) : Nat → Nat → List Txt
  | _, 0 => []
  | n, d + 1 => w.take n :: begF w (n + 1) d
theorem begF_eq (w : Txt) : ∀ d n, begF w n d = (List.range d).map fun j => w.take (n + j)
  | 0, _ => rfl
  | d + 1, n => by
    rw [begF, begF_eq w d (n + 1), List.range_succ_eq_map, List.map_cons, List.map_map]
    congr 1
    exact List.map_congr_left fun j _ => by show w.take (n + 1 + j) = w.take (n + (j + 1)); congr 1; omega
theorem begs_begF (w : Txt) : begs w = begF w 1 w.length := by
  rw [begF_eq]
  exact List.map_congr_left fun j _ => by congr 1; omega
theorem begF_len (w : Txt) : ∀ d n, (begF w n d).length = d := fun d n => by rw [begF_eq]; simp
theorem l2Of_in (ws : List Txt) (hl : ws.length ≤ 40) (hw : ∀ w ∈ ws, w.length ≤ 12) (i : Nat) (hi : i < ws.length) (r : List S50) (acc2 : List Txt) (hr : Ev (fun k => spec_l2Of.l0 k (ws.map B) (acc2.map B) ((i + 1 : Nat) : Int)) r) :
    ∀ (d n : Nat) (acc : List Txt), 0 < n → n + d = (ws.getD i []).length + 1 → (begF (ws.getD i []) n d).foldl putL acc = acc2 → acc.length + d ≤ 1000 → (∀ x ∈ acc, x.length ≤ 12) → Ev (fun k => spec_l2Of.l1 k (ws.map B) (acc.map B) (i : Int) (n : Int)) r := by
  have hwi := hw _ (getD_mem hi)
  intro d
  induction d with
  | zero =>
    intro n acc h0 h1 h2 h3 h4
    rw [begF, List.foldl_nil] at h2
    subst h2
    refine Ev.step (fun k => spec_l2Of.l1.eq_2 ..) (Ev.ifT (by omega) (Ev.ifT (by simp; omega) (Ev.ifF (by rw [rdB ws i hi, size_B]; omega) ?_)))
    rw [wrap64_succ i (by omega)]
    exact hr
  | succ d ih =>
    intro n acc h0 h1 h2 h3 h4
    refine Ev.step (fun k => spec_l2Of.l1.eq_2 ..) (Ev.ifT (by omega) (Ev.ifT (by simp; omega) (Ev.ifT (by rw [rdB ws i hi, size_B]; omega) (Ev.ifT (by omega) ?_))))
    rw [rdB ws i hi, extract_B, List.drop_zero, Int.toNat_natCast, Nat.sub_zero, l2Put_eq acc _ (by omega) (fun x hx => by have := h4 x hx; omega)]
    refine Ev.some_bind ?_
    rw [wrap64_succ n (by omega)]
    have h6 := putL_length_le acc ((ws.getD i []).take n)
    exact ih (n + 1) (putL acc ((ws.getD i []).take n)) (by omega) (by omega) (by rw [← h2]; rfl) (by omega) (fun x hx => by
      rcases (mem_putL _ _ _).1 hx with rfl | hx
      · rw [List.length_take]; omega
      · exact h4 x hx)
theorem l2Of_out (ws : List Txt) (hl : ws.length ≤ 40) (hw : ∀ w ∈ ws, w.length ≤ 12) (r : List S50) (all : List Txt) (hr : Ev (fun k => spec_l2Of.l2 k (ws.map B) (all.map B) 0 []) r) :
    ∀ (d i : Nat) (acc : List Txt), i + d = ws.length → ((ws.drop i).flatMap begs).foldl putL acc = all → acc.length + 12 * d ≤ 600 → (∀ x ∈ acc, x.length ≤ 12) → Ev (fun k => spec_l2Of.l0 k (ws.map B) (acc.map B) (i : Int)) r := by
  intro d
  induction d with
  | zero =>
    intro i acc h1 h2 h3 h4
    rw [List.drop_of_length_le (by omega), List.flatMap_nil, List.foldl_nil] at h2
    subst h2
    exact Ev.step (fun k => spec_l2Of.l0.eq_2 ..) (Ev.ifF (by simp; omega) hr)
  | succ d ih =>
    intro i acc h1 h2 h3 h4
    have hi : i < ws.length := by omega
    have hwi := hw _ (getD_mem hi)
    rw [drop_cons_getD [] hi, List.flatMap_cons, List.foldl_append] at h2
    have h5 := foldl_putL_len (begs (ws.getD i [])) acc
    rw [begs_length] at h5
    have hn := ih (i + 1) _ (by omega) h2 (by omega) (fun x hx => by
      rcases (foldl_putL_mem _ _ _).1 hx with hx | hx
      · exact Nat.le_trans (mem_begs.1 hx).2.length_le hwi
      · exact h4 x hx)
    refine Ev.step (fun k => spec_l2Of.l0.eq_2 ..) (Ev.ifT (by simp; omega) ?_)
    exact l2Of_in ws hl hw i hi r _ hn (ws.getD i []).length 1 acc (by omega) (by omega) (by rw [← begs_begF]) (by omega) h4
theorem l2Of_nodes {ws P : List Txt} (hA : Asc P) (hC : Clo P) (hW : ∀ p ∈ P, wordL p = true) (hP : P.length ≤ 1000) (hl : ws.length ≤ 1000) : ∀ (d i : Nat) (acc : List S50), i + d = P.length → acc.length ≤ i →
    Ev (fun k => spec_l2Of.l2 k (ws.map B) (P.map B) (i : Int) acc) (acc ++ ((P.drop i).map fun p => mkN (ndL P ws p))) := by
  intro d
  induction d with
  | zero =>
    intro i acc h1 h2
    rw [List.drop_of_length_le (by omega), List.map_nil, List.append_nil]
    exact Ev.step (fun k => spec_l2Of.l2.eq_2 ..) (Ev.ifF (by simp; omega) (Ev.now _))
  | succ d ih =>
    intro i acc h1 h2
    have hi : i < P.length := by omega
    have hm := getD_mem hi
    rw [drop_cons_getD [] hi, List.map_cons]
    refine Ev.step (fun k => spec_l2Of.l2.eq_2 ..) (Ev.ifT (by simp; omega) (Ev.ifT (by omega) ?_))
    rw [rdB P i hi]
    refine Ev.bind (l2Has_ev ws (P.getD i []) (by omega)) ?_
    have hcons : ∀ x : S50, acc ++ (x :: (P.drop (i + 1)).map fun p => mkN (ndL P ws p)) = (acc ++ [x]) ++ (P.drop (i + 1)).map fun p => mkN (ndL P ws p) := fun x => by simp
    rw [hcons]
    by_cases h0 : i = 0
    · have hp : P.getD i [] = [] := by rw [h0]; exact (clo_zero hA hC).2
      refine Ev.ifF (by omega) (Ev.ifT (by omega) ?_)
      have hx : mkN (ndL P ws (P.getD i [])) = ⟨-1, -1, decide (P.getD i [] ∈ ws)⟩ := by unfold mkN ndL; rw [if_pos hp, if_pos hp]
      rw [hx, wrap64_succ i (by omega)]
      exact ih (i + 1) _ (by omega) (by simp; omega)
    · have hne := clo_pos hA hC hi (by omega)
      have hlen := List.length_pos_iff.2 hne
      have h12 := (wordL_iff.1 (hW _ hm)).2
      have hw1 : wrap64 (((B (P.getD i [])).size : Int) - 1) = ((P.getD i []).length - 1 : Nat) := by rw [size_B, wrap64_id (by omega) (by omega)]; omega
      rw [hw1]
      refine Ev.ifT (by omega) (Ev.ifT (by omega) (Ev.ifT (by rw [size_B]; omega) (Ev.ifT (by rw [size_B]; omega) ?_)))
      rw [extract_B, List.drop_zero, Int.toNat_natCast, Nat.sub_zero, ← List.dropLast_eq_take]
      refine Ev.bind (l2Place_ev P _ (by omega) (hC.2 _ hm hne)) (Ev.ifT (by omega) ?_)
      have hx : mkN (ndL P ws (P.getD i [])) = ⟨((bt (B (P.getD i [])) (((P.getD i []).length - 1 : Nat) : Int)) - 97) % 256, (placeL P (P.getD i []).dropLast : Int), decide (P.getD i [] ∈ ws)⟩ := by
        unfold mkN ndL
        rw [if_neg hne, if_neg hne, bt_B _ _ (by omega)]
        rfl
      rw [hx, wrap64_succ i (by omega)]
      exact ih (i + 1) _ (by omega) (by simp; omega)
theorem l2Of_ev {ws : List Txt} (h : OkW ws) : Ev (fun k => spec_l2Of.f k (ws.map B)) (trN (preL ws) ws) := by
  have h1 := h.pre
  have h2 := h.len
  have hn := l2Of_nodes (ws := ws) (asc_preL ws) (clo_preL ws) (fun p hp => preL_word h.word hp) (by omega) (by omega) (preL ws).length 0 [] (by omega) (by simp)
  rw [List.drop_zero, List.nil_append] at hn
  have e : (preL ws).map (fun p => mkN (ndL (preL ws) ws p)) = trN (preL ws) ws := by unfold trN nodesL; rw [List.map_map]; rfl
  rw [e] at hn
  exact l2Of_out ws h.len h.le _ (preL ws) hn ws.length 0 [[]] (by omega) rfl (by simp; omega) (by simp)
/-! sameness -/
theorem rd_get (N : List S50) (i : Nat) (h : i < N.length) : rd_T50 N (i : Int) = N[i] := by
  unfold rd_T50
  rw [Int.toNat_natCast, getD_lt _ h]
/-! validity -/
theorem okW_setL {ws : List Txt} (h : ws.all wordL = true) (hl : (setL ws).length ≤ 40) : OkW (setL ws) := ⟨asc_setL ws, hl, fun w hw => List.all_eq_true.1 h w ((mem_setL ws w).1 hw)⟩
/-- A list of nodes is the trie of words. -/
def IsTr (N : List S50) : Prop := ∃ ws, OkW ws ∧ N = trN (preL ws) ws
theorem IsTr.len {N : List S50} (h : IsTr N) : 1 ≤ N.length ∧ N.length ≤ 481 := by
  obtain ⟨ws, h, rfl⟩ := h
  rw [trN_length]
  exact ⟨(clo_zero (asc_preL ws) (clo_preL ws)).1, h.pre⟩

end Go.Proofs.YtgagmodkjmegeaaDoor.L

namespace Go.Proofs.YtgagmodkjmegeaaDoor.L
open Go.RowKit Go.Proofs.YtgagmodkjmegeaaDoor.P Go.Proofs.YtgagmodkjmegeaaDoor.M Go.Proofs.YtgagmodkjmegeaaDoorW.PrintWords Go.Proofs.YtgagmodkjmegeaaDoorW.PrintLast Go.Proofs.YtgagmodkjmegeaaDoorW.PrintMore
set_option linter.unusedVariables false
/-! words of a trie -/
theorem l2Words_loop_ex (N : List S50) (hN : N.length ≤ 4294967296) : ∀ (d i : Nat) (acc : List Txt), i + d = N.length → acc.length ≤ i → (∀ w ∈ acc, w.length ≤ 13) →
    ∃ ws : List Txt, ws.length ≤ N.length ∧ (∀ w ∈ ws, w.length ≤ 13) ∧ Ev (fun k => spec_l2Words.l0 k (acc.map B) (i : Int) N) (ws.map B) := by
  intro d
  induction d with
  | zero => intro i acc h1 h2 h3; exact ⟨acc, by omega, h3, Ev.step (fun k => spec_l2Words.l0.eq_2 ..) (Ev.ifF (by omega) (Ev.now _))⟩
  | succ d ih =>
    intro i acc h1 h2 h3
    by_cases hf : (rd_T50 N (i : Int)).f2 = true
    · obtain ⟨r, hr, he⟩ := l2Prefix_ex N i (i : Int) [] (by omega) (by omega) (by simp)
      obtain ⟨ws, w1, w2, w3⟩ := ih (i + 1) (acc ++ [r]) (by omega) (by simp; omega) (fun w hw => by
        rcases List.mem_append.1 hw with hw | hw
        · exact h3 w hw
        · rw [List.mem_singleton.1 hw]; exact hr)
      refine ⟨ws, w1, w2, Ev.step (fun k => spec_l2Words.l0.eq_2 ..) (Ev.ifT (by omega) (Ev.ifT (by omega) (Ev.ifT hf (Ev.bind (f := fun k t => if (acc.map B).length < 8796093022208 then spec_l2Words.l0 k (acc.map B ++ [t]) (wrap64 ((i : Int) + 1)) N else none) he (Ev.ifT (by simp; omega) ?_)))))⟩
      simpa only [wrap64_succ i (by omega), List.map_append, List.map_cons, List.map_nil] using w3
    · obtain ⟨ws, w1, w2, w3⟩ := ih (i + 1) acc (by omega) (by omega) h3
      refine ⟨ws, w1, w2, Ev.step (fun k => spec_l2Words.l0.eq_2 ..) (Ev.ifT (by omega) (Ev.ifT (by omega) (Ev.ifF hf ?_)))⟩
      simpa only [wrap64_succ i (by omega)] using w3
theorem l2Words_ex (N : List S50) (hN : N.length ≤ 4294967296) : ∃ ws : List Txt, ws.length ≤ N.length ∧ (∀ w ∈ ws, w.length ≤ 13) ∧ Ev (fun k => spec_l2Words.f k N) (ws.map B) :=
  l2Words_loop_ex N hN N.length 0 [] (by omega) (by simp) (by simp)
theorem l2Words_loop {P : List Txt} (ws : List Txt) (hA : Asc P) (hC : Clo P) (hW : ∀ p ∈ P, wordL p = true) (hP : P.length ≤ 4294967296) : ∀ (d i : Nat) (acc : List Txt), i + d = P.length → acc.length ≤ i →
    Ev (fun k => spec_l2Words.l0 k (acc.map B) (i : Int) (trN P ws)) ((acc ++ (P.drop i).filter (fun p => decide (p ∈ ws))).map B) := by
  intro d
  induction d with
  | zero =>
    intro i acc h1 h2
    rw [List.drop_of_length_le (by omega)]
    exact Ev.step (fun k => spec_l2Words.l0.eq_2 ..) (Ev.ifF (by rw [trN_length]; omega) (by simpa using Ev.now _))
  | succ d ih =>
    intro i acc h1 h2
    have hi : i < P.length := by omega
    have hf : (rd_T50 (trN P ws) (i : Int)).f2 = decide (P.getD i [] ∈ ws) := by rw [rdN P ws i hi]; rfl
    rw [drop_cons_getD [] hi, List.filter_cons]
    by_cases hm : P.getD i [] ∈ ws
    · rw [decide_eq_true hm] at hf
      rw [decide_eq_true hm, if_pos rfl]
      refine Ev.step (fun k => spec_l2Words.l0.eq_2 ..) (Ev.ifT (by rw [trN_length]; omega) (Ev.ifT (by omega) (Ev.ifT hf (Ev.bind (f := fun k t => if (acc.map B).length < 8796093022208 then spec_l2Words.l0 k (acc.map B ++ [t]) (wrap64 ((i : Int) + 1)) (trN P ws) else none) (l2Prefix_ev ws hA hC hW i hi) (Ev.ifT (by simp; omega) ?_)))))
      have := ih (i + 1) (acc ++ [P.getD i []]) (by omega) (by simp; omega)
      simpa only [wrap64_succ i (by omega), List.map_append, List.map_cons, List.map_nil, List.append_assoc, List.singleton_append] using this
    · rw [decide_eq_false hm] at hf
      rw [decide_eq_false hm, if_neg Bool.false_ne_true]
      refine Ev.step (fun k => spec_l2Words.l0.eq_2 ..) (Ev.ifT (by rw [trN_length]; omega) (Ev.ifT (by omega) (Ev.ifF (by rw [hf]; exact Bool.false_ne_true) ?_)))
      simpa only [wrap64_succ i (by omega)] using ih (i + 1) acc (by omega) (by omega)
theorem l2Words_ev {ws : List Txt} (h : OkW ws) : Ev (fun k => spec_l2Words.f k (trN (preL ws) ws)) (ws.map B) := by
  have := l2Words_loop ws (asc_preL ws) (clo_preL ws) (fun p hp => preL_word h.word hp) (by have := h.pre; omega) (preL ws).length 0 [] (by omega) (by simp)
  rw [List.drop_zero, List.nil_append, filter_preL h.asc] at this
  exact this
theorem node_ne (a b : S50) : (!(a.f0 == b.f0) || (!(a.f1 == b.f1) || (!(a.f2 == b.f2)))) = decide (a ≠ b) := by
  obtain ⟨a0, a1, a2⟩ := a
  obtain ⟨b0, b1, b2⟩ := b
  rw [Bool.eq_iff_iff]
  simp only [Bool.or_eq_true, Bool.not_eq_true', beq_eq_false_iff_ne, decide_eq_true_eq, ne_eq, S50.mk.injEq]
  constructor
  · rintro (h | h | h) ⟨e1, e2, e3⟩
    · exact h e1
    · exact h e2
    · exact h e3
  · intro h
    by_cases e1 : a0 = b0
    · by_cases e2 : a1 = b1
      · exact .inr (.inr fun e3 => h ⟨e1, e2, e3⟩)
      · exact .inr (.inl e2)
    · exact .inl e1
theorem l2Same_loop (M N : List S50) (hM : M.length ≤ 4611686018427387903) : ∀ (d i : Nat), i + d = M.length → i ≤ N.length → Ev (fun k => spec_l2Same.l0 k (i : Int) M N) (decide (M.drop i = N.drop i)) := by
  have fin : ∀ i : Nat, (i = M.length ∨ i = N.length) → i ≤ M.length → i ≤ N.length → Ev (fun k => spec_l2Same.j1 k (i : Int) false M N) (decide (M.drop i = N.drop i)) := by
    intro i h1 h2 h3
    refine Ev.step (fun k => spec_l2Same.j1.eq_2 ..) (Ev.ifF (by simp) ?_)
    have : ((M.length : Int) == (N.length : Int)) = decide (M.drop i = N.drop i) := by
      rw [Bool.eq_iff_iff, beq_iff_eq, decide_eq_true_eq]
      constructor
      · intro e
        rw [List.drop_of_length_le (by omega), List.drop_of_length_le (by omega)]
      · intro e
        have := congrArg List.length e
        rw [List.length_drop, List.length_drop] at this
        omega
    rw [this]
    exact Ev.now _
  intro d
  induction d with
  | zero =>
    intro i h1 h2
    exact Ev.step (fun k => spec_l2Same.l0.eq_2 ..) (Ev.ifF (by omega) (fin i (by omega) (by omega) h2))
  | succ d ih =>
    intro i h1 h2
    refine Ev.step (fun k => spec_l2Same.l0.eq_2 ..) (Ev.ifT (by omega) ?_)
    by_cases hi : i < N.length
    · rw [decide_eq_true (show (i : Int) < (N.length : Int) by omega)]
      refine Ev.step (fun k => spec_l2Same.j1.eq_2 ..) (Ev.ifT rfl (Ev.ifT (by omega) (Ev.ifT (by omega) (Ev.ifT (by omega) ?_))))
      rw [node_ne, rd_get M i (by omega), rd_get N i hi, List.drop_eq_getElem_cons (show i < M.length by omega), List.drop_eq_getElem_cons hi]
      by_cases e : M[i] = N[i]
      · refine Ev.ifF (by simp [e]) ?_
        rw [wrap64_succ i (by omega), show decide (M[i] :: M.drop (i + 1) = N[i] :: N.drop (i + 1)) = decide (M.drop (i + 1) = N.drop (i + 1)) from decide_eq_decide.2 ⟨fun h => (List.cons.inj h).2, fun h => by rw [e, h]⟩]
        exact ih (i + 1) (by omega) (by omega)
      · refine Ev.ifT (by simp [e]) ?_
        rw [show decide (M[i] :: M.drop (i + 1) = N[i] :: N.drop (i + 1)) = false from decide_eq_false fun h => e (List.cons.inj h).1]
        exact Ev.now _
    · rw [decide_eq_false (show ¬ (i : Int) < (N.length : Int) by omega)]
      exact fin i (by omega) (by omega) h2
theorem l2Same_ev (M N : List S50) (hM : M.length ≤ 4611686018427387903) : Ev (fun k => spec_l2Same.f k M N) (decide (M = N)) := by
  have := l2Same_loop M N hM M.length 0 (by omega) (by omega)
  rwa [List.drop_zero, List.drop_zero] at this
theorem l2Trie_ev (N : List S50) : ∃ b : Bool, (b = true ↔ IsTr N) ∧ Ev (fun k => spec_l2Trie.f k N) b := by
  unfold spec_l2Trie.f
  simp only [l1In_eq]
  by_cases hn : 1 ≤ (N.length : Int) ∧ (N.length : Int) ≤ 481
  · rw [decide_eq_true hn]
    by_cases ht : IsTr N
    · refine ⟨true, by simp [ht], Ev.some_bind (Ev.ifT rfl ?_)⟩
      obtain ⟨ws, h, rfl⟩ := ht
      refine Ev.bind (l2Words_ev h) (Ev.bind (l2Set_ev (b := 13) ws (by have := h.len; omega) (fun w hw => by have := h.le w hw; omega)) ?_)
      rw [if_pos (List.all_eq_true.2 h.word), setL_of_asc h.asc]
      refine Ev.ifT (by simpa using h.len) (Ev.bind (l2Of_ev h) (Ev.bind (l2Same_ev _ _ (by rw [trN_length]; have := h.pre; omega)) ?_))
      simpa using Ev.now true
    · refine ⟨false, by simp [ht], Ev.some_bind (Ev.ifT rfl ?_)⟩
      obtain ⟨ws, w1, w2, w3⟩ := l2Words_ex N (by omega)
      refine Ev.bind w3 (Ev.bind (l2Set_ev ws (by omega) w2) ?_)
      by_cases ha : ws.all wordL = true
      · rw [if_pos ha]
        by_cases hl : (setL ws).length ≤ 40
        · have hok := okW_setL ha hl
          refine Ev.ifT (by simpa using hl) (Ev.bind (l2Of_ev hok) (Ev.bind (l2Same_ev _ _ (by rw [trN_length]; have := hok.pre; omega)) ?_))
          rw [show decide (trN (preL (setL ws)) (setL ws) = N) = false from decide_eq_false fun e => ht ⟨_, hok, e.symm⟩]
          exact Ev.now false
        · exact Ev.ifF (by simpa using hl) (Ev.now false)
      · rw [if_neg ha]
        exact Ev.ifF (by simp) (Ev.now false)
  · rw [decide_eq_false hn]
    refine ⟨false, ?_, Ev.some_bind (Ev.ifF (by simp) (Ev.now false))⟩
    simp only [Bool.false_eq_true, false_iff]
    intro h
    have := h.len
    omega

end Go.Proofs.YtgagmodkjmegeaaDoor.L

namespace Go.Proofs.YtgagmodkjmegeaaDoor.L
open Go.RowKit Go.Proofs.YtgagmodkjmegeaaDoor.P Go.Proofs.YtgagmodkjmegeaaDoor.M Go.Proofs.YtgagmodkjmegeaaDoorW.PrintWords Go.Proofs.YtgagmodkjmegeaaDoorW.PrintLast Go.Proofs.YtgagmodkjmegeaaDoorW.PrintMore
set_option linter.unusedVariables false
theorem in_eq (a b c : Int) : impl_in.f a b c = some (decide (b ≤ a ∧ a ≤ c)) := by
  unfold impl_in.f
  by_cases h : b ≤ a
  · rw [if_pos (by omega)]; simp [h]
  · rw [if_neg (by omega)]; simp [h]
abbrev Nd := S50
/-! order of texts -/
theorem bytesLess_eq : ∀ (x y : Txt), Op.bytesLess x y = decide (x < y)
  | [], [] => by rw [decide_eq_false (txt_irrefl [])]; rfl
  | _ :: _, [] => by rw [decide_eq_false (List.not_lt_nil _)]; rfl
  | [], b :: y => by rw [decide_eq_true (List.nil_lt_cons b y)]; rfl
  | a :: x, b :: y => by
    rw [Op.bytesLess, bytesLess_eq x y, Bool.eq_iff_iff, decide_eq_true_eq, List.cons_lt_cons_iff]
    simp
theorem less_eq (x y : Txt) : cmp_Less_string.f (B x) (B y) = some (decide (x < y)) := by
  unfold cmp_Less_string.f cmp_isNaN_string.f
  rw [toList_B, toList_B, ← bytesLess_eq]
  simp
/-- No text is less than the one ahead of it. -/
def Srt (ws : List Txt) : Prop := ∀ j, j + 1 < ws.length → ¬ ws.getD (j + 1) [] < ws.getD j []
theorem Srt.le {ws : List Txt} (h : Srt ws) (i : Nat) : ∀ d, i + d < ws.length → ¬ ws.getD (i + d) [] < ws.getD i []
  | 0, _ => txt_irrefl _
  | d + 1, hd => fun hlt => by
    have h1 := h.le i d (by omega)
    have h2 := h (i + d) (by omega)
    exact h1 (List.lt_of_le_of_lt (List.not_lt.1 h2) hlt)
theorem srt_asc {ws : List Txt} (h : Asc ws) : Srt ws := fun j hj => txt_asymm (asc_get h hj (Nat.lt_succ_self j))
/-! a search by halves -/
theorem half_eq (i j : Nat) (h : i + j ≤ 4611686018427387903) : wrap64 ((IntKind.u64.wrap (wrap64 ((i : Int) + (j : Int)))) / 2) = (((i + j) / 2 : Nat) : Int) := by
  have e1 : wrap64 ((i : Int) + (j : Int)) = ((i + j : Nat) : Int) := by rw [wrap64_id (by omega) (by omega)]; omega
  have e2 : IntKind.u64.wrap (((i + j : Nat) : Int)) = ((i + j : Nat) : Int) := by
    simp [IntKind.wrap, IntKind.bits, IntKind.signed]; omega
  rw [e1, e2, wrap64_id (by omega) (by omega)]
  omega
theorem search_loop (ws : List Txt) (p : Txt) (hl : ws.length ≤ 1000000000) (hs : Srt ws) : ∀ (d i j : Nat), i + d = j → j ≤ ws.length → (∀ m, m < i → ws.getD m [] < p) → (∀ m, j ≤ m → m < ws.length → ¬ ws.getD m [] < p) →
    ∃ q : Nat, q ≤ ws.length ∧ (∀ m, m < q → ws.getD m [] < p) ∧ (∀ m, q ≤ m → m < ws.length → ¬ ws.getD m [] < p) ∧ Ev (fun k => slices_BinarySearch_string_string.l0 k (ws.map B) (B p) (ws.length : Int) (i : Int) (j : Int)) ((q : Int), decide (p ∈ ws)) := by
  intro d
  induction d using Nat.strongRecOn with
  | _ d ih =>
    intro i j h1 h2 h3 h4
    by_cases hij : i < j
    · have hh : (i + j) / 2 < ws.length := by omega
      by_cases hlt : ws.getD ((i + j) / 2) [] < p
      · obtain ⟨q, q1, q2, q3, q4⟩ := ih (j - ((i + j) / 2 + 1)) (by omega) ((i + j) / 2 + 1) j (by omega) h2 (fun m hm => by
          by_cases e : m = (i + j) / 2
          · rw [e]; exact hlt
          · by_cases hmi : m < i
            · exact h3 m hmi
            · have hle := hs.le m ((i + j) / 2 - m) (by omega)
              rw [show m + ((i + j) / 2 - m) = (i + j) / 2 from by omega] at hle
              exact List.lt_of_le_of_lt (List.not_lt.1 hle) hlt) h4
        refine ⟨q, q1, q2, q3, Ev.step (fun k => slices_BinarySearch_string_string.l0.eq_2 ..) (Ev.ifT (by omega) ?_)⟩
        rw [half_eq i j (by omega)]
        refine Ev.ifT (by omega) (Ev.ifT (by rw [List.length_map]; omega) ?_)
        rw [rdB ws _ hh, less_eq, decide_eq_true hlt]
        refine Ev.some_bind (Ev.ifT rfl ?_)
        rw [wrap64_succ _ (by omega)]
        exact q4
      · obtain ⟨q, q1, q2, q3, q4⟩ := ih ((i + j) / 2 - i) (by omega) i ((i + j) / 2) (by omega) (by omega) h3 (fun m hm hml => by
          have hle := hs.le ((i + j) / 2) (m - (i + j) / 2) (by omega)
          rw [show (i + j) / 2 + (m - (i + j) / 2) = m from by omega] at hle
          exact fun hp => hlt (List.lt_of_le_of_lt (List.not_lt.1 hle) hp))
        refine ⟨q, q1, q2, q3, Ev.step (fun k => slices_BinarySearch_string_string.l0.eq_2 ..) (Ev.ifT (by omega) ?_)⟩
        rw [half_eq i j (by omega)]
        refine Ev.ifT (by omega) (Ev.ifT (by rw [List.length_map]; omega) ?_)
        rw [rdB ws _ hh, less_eq, decide_eq_false hlt]
        exact Ev.some_bind (Ev.ifF Bool.false_ne_true q4)
    · obtain rfl : i = j := by omega
      refine ⟨i, h2, h3, h4, Ev.step (fun k => slices_BinarySearch_string_string.l0.eq_2 ..) (Ev.ifF (by omega) ?_)⟩
      by_cases hn : i < ws.length
      · refine Ev.ifT (by omega) (Ev.ifT (by omega) (Ev.ifT (by rw [List.length_map]; omega) ?_))
        rw [rdB ws i hn, toList_B, toList_B]
        by_cases e : ws.getD i [] = p
        · rw [decide_eq_true (show p ∈ ws from e ▸ getD_mem hn)]
          exact Ev.ifT e (Ev.now _)
        · have hm : ¬ p ∈ ws := fun hp => by
            obtain ⟨z1, z2⟩ := placeL_mem hp
            have hz : i ≤ placeL ws p := by
              by_cases hzi : placeL ws p < i
              · have := h3 _ hzi; rw [z2] at this; exact absurd this (txt_irrefl _)
              · omega
            have hle := hs.le i (placeL ws p - i) (by omega)
            rw [show i + (placeL ws p - i) = placeL ws p from by omega, z2] at hle
            exact e (txt_tri (h4 i (Nat.le_refl _) hn) hle)
          rw [decide_eq_false hm]
          refine Ev.ifF e ?_
          unfold slices_isNaN_string.f
          exact Ev.some_bind (Ev.ifF (by simp) (Ev.now _))
      · have hm : ¬ p ∈ ws := fun hp => by
          obtain ⟨z1, z2⟩ := placeL_mem hp
          have := h3 _ (show placeL ws p < i by omega)
          rw [z2] at this
          exact txt_irrefl _ this
        rw [decide_eq_false hm]
        exact Ev.ifF (by omega) (Ev.now _)
theorem search_ev (ws : List Txt) (p : Txt) (hl : ws.length ≤ 1000000000) (hs : Srt ws) : ∃ q : Nat, q ≤ ws.length ∧ (∀ m, m < q → ws.getD m [] < p) ∧ (∀ m, q ≤ m → m < ws.length → ¬ ws.getD m [] < p) ∧ Ev (fun k => slices_BinarySearch_string_string.f k (ws.map B) (B p)) ((q : Int), decide (p ∈ ws)) := by
  unfold slices_BinarySearch_string_string.f
  have := search_loop ws p hl hs ws.length 0 ws.length (by omega) (Nat.le_refl _) (fun m hm => absurd hm (Nat.not_lt_zero _)) (fun m h1 h2 => absurd h2 (by omega))
  rw [List.length_map]
  exact this
/-! sameness -/
/-! prefixes -/
def prefGo : List Nd → List Txt → Option (List Txt)
  | [], acc => some acc
  | n :: r, acc => if 0 ≤ n.f1 ∧ n.f1 < (acc.length : Int) ∧ 0 ≤ n.f0 ∧ n.f0 ≤ 25 then prefGo r (acc ++ [acc.getD n.f1.toNat [] ++ [UInt8.ofNat (97 + n.f0.toNat)]]) else none
def prefR : Option (List Txt) → List ByteArray × Bool
  | some ps => (ps.map B, true)
  | none => ([], false)
theorem letter_eq (n : Int) (h0 : 0 ≤ n) (h1 : n ≤ 25) : impl_letter.f n = some (B [UInt8.ofNat (97 + n.toNat)]) := by
  unfold impl_letter.f
  rw [strOfNums_B]
  congr 3
  rw [wrap64_id (by omega) (by omega)]
  congr 1
  omega
theorem getD_le {acc : List Txt} {b : Nat} (h : ∀ p ∈ acc, p.length ≤ b) (n : Nat) : (acc.getD n []).length ≤ b := by
  by_cases hn : n < acc.length
  · exact h _ (getD_mem hn)
  · rw [List.getD_eq_getElem?_getD, List.getElem?_eq_none (by omega)]; simp
theorem pref_loop (N' : List Nd) (hN : N'.length ≤ 1000000) : ∀ (d i : Nat) (acc : List Txt), i + d = N'.length → acc.length = i + 1 → (∀ p ∈ acc, p.length ≤ i) →
    Ev (fun k => impl_Trie_prefixes.l0 k (acc.map B) N' (N'.length : Int) (i : Int)) (prefR (prefGo (N'.drop i) acc)) := by
  intro d
  induction d with
  | zero =>
    intro i acc h1 h2 h3
    rw [List.drop_of_length_le (by omega)]
    exact Ev.step (fun k => impl_Trie_prefixes.l0.eq_2 ..) (Ev.ifF (by omega) (Ev.now _))
  | succ d ih =>
    intro i acc h1 h2 h3
    have hi : i < N'.length := by omega
    rw [List.drop_eq_getElem_cons hi]
    refine Ev.step (fun k => impl_Trie_prefixes.l0.eq_2 ..) (Ev.ifT (by omega) (Ev.ifT (by omega) (Ev.ifT (by omega) ?_)))
    rw [rd_get N' i hi, in_eq]
    unfold prefGo
    by_cases ha : 0 ≤ N'[i].f1 ∧ N'[i].f1 ≤ (i : Int)
    · rw [decide_eq_true ha]
      refine Ev.some_bind (Ev.ifT rfl ?_)
      rw [in_eq]
      by_cases hb : 0 ≤ N'[i].f0 ∧ N'[i].f0 ≤ 25
      · rw [decide_eq_true hb, if_pos ⟨ha.1, by omega, hb.1, hb.2⟩]
        refine Ev.some_bind (Ev.ifT rfl (Ev.ifT ha.1 (Ev.ifT (by rw [List.length_map]; omega) ?_)))
        rw [letter_eq _ hb.1 hb.2]
        refine Ev.some_bind ?_
        obtain ⟨m, hm⟩ : ∃ m : Nat, N'[i].f1 = (m : Int) := ⟨N'[i].f1.toNat, by omega⟩
        have hml : m < acc.length := by omega
        have hmb := getD_le h3 m
        rw [hm, rdB acc m hml, Int.toNat_natCast]
        refine Ev.ifT (by rw [size_B, size_B, List.length_singleton]; omega) (Ev.ifT (by rw [List.length_map]; omega) ?_)
        rw [append_B, wrap64_succ i (by omega)]
        have := ih (i + 1) (acc ++ [acc.getD m [] ++ [UInt8.ofNat (97 + N'[i].f0.toNat)]]) (by omega) (by simp; omega) (fun p hp => by
          rcases List.mem_append.1 hp with hp | hp
          · have := h3 p hp; omega
          · rw [List.mem_singleton.1 hp]; simp; simpa using hmb)
        rw [List.map_append, List.map_singleton] at this
        exact this
      · rw [decide_eq_false hb, if_neg (fun h => hb h.2.2)]
        exact Ev.some_bind (Ev.ifF Bool.false_ne_true (Ev.now _))
    · rw [decide_eq_false ha, if_neg (fun h => ha ⟨h.1, by omega⟩)]
      exact Ev.some_bind (Ev.ifF Bool.false_ne_true (Ev.now _))
/-- What the prefixes of whatever nodes come to. -/
def prefN (N : List Nd) : Option (List Txt) := if 1 ≤ N.length ∧ N.length ≤ 481 then prefGo (N.drop 1) [[]] else none
theorem prefixes_ev (N : List Nd) : Ev (fun k => impl_Trie_prefixes.f k N) (prefR (prefN N)) := by
  unfold impl_Trie_prefixes.f prefN
  simp only [in_eq]
  by_cases h : 1 ≤ N.length ∧ N.length ≤ 481
  · rw [if_pos h, decide_eq_true (show (1 : Int) ≤ (N.length : Int) ∧ (N.length : Int) ≤ 481 by omega)]
    refine Ev.some_bind (Ev.ifT rfl (Ev.ifT (by omega) (Ev.some_bind ?_)))
    exact pref_loop (N.drop 1) (by rw [List.length_drop]; omega) (N.drop 1).length 0 [[]] (by omega) rfl (by simp)
  · rw [if_neg h, decide_eq_false (show ¬ ((1 : Int) ≤ (N.length : Int) ∧ (N.length : Int) ≤ 481) by omega)]
    exact Ev.some_bind (Ev.ifF Bool.false_ne_true (Ev.now _))
theorem letterB_of (m : Nat) (h : m ≤ 25) : letterB (UInt8.ofNat (97 + m)) = true := by
  have : (UInt8.ofNat (97 + m)).toNat = 97 + m := by simp; omega
  simp only [letterB, this, decide_eq_true_eq]; omega
theorem prefGo_ok : ∀ (r : List Nd) (acc ps : List Txt), prefGo r acc = some ps → (∀ p ∈ acc, ∀ c ∈ p, letterB c = true) → (∀ p ∈ ps, ∀ c ∈ p, letterB c = true) ∧ ps.length = acc.length + r.length
  | [], acc, ps, h, ha => by
    obtain rfl := Option.some.inj h
    exact ⟨ha, rfl⟩
  | n :: r, acc, ps, h, ha => by
    unfold prefGo at h
    by_cases hc : 0 ≤ n.f1 ∧ n.f1 < (acc.length : Int) ∧ 0 ≤ n.f0 ∧ n.f0 ≤ 25
    · rw [if_pos hc] at h
      obtain ⟨h1, h2⟩ := prefGo_ok r _ ps h (fun p hp c hcp => by
        rcases List.mem_append.1 hp with hp | hp
        · exact ha p hp c hcp
        · rw [List.mem_singleton.1 hp] at hcp
          rcases List.mem_append.1 hcp with hcp | hcp
          · exact ha _ (getD_mem (by omega)) c hcp
          · rw [List.mem_singleton.1 hcp]; exact letterB_of _ (by omega))
      exact ⟨h1, by rw [h2]; simp; omega⟩
    · rw [if_neg hc] at h; cases h
theorem letter_last {p : Txt} (hw : wordL p = true) (h : p ≠ []) : UInt8.ofNat (97 + (ltrOf p).toNat) = p.getD (p.length - 1) 0 := by
  obtain ⟨h1, h2, h3⟩ := ltrOf_bd hw h
  have h4 := letter_bd ((wordL_iff.1 hw).1 _ (getLast_mem h))
  have e : 97 + (ltrOf p).toNat = (p.getD (p.length - 1) 0).toNat := by omega
  rw [e]; simp
theorem trN_get {P ws : List Txt} (i : Nat) (h : i < (trN P ws).length) : (trN P ws)[i] = mkN (ndL P ws (P.getD i [])) := by
  have h2 : i < P.length := by rwa [trN_length] at h
  rw [← rdN P ws i h2, rd_get _ i h]
theorem prefGo_tr {P : List Txt} (ws : List Txt) (hA : Asc P) (hC : Clo P) (hW : ∀ p ∈ P, wordL p = true) : ∀ (d i : Nat), i + d = P.length → 0 < i → prefGo ((trN P ws).drop i) (P.take i) = some P := by
  intro d
  induction d with
  | zero =>
    intro i h1 h2
    rw [List.drop_of_length_le (by rw [trN_length]; omega), List.take_of_length_le (by omega)]
    rfl
  | succ d ih =>
    intro i h1 h2
    have hi : i < P.length := by omega
    have hit : i < (trN P ws).length := by rw [trN_length]; exact hi
    have hne := clo_pos hA hC hi h2
    have hm := getD_mem hi
    obtain ⟨j1, j2⟩ := clo_parent hA hC hi h2
    obtain ⟨_, b1, b2⟩ := ltrOf_bd (hW _ hm) hne
    rw [List.drop_eq_getElem_cons hit, trN_get i hit]
    have hx : mkN (ndL P ws (P.getD i [])) = ⟨ltrOf (P.getD i []), (placeL P (P.getD i []).dropLast : Int), decide (P.getD i [] ∈ ws)⟩ := by unfold mkN ndL; rw [if_neg hne, if_neg hne]
    rw [hx]
    unfold prefGo
    have hl : (P.take i).length = i := by rw [List.length_take]; omega
    rw [if_pos ⟨Int.natCast_nonneg _, by show ((placeL P (P.getD i []).dropLast : Nat) : Int) < ((P.take i).length : Int); rw [hl]; exact Int.ofNat_lt.2 j1, b1, b2⟩]
    simp only [Int.toNat_natCast]
    have hg : (P.take i).getD (placeL P (P.getD i []).dropLast) [] = (P.getD i []).dropLast := by
      rw [getD_lt [] (by rw [hl]; exact j1), List.getElem_take, ← getD_lt [] (by omega), j2]
    rw [hg, letter_last (hW _ hm) hne, dropLast_getD _ hne, ← take_succ_getD [] hi]
    exact ih (i + 1) (by omega) (by omega)
theorem prefN_tr {ws : List Txt} (h : OkW ws) : prefN (trN (preL ws) ws) = some (preL ws) := by
  obtain ⟨z1, z2⟩ := clo_zero (asc_preL ws) (clo_preL ws)
  unfold prefN
  rw [trN_length, if_pos ⟨z1, h.pre⟩]
  have := prefGo_tr ws (asc_preL ws) (clo_preL ws) (fun p hp => preL_word h.word hp) ((preL ws).length - 1) 1 (by omega) (by omega)
  rw [show (preL ws).take 1 = [[]] from by rw [take_succ_getD [] z1, z2]; rfl] at this
  exact this
/-! words -/
theorem prefixes_tr {ws : List Txt} (h : OkW ws) : Ev (fun k => impl_Trie_prefixes.f k (trN (preL ws) ws)) ((preL ws).map B, true) := by
  have := prefixes_ev (trN (preL ws) ws)
  rw [prefN_tr h] at this
  exact this
/-! the trie of words -/
theorem trieOf_in (ws0 xs : List Txt) (w : Txt) (hw : w.length ≤ 12) (i : Nat) (hi : i ≤ 100000) (r : List Nd) (acc2 : List Txt) (hr : Ev (fun k => impl_trieOf.l0 k (ws0.map B) (acc2.map B) (xs.map B) (xs.length : Int) ((i + 1 : Nat) : Int)) r) :
    ∀ (d n : Nat) (acc : List Txt), n + d = w.length → acc ++ begF w (n + 1) d = acc2 → acc2.length ≤ 1000000 → Ev (fun k => impl_trieOf.l1 k (ws0.map B) (acc.map B) (B w) (xs.map B) (xs.length : Int) (i : Int) (w.length : Int) (n : Int)) r := by
  intro d
  induction d with
  | zero =>
    intro n acc h1 h2 h3
    rw [begF, List.append_nil] at h2
    subst h2
    refine Ev.step (fun k => impl_trieOf.l1.eq_2 ..) (Ev.ifF (by omega) ?_)
    rw [wrap64_succ i (by omega)]
    exact hr
  | succ d ih =>
    intro n acc h1 h2 h3
    have hl : acc.length ≤ 1000000 := by rw [← h2, List.length_append] at h3; omega
    refine Ev.step (fun k => impl_trieOf.l1.eq_2 ..) (Ev.ifT (by omega) ?_)
    rw [wrap64_succ n (by omega)]
    refine Ev.ifT (by omega) (Ev.ifT (by rw [size_B]; omega) (Ev.ifT (by rw [List.length_map]; omega) ?_))
    rw [extract_B, List.drop_zero, Int.toNat_natCast, Nat.sub_zero]
    have := ih (n + 1) (acc ++ [w.take (n + 1)]) (by omega) (by rw [← h2, begF]; simp) h3
    rw [List.map_append, List.map_singleton] at this
    exact this
theorem trieOf_out (ws0 xs : List Txt) (hl : xs.length ≤ 1000) (hw : ∀ w ∈ xs, w.length ≤ 12) (r : List Nd) (hr : Ev (fun k => impl_trieOf.l2 k (ws0.map B) ((preL xs).map B) ((preL xs).length : Int) 0 []) r) :
    ∀ (d i : Nat) (acc : List Txt), i + d = xs.length → acc ++ (xs.drop i).flatMap begs = [] :: xs.flatMap begs → Ev (fun k => impl_trieOf.l0 k (ws0.map B) (acc.map B) (xs.map B) (xs.length : Int) (i : Int)) r := by
  have hall := flatMap_begs_length xs hw
  have hpl := preL_length hw
  intro d
  induction d with
  | zero =>
    intro i acc h1 h2
    rw [List.drop_of_length_le (by omega), List.flatMap_nil, List.append_nil] at h2
    subst h2
    refine Ev.step (fun k => impl_trieOf.l0.eq_2 ..) (Ev.ifF (by omega) ?_)
    rw [set_eq _ (by rw [List.length_cons]; omega)]
    refine Ev.some_bind (Ev.ifT ?_ ?_)
    · unfold SM.okL
      rw [Bool.and_eq_true, List.all_eq_true, decide_eq_true_eq]
      refine ⟨fun x hx => ?_, by rw [List.length_map]; show (preL xs).length ≤ _; omega⟩
      obtain ⟨y, hy, rfl⟩ := List.mem_map.1 hx
      have hy' : y ∈ preL xs := hy
      have : y.length ≤ 12 := by
        rcases mem_preL.1 hy' with rfl | ⟨w, hw', _, hp⟩
        · simp
        · exact Nat.le_trans hp.length_le (hw w hw')
      rw [decide_eq_true_eq, size_B]; omega
    · rw [List.length_map]
      exact hr
  | succ d ih =>
    intro i acc h1 h2
    have hi : i < xs.length := by omega
    rw [drop_cons_getD [] hi, List.flatMap_cons, ← List.append_assoc] at h2
    refine Ev.step (fun k => impl_trieOf.l0.eq_2 ..) (Ev.ifT (by omega) (Ev.ifT (by omega) (Ev.ifT (by rw [List.length_map]; omega) ?_)))
    rw [rdB xs i hi, size_B]
    have hlen : (acc ++ begs (xs.getD i [])).length ≤ 1000000 := by
      have := congrArg List.length h2
      rw [List.length_append, List.length_cons] at this
      omega
    exact trieOf_in ws0 xs _ (hw _ (getD_mem hi)) i (by omega) r _ (ih (i + 1) _ (by omega) h2) (xs.getD i []).length 0 acc (by omega) (by rw [begs_begF]) hlen
theorem at_take {P : List Txt} (hA : Asc P) (q : Txt) (j : Nat) (hj : j < P.length) (hq : P.getD j [] = q) : ∀ n, n ≤ P.length → j < n → SM.at_ (List.take n (P.map B)) (B q) = (j : Int) := by
  intro n
  induction n with
  | zero => intro _ h; omega
  | succ n ih =>
    intro h1 h2
    have hn : n < P.length := by omega
    rw [← List.map_take, take_succ_getD [] hn, List.map_append, List.map_singleton]
    unfold SM.at_
    rw [List.reverse_append, List.reverse_singleton, List.singleton_append, SM.atR, data_B, data_B]
    by_cases e : P.getD n [] = q
    · have : n = j := asc_inj hA hn hj (e.trans hq.symm)
      rw [if_pos e, List.length_reverse, List.length_map, List.length_take]; omega
    · have hjn : j < n := by
        rcases Nat.lt_or_ge j n with h | h
        · exact h
        · have : j = n := by omega
          subst this; exact absurd hq e
      rw [if_neg e, List.map_take]
      exact ih (by omega) hjn
theorem trieOf_nodes {ws P : List Txt} (hs : Srt ws) (hA : Asc P) (hC : Clo P) (hW : ∀ p ∈ P, wordL p = true) (hP : P.length ≤ 100000) (hl : ws.length ≤ 100000) : ∀ (d i : Nat) (acc : List Nd), i + d = P.length → acc.length ≤ i →
    Ev (fun k => impl_trieOf.l2 k (ws.map B) (P.map B) (P.length : Int) (i : Int) acc) (acc ++ ((P.drop i).map fun p => mkN (ndL P ws p))) := by
  intro d
  induction d with
  | zero =>
    intro i acc h1 h2
    rw [List.drop_of_length_le (by omega), List.map_nil, List.append_nil]
    exact Ev.step (fun k => impl_trieOf.l2.eq_2 ..) (Ev.ifF (by omega) (Ev.now _))
  | succ d ih =>
    intro i acc h1 h2
    have hi : i < P.length := by omega
    have hm := getD_mem hi
    rw [drop_cons_getD [] hi, List.map_cons]
    refine Ev.step (fun k => impl_trieOf.l2.eq_2 ..) (Ev.ifT (by omega) (Ev.ifT (by omega) (Ev.ifT (by rw [List.length_map]; omega) ?_)))
    rw [rdB P i hi]
    obtain ⟨q, _, _, _, hq⟩ := search_ev ws (P.getD i []) (by omega) hs
    refine Ev.bind hq ?_
    have hcons : ∀ x : Nd, acc ++ (x :: (P.drop (i + 1)).map fun p => mkN (ndL P ws p)) = (acc ++ [x]) ++ (P.drop (i + 1)).map fun p => mkN (ndL P ws p) := fun x => by simp
    rw [hcons, toList_B]
    by_cases hp : P.getD i [] = []
    · refine Ev.ifT hp (Ev.ifT (by omega) ?_)
      have hx : mkN (ndL P ws (P.getD i [])) = ⟨-1, -1, decide (P.getD i [] ∈ ws)⟩ := by unfold mkN ndL; rw [if_pos hp, if_pos hp]
      rw [hx, wrap64_succ i (by omega)]
      exact ih (i + 1) _ (by omega) (by simp; omega)
    · have h0 : 0 < i := by
        rcases Nat.eq_zero_or_pos i with e | e
        · rw [e, (clo_zero hA hC).2] at hp; exact absurd rfl hp
        · exact e
      have hlen := List.length_pos_iff.2 hp
      have h12 := (wordL_iff.1 (hW _ hm)).2
      obtain ⟨j1, j2⟩ := clo_parent hA hC hi h0
      have hw1 : wrap64 (((B (P.getD i [])).size : Int) - 1) = ((P.getD i []).length - 1 : Nat) := by rw [size_B, wrap64_id (by omega) (by omega)]; omega
      rw [hw1]
      refine Ev.ifF hp (Ev.ifT (by omega) (Ev.ifT (by rw [size_B]; omega) (Ev.ifT (by rw [size_B]; omega) (Ev.ifT (by omega) ?_))))
      rw [extract_B, List.drop_zero, Int.toNat_natCast, Int.toNat_natCast, Nat.sub_zero, ← List.dropLast_eq_take, at_take hA _ _ (by omega) j2 (i + 1) (by omega) (by omega)]
      have hx : mkN (ndL P ws (P.getD i [])) = ⟨((bt (B (P.getD i [])) (((P.getD i []).length - 1 : Nat) : Int)) - 97) % 256, (placeL P (P.getD i []).dropLast : Int), decide (P.getD i [] ∈ ws)⟩ := by
        unfold mkN ndL
        rw [if_neg hp, if_neg hp, bt_B _ _ (by omega)]
        rfl
      rw [hx, wrap64_succ i (by omega)]
      exact ih (i + 1) _ (by omega) (by simp; omega)
/-- The trie of words in order, which may be there twice. -/
theorem trieOf_srt {ws : List Txt} (hs : Srt ws) (hw : ∀ w ∈ ws, wordL w = true) (hl : ws.length ≤ 1000) : Ev (fun k => impl_trieOf.f k (ws.map B)) (trN (preL ws) ws) := by
  have hle : ∀ w ∈ ws, w.length ≤ 12 := fun w h => (wordL_iff.1 (hw w h)).2
  have hpl := preL_length hle
  have hn := trieOf_nodes hs (asc_preL ws) (clo_preL ws) (fun p hp => preL_word hw hp) (by omega) (by omega) (preL ws).length 0 [] (by omega) (by simp)
  rw [List.drop_zero, List.nil_append] at hn
  have e : (preL ws).map (fun p => mkN (ndL (preL ws) ws p)) = trN (preL ws) ws := by unfold trN nodesL; rw [List.map_map]; rfl
  rw [e] at hn
  unfold impl_trieOf.f
  rw [List.length_map]
  exact trieOf_out ws ws hl hle _ hn ws.length 0 [[]] (by omega) rfl
theorem trieOf_ev {ws : List Txt} (h : OkW ws) : Ev (fun k => impl_trieOf.f k (ws.map B)) (trN (preL ws) ws) := trieOf_srt (srt_asc h.asc) h.word (by have := h.len; omega)
theorem trN_set {ws : List Txt} : trN (preL ws) ws = trN (preL (setL ws)) (setL ws) := by
  have e : preL (setL ws) = preL ws := preL_congr fun w => mem_setL ws w
  rw [e]
  unfold trN nodesL
  rw [List.map_map, List.map_map]
  refine List.map_congr_left fun p _ => ?_
  show mkN (ndL (preL ws) ws p) = mkN (ndL (preL ws) (setL ws) p)
  unfold ndL
  rw [show decide (p ∈ ws) = decide (p ∈ setL ws) from decide_eq_decide.2 (mem_setL ws p).symm]
/-! validity -/

end Go.Proofs.YtgagmodkjmegeaaDoor.L

namespace Go.Proofs.YtgagmodkjmegeaaDoor.L
open Go.RowKit Go.Proofs.YtgagmodkjmegeaaDoor.P Go.Proofs.YtgagmodkjmegeaaDoor.M Go.Proofs.YtgagmodkjmegeaaDoorW.PrintWords Go.Proofs.YtgagmodkjmegeaaDoorW.PrintLast Go.Proofs.YtgagmodkjmegeaaDoorW.PrintMore
set_option linter.unusedVariables false
theorem isSorted_loop (ws : List Txt) (hl : ws.length ≤ 4611686018427387903) : ∀ (n : Nat), n < ws.length → ∃ b : Bool, (b = true ↔ ∀ j, j < n → ¬ ws.getD (j + 1) [] < ws.getD j []) ∧ Ev (fun k => slices_IsSorted_string_string.l0 k (ws.map B) (n : Int)) b := by
  intro n
  induction n with
  | zero =>
    intro _
    exact ⟨true, by simp, Ev.step (fun k => slices_IsSorted_string_string.l0.eq_2 ..) (Ev.ifF (by simp) (Ev.now _))⟩
  | succ n ih =>
    intro hn
    have hw : wrap64 (((n + 1 : Nat) : Int) - 1) = (n : Int) := by rw [wrap64_id (by omega) (by omega)]; omega
    by_cases hlt : ws.getD (n + 1) [] < ws.getD n []
    · refine ⟨false, ?_, Ev.step (fun k => slices_IsSorted_string_string.l0.eq_2 ..) (Ev.ifT (by omega) (Ev.ifT (by omega) (Ev.ifT (by rw [List.length_map]; omega) (Ev.ifT (by rw [hw]; omega) (Ev.ifT (by rw [hw, List.length_map]; omega) ?_)))))⟩
      · simp only [Bool.false_eq_true, false_iff]
        exact fun h => h n (Nat.lt_succ_self n) hlt
      · rw [hw, rdB ws (n + 1) hn, rdB ws n (by omega), less_eq, decide_eq_true hlt]
        exact Ev.some_bind (Ev.ifT rfl (Ev.now _))
    · obtain ⟨b, hb, he⟩ := ih (by omega)
      refine ⟨b, hb.trans ⟨fun h j hj => ?_, fun h j hj => h j (by omega)⟩, Ev.step (fun k => slices_IsSorted_string_string.l0.eq_2 ..) (Ev.ifT (by omega) (Ev.ifT (by omega) (Ev.ifT (by rw [List.length_map]; omega) (Ev.ifT (by rw [hw]; omega) (Ev.ifT (by rw [hw, List.length_map]; omega) ?_)))))⟩
      · by_cases e : j = n
        · rw [e]; exact hlt
        · exact h j (by omega)
      · rw [hw, rdB ws (n + 1) hn, rdB ws n (by omega), less_eq, decide_eq_false hlt]
        exact Ev.some_bind (Ev.ifF Bool.false_ne_true he)
theorem isSorted_ev (ws : List Txt) (hl : ws.length ≤ 4611686018427387903) : ∃ b : Bool, (b = true ↔ Srt ws) ∧ Ev (fun k => slices_IsSorted_string_string.f k (ws.map B)) b := by
  unfold slices_IsSorted_string_string.f
  rcases Nat.eq_zero_or_pos ws.length with h0 | h0
  · refine ⟨true, ⟨fun _ j hj => by omega, fun _ => rfl⟩, ?_⟩
    rw [List.length_map, h0]
    exact Ev.step (fun k => slices_IsSorted_string_string.l0.eq_2 ..) (Ev.ifF (by rw [wrap64_id (by omega) (by omega)]; omega) (Ev.now _))
  · obtain ⟨b, hb, he⟩ := isSorted_loop ws hl (ws.length - 1) (by omega)
    refine ⟨b, hb.trans ⟨fun h j hj => h j (by omega), fun h j hj => h j (by omega)⟩, ?_⟩
    rw [List.length_map, show wrap64 ((ws.length : Int) - 1) = ((ws.length - 1 : Nat) : Int) from by rw [wrap64_id (by omega) (by omega)]; omega]
    exact he
theorem equal_loop (M N : List Nd) (hM : M.length ≤ 4611686018427387903) (he : M.length = N.length) : ∀ (d i : Nat), i + d = M.length → Ev (fun k => impl_Node.l0 k M N (M.length : Int) (i : Int)) (decide (M.drop i = N.drop i)) := by
  intro d
  induction d with
  | zero =>
    intro i h1
    refine Ev.step (fun k => impl_Node.l0.eq_2 ..) (Ev.ifF (by omega) ?_)
    rw [decide_eq_true (show M.drop i = N.drop i by rw [List.drop_of_length_le (by omega), List.drop_of_length_le (by omega)])]
    exact Ev.now _
  | succ d ih =>
    intro i h1
    refine Ev.step (fun k => impl_Node.l0.eq_2 ..) (Ev.ifT (by omega) (Ev.ifT (by omega) (Ev.ifT (by omega) (Ev.ifT (by omega) ?_))))
    rw [node_ne, rd_get M i (by omega), rd_get N i (by omega), List.drop_eq_getElem_cons (show i < M.length by omega), List.drop_eq_getElem_cons (show i < N.length by omega)]
    by_cases e : M[i] = N[i]
    · refine Ev.ifF (by simp [e]) ?_
      rw [wrap64_succ i (by omega), show decide (M[i] :: M.drop (i + 1) = N[i] :: N.drop (i + 1)) = decide (M.drop (i + 1) = N.drop (i + 1)) from decide_eq_decide.2 ⟨fun h => (List.cons.inj h).2, fun h => by rw [e, h]⟩]
      exact ih (i + 1) (by omega)
    · refine Ev.ifT (by simp [e]) ?_
      rw [show decide (M[i] :: M.drop (i + 1) = N[i] :: N.drop (i + 1)) = false from decide_eq_false fun h => e (List.cons.inj h).1]
      exact Ev.now _
theorem equal_ev (M N : List Nd) (hM : M.length ≤ 4611686018427387903) : Ev (fun k => impl_Node.f k M N) (decide (M = N)) := by
  unfold impl_Node.f
  by_cases he : M.length = N.length
  · refine Ev.ifT (by omega) ?_
    have := equal_loop M N hM he M.length 0 (by omega)
    rwa [List.drop_zero, List.drop_zero] at this
  · rw [decide_eq_false fun e => he (by rw [e])]
    exact Ev.ifF (by omega) (Ev.now _)
def wordsGo : List Nd → List Txt → List Txt
  | n :: r, p :: ps => if n.f2 = true then p :: wordsGo r ps else wordsGo r ps
  | _, _ => []
theorem wordsGo_mem : ∀ (N : List Nd) (ps : List Txt) (w : Txt), w ∈ wordsGo N ps → w ∈ ps
  | n :: r, p :: ps, w, h => by
    unfold wordsGo at h
    by_cases hf : n.f2 = true
    · rw [if_pos hf] at h
      rcases List.mem_cons.1 h with e | h
      · rw [e]; exact List.mem_cons_self
      · exact List.mem_cons_of_mem _ (wordsGo_mem r ps w h)
    · rw [if_neg hf] at h
      exact List.mem_cons_of_mem _ (wordsGo_mem r ps w h)
  | [], _, _, h => by simp [wordsGo] at h
  | _ :: _, [], _, h => by simp [wordsGo] at h
theorem wordsGo_len : ∀ (N : List Nd) (ps : List Txt), (wordsGo N ps).length ≤ N.length
  | n :: r, p :: ps => by
    have := wordsGo_len r ps
    unfold wordsGo
    by_cases hf : n.f2 = true
    · rw [if_pos hf, List.length_cons, List.length_cons]; omega
    · rw [if_neg hf, List.length_cons]; omega
  | [], _ => by simp [wordsGo]
  | _ :: _, [] => by simp [wordsGo]
theorem wordsGo_tr (P ws : List Txt) : ∀ Q : List Txt, wordsGo (Q.map fun p => mkN (ndL P ws p)) Q = Q.filter fun p => decide (p ∈ ws)
  | [] => rfl
  | q :: Q => by
    rw [List.map_cons, wordsGo, wordsGo_tr P ws Q, List.filter_cons]
    rfl
theorem words_loop (N : List Nd) (ps : List Txt) (hN : N.length ≤ 1000000) (hp : ps.length = N.length) : ∀ (d i : Nat) (acc : List Txt), i + d = N.length → acc.length ≤ i →
    Ev (fun k => impl_Trie_words.l0 k (ps.map B) (acc.map B) N (N.length : Int) (i : Int)) ((acc ++ wordsGo (N.drop i) (ps.drop i)).map B) := by
  intro d
  induction d with
  | zero =>
    intro i acc h1 h2
    rw [List.drop_of_length_le (by omega)]
    exact Ev.step (fun k => impl_Trie_words.l0.eq_2 ..) (Ev.ifF (by omega) (by simpa [wordsGo] using Ev.now _))
  | succ d ih =>
    intro i acc h1 h2
    have hi : i < N.length := by omega
    rw [List.drop_eq_getElem_cons hi, drop_cons_getD [] (show i < ps.length by omega), wordsGo]
    refine Ev.step (fun k => impl_Trie_words.l0.eq_2 ..) (Ev.ifT (by omega) (Ev.ifT (by omega) (Ev.ifT (by omega) ?_)))
    rw [rd_get N i hi]
    by_cases hf : N[i].f2 = true
    · rw [if_pos hf]
      refine Ev.ifT hf (Ev.ifT (by rw [List.length_map]; omega) (Ev.ifT (by rw [List.length_map]; omega) ?_))
      rw [rdB ps i (by omega), wrap64_succ i (by omega)]
      have := ih (i + 1) (acc ++ [ps.getD i []]) (by omega) (by simp; omega)
      rw [List.map_append (l₁ := acc), List.map_singleton, List.append_assoc] at this
      exact this
    · rw [if_neg hf]
      refine Ev.ifF hf ?_
      rw [wrap64_succ i (by omega)]
      exact ih (i + 1) acc (by omega) (by omega)
theorem words_of {N : List Nd} {ps : List Txt} (h : prefN N = some ps) : N.length ≤ 481 ∧ ps.length = N.length ∧ (∀ p ∈ ps, ∀ c ∈ p, letterB c = true) ∧ Ev (fun k => impl_Trie_words.f k N) ((wordsGo N ps).map B) := by
  have hp := prefixes_ev N
  rw [h] at hp
  unfold prefN at h
  by_cases hn : 1 ≤ N.length ∧ N.length ≤ 481
  · rw [if_pos hn] at h
    obtain ⟨h1, h2⟩ := prefGo_ok _ _ _ h (by simp)
    rw [List.length_drop, List.length_singleton] at h2
    refine ⟨hn.2, by omega, h1, ?_⟩
    unfold impl_Trie_words.f
    refine Ev.bind hp ?_
    exact words_loop N ps (by omega) (by omega) N.length 0 [] (by omega) (by simp)
  · rw [if_neg hn] at h; cases h
theorem words_ev {ws : List Txt} (h : OkW ws) : Ev (fun k => impl_Trie_words.f k (trN (preL ws) ws)) (ws.map B) := by
  obtain ⟨_, _, _, h4⟩ := words_of (prefN_tr h)
  have e : wordsGo (trN (preL ws) ws) (preL ws) = ws := by
    have : trN (preL ws) ws = (preL ws).map fun p => mkN (ndL (preL ws) ws p) := by unfold trN nodesL; rw [List.map_map]; rfl
    rw [this, wordsGo_tr, filter_preL h.asc]
  rwa [e] at h4
theorem isTrie_ev (N : List Nd) : ∃ b : Bool, (b = true ↔ IsTr N) ∧ Ev (fun k => impl_isTrie.f k N) b := by
  have hpre := prefixes_ev N
  have no : ∀ M : List Nd, Ev (fun k => impl_isTrie.j0 k true M) false := fun M => Ev.step (fun k => impl_isTrie.j0.eq_2 ..) (Ev.ifT rfl (Ev.now _))
  cases hp : prefN N with
  | none =>
    rw [hp] at hpre
    refine ⟨false, ?_, ?_⟩
    · simp only [Bool.false_eq_true, false_iff]
      rintro ⟨ws, h, rfl⟩
      rw [prefN_tr h] at hp; cases hp
    · unfold impl_isTrie.f
      exact Ev.bind hpre (Ev.ifF Bool.false_ne_true (no N))
  | some ps =>
    rw [hp] at hpre
    obtain ⟨w1, w2, w3, w4⟩ := words_of hp
    have hany : impl_isTrie_any.f (ps.map B) = some (decide (∃ p ∈ ps, 12 < p.length)) := by
      unfold impl_isTrie_any.f
      congr 1
      rw [Bool.eq_iff_iff, List.any_eq_true, decide_eq_true_eq]
      constructor
      · rintro ⟨x, hx, e⟩
        obtain ⟨y, hy, rfl⟩ := List.mem_map.1 hx
        refine ⟨y, hy, ?_⟩
        unfold impl_isTrie_any.p at e
        rw [size_B, decide_eq_true_eq] at e
        omega
      · rintro ⟨y, hy, e⟩
        refine ⟨B y, List.mem_map.2 ⟨y, hy, rfl⟩, ?_⟩
        unfold impl_isTrie_any.p
        rw [size_B, decide_eq_true_eq]
        omega
    by_cases hlong : ∃ p ∈ ps, 12 < p.length
    · rw [decide_eq_true hlong] at hany
      refine ⟨false, ?_, ?_⟩
      · simp only [Bool.false_eq_true, false_iff]
        rintro ⟨ws, h, rfl⟩
        rw [prefN_tr h] at hp
        obtain rfl := Option.some.inj hp
        obtain ⟨p, hpm, hpl⟩ := hlong
        have := (wordL_iff.1 (preL_word h.word hpm)).2
        omega
      · unfold impl_isTrie.f
        refine Ev.bind hpre (Ev.ifT rfl ?_)
        show Ev (fun k => (impl_isTrie_any.f (ps.map B)).bind _) false
        rw [hany]
        exact Ev.some_bind (no N)
    · rw [decide_eq_false hlong] at hany
      have hword : ∀ w ∈ wordsGo N ps, wordL w = true := fun w hw => by
        have hm := wordsGo_mem N ps w hw
        refine wordL_iff.2 ⟨w3 w hm, ?_⟩
        rcases Nat.lt_or_ge 12 w.length with h | h
        · exact absurd ⟨w, hm, h⟩ hlong
        · exact h
      have hwl := wordsGo_len N ps
      have hcase : ∀ b : Bool, Ev (fun k => impl_isTrie.j0 k false N) b → Ev (fun k => impl_isTrie.f k N) b := fun b hb => by
        unfold impl_isTrie.f
        refine Ev.bind hpre (Ev.ifT rfl ?_)
        show Ev (fun k => (impl_isTrie_any.f (ps.map B)).bind _) b
        rw [hany]
        exact Ev.some_bind hb
      have hval : ∀ ws, OkW ws → N = trN (preL ws) ws → wordsGo N ps = ws := fun ws h e => by
        subst e
        rw [prefN_tr h] at hp
        obtain rfl := Option.some.inj hp
        have : trN (preL ws) ws = (preL ws).map fun p => mkN (ndL (preL ws) ws p) := by unfold trN nodesL; rw [List.map_map]; rfl
        rw [this, wordsGo_tr, filter_preL h.asc]
      by_cases h40 : (wordsGo N ps).length ≤ 40
      · obtain ⟨b, hb, hsv⟩ := isSorted_ev (wordsGo N ps) (by omega)
        by_cases hs : Srt (wordsGo N ps)
        · have hbt := hb.2 hs
          subst hbt
          refine ⟨decide (trN (preL (wordsGo N ps)) (wordsGo N ps) = N), ?_, hcase _ ?_⟩
          · rw [decide_eq_true_eq]
            constructor
            · intro e
              refine ⟨setL (wordsGo N ps), ⟨asc_setL _, Nat.le_trans (setL_length_le _) h40, fun w hw => hword w ((mem_setL _ w).1 hw)⟩, ?_⟩
              rw [← trN_set, e]
            · rintro ⟨ws, h, e⟩
              rw [hval ws h e, e]
          · refine Ev.step (fun k => impl_isTrie.j0.eq_2 ..) (Ev.ifF Bool.false_ne_true (Ev.bind w4 (Ev.ifT (by rw [List.length_map]; omega) (Ev.bind hsv (Ev.ifT rfl (Ev.bind (trieOf_srt hs hword (by omega)) (Ev.bind (equal_ev _ _ ?_) (Ev.now _))))))))
            rw [trN_length]
            have := preL_length (ws := wordsGo N ps) (fun w hw => (wordL_iff.1 (hword w hw)).2)
            omega
        · have hbf : b = false := by
            cases b with
            | false => rfl
            | true => exact absurd (hb.1 rfl) hs
          subst hbf
          refine ⟨false, ?_, hcase _ (Ev.step (fun k => impl_isTrie.j0.eq_2 ..) (Ev.ifF Bool.false_ne_true (Ev.bind w4 (Ev.ifT (by rw [List.length_map]; omega) (Ev.bind hsv (Ev.ifF Bool.false_ne_true (Ev.now _)))))))⟩
          simp only [Bool.false_eq_true, false_iff]
          rintro ⟨ws, h, e⟩
          exact hs (by rw [hval ws h e]; exact srt_asc h.asc)
      · refine ⟨false, ?_, hcase _ (Ev.step (fun k => impl_isTrie.j0.eq_2 ..) (Ev.ifF Bool.false_ne_true (Ev.bind w4 (Ev.ifF (by rw [List.length_map]; omega) (Ev.now _)))))⟩
        simp only [Bool.false_eq_true, false_iff]
        rintro ⟨ws, h, e⟩
        rw [hval ws h e] at h40
        exact h40 h.len

end Go.Proofs.YtgagmodkjmegeaaDoor.L

namespace Go.Proofs.YtgagmodkjmegeaaDoor.L
open Go.RowKit Go.Proofs.YtgagmodkjmegeaaDoor.P Go.Proofs.YtgagmodkjmegeaaDoor.M Go.Proofs.YtgagmodkjmegeaaDoorW.PrintWords Go.Proofs.YtgagmodkjmegeaaDoorW.PrintLast Go.Proofs.YtgagmodkjmegeaaDoorW.PrintMore
set_option linter.unusedVariables false
def toN (l : List S53) : List Nd := l.map fun x => ⟨x.f0, x.f1, x.f2⟩
theorem toN_length (l : List S53) : (toN l).length = l.length := by simp [toN]
theorem szTrie_eq (l : List S53) (h : l.length ≤ 9223372036854775807) : laws_szTrie.f l 1048576 = some (if l.length ≤ 1048576 then 1048576 - (l.length : Int) else -1) := by
  unfold laws_szTrie.f laws_szNodeS.f
  rw [wrap64_id (by omega) (by omega)]
  by_cases hs : l.length ≤ 1048576
  · rw [if_neg (by omega), if_pos hs, Option.bind_some, if_neg (by omega)]
  · rw [if_pos (by omega), if_neg hs, Option.bind_some, if_pos (by omega)]
theorem toNodeS_loop (l : List S53) (hl : l.length ≤ 1048576) : ∀ (d i : Nat), i + d = l.length → Ev (fun k => laws_toNodeS.l0 k l ((toN l).take i ++ List.replicate ((toN l).length - i) z50) (i : Int)) (toN l) := by
  intro d
  induction d with
  | zero =>
    intro i h
    rw [List.take_of_length_le (by rw [toN_length]; omega), show (toN l).length - i = 0 from by rw [toN_length]; omega, List.replicate_zero, List.append_nil]
    exact Ev.step (fun k => laws_toNodeS.l0.eq_2 ..) (Ev.ifF (by omega) (Ev.now _))
  | succ d ih =>
    intro i h
    have hi : i < l.length := by omega
    have hi2 : i < (toN l).length := by rw [toN_length]; exact hi
    have hlen : ((toN l).take i ++ List.replicate ((toN l).length - i) z50).length = l.length := by
      rw [List.length_append, List.length_take, List.length_replicate, toN_length]; omega
    refine Ev.step (fun k => laws_toNodeS.l0.eq_2 ..) (Ev.ifT (by omega) (Ev.ifT (by omega) ?_))
    unfold laws_toNode.f
    refine Ev.some_bind (Ev.ifT (by rw [hlen]; omega) ?_)
    have hx : (⟨(rd_T53 l (i : Int)).f0, (rd_T53 l (i : Int)).f1, (rd_T53 l (i : Int)).f2⟩ : Nd) = (toN l).getD i z50 := by
      unfold rd_T53 toN
      rw [Int.toNat_natCast, getD_lt _ hi, getD_lt _ (by simpa using hi), List.getElem_map]
    rw [hx, Int.toNat_natCast, fill_set _ _ _ hi2, wrap64_succ i (by omega)]
    exact ih (i + 1) (by omega)
theorem toTrie_ev (l : List S53) (hl : l.length ≤ 1048576) : Ev (fun k => laws_toTrie.f k l) (toN l) := by
  unfold laws_toTrie.f laws_toNodeS.f
  refine Ev.bind (f := fun k t => some t) (Ev.ifT (by omega) (Ev.ifT (by omega) ?_)) (Ev.now _)
  have := toNodeS_loop l hl l.length 0 (by omega)
  rw [List.take_zero, List.nil_append, toN_length, Nat.sub_zero] at this
  exact this
theorem eqNode_self (a b : Int) (c : Bool) : laws_eqNode.f a b c a b c = some true := by
  unfold laws_eqNode.f
  rw [if_pos rfl, if_pos rfl, if_neg (by simp)]
theorem eqNodeS_loop (N : List Nd) (hN : N.length ≤ 4611686018427387903) : ∀ (d i : Nat), i + d = N.length → Ev (fun k => laws_eqNodeS.l0 k N N (i : Int)) true := by
  intro d
  induction d with
  | zero => intro i h; exact Ev.step (fun k => laws_eqNodeS.l0.eq_2 ..) (Ev.ifF (by omega) (Ev.now _))
  | succ d ih =>
    intro i h
    refine Ev.step (fun k => laws_eqNodeS.l0.eq_2 ..) (Ev.ifT (by omega) (Ev.ifT (by omega) (Ev.ifT (by omega) ?_)))
    rw [eqNode_self]
    refine Ev.some_bind (Ev.ifT rfl ?_)
    rw [wrap64_succ i (by omega)]
    exact ih (i + 1) (by omega)
theorem eqTrie_ev (N : List Nd) (hN : N.length ≤ 4611686018427387903) : Ev (fun k => laws_eqTrie.f k N N) true := by
  unfold laws_eqTrie.f laws_eqNodeS.f
  exact Ev.bind (f := fun k t => if t = true then some true else some false) (Ev.ifT rfl (eqNodeS_loop N hN N.length 0 (by omega))) (Ev.ifT rfl (Ev.now _))
/-- Both sides ask alike whether a trie is valid. -/
theorem trie_both (N : List Nd) : (IsTr N ∧ Ev (fun k => spec_l2Trie.f k N) true ∧ Ev (fun k => impl_isTrie.f k N) true) ∨ (¬ IsTr N ∧ Ev (fun k => spec_l2Trie.f k N) false ∧ Ev (fun k => impl_isTrie.f k N) false) := by
  obtain ⟨b1, c1, e1⟩ := l2Trie_ev N
  obtain ⟨b2, c2, e2⟩ := isTrie_ev N
  by_cases h : IsTr N
  · obtain rfl := c1.2 h
    obtain rfl := c2.2 h
    exact .inl ⟨h, e1, e2⟩
  · cases b1 with
    | true => exact absurd (c1.1 rfl) h
    | false =>
      cases b2 with
      | true => exact absurd (c2.1 rfl) h
      | false => exact .inr ⟨h, e1, e2⟩

end Go.Proofs.YtgagmodkjmegeaaDoor.L

namespace Go.Proofs.YtgagmodkjmegeaaDoor.L
open Go.RowKit Go.Proofs.YtgagmodkjmegeaaDoor.P Go.Proofs.YtgagmodkjmegeaaDoor.M Go.Proofs.YtgagmodkjmegeaaDoorW.PrintWords Go.Proofs.YtgagmodkjmegeaaDoorW.PrintLast Go.Proofs.YtgagmodkjmegeaaDoorW.PrintMore
set_option linter.unusedVariables false
theorem drawn_both (N : List Nd) : (∃ ws, OkW ws ∧ 0 < ws.length ∧ N = trN (preL ws) ws ∧ Ev (fun k => spec_l9Drawn.f k N) true ∧ Ev (fun k => impl_isDrawn.f k N) true) ∨ (Ev (fun k => spec_l9Drawn.f k N) false ∧ Ev (fun k => impl_isDrawn.f k N) false) := by
  unfold spec_l9Drawn.f impl_isDrawn.f
  rcases trie_both N with ⟨⟨ws, h, rfl⟩, e1, e2⟩ | ⟨h, e1, e2⟩
  · rcases Nat.eq_zero_or_pos ws.length with h0 | h0
    · refine .inr ⟨Ev.bind e1 (Ev.ifT rfl (Ev.bind (l2Words_ev h) ?_)), Ev.bind e2 (Ev.ifT rfl (Ev.bind (words_ev h) ?_))⟩
      · rw [List.length_map, decide_eq_false (by omega)]; exact Ev.now _
      · rw [List.length_map, decide_eq_false (by omega)]; exact Ev.now _
    · refine .inl ⟨ws, h, h0, rfl, Ev.bind e1 (Ev.ifT rfl (Ev.bind (l2Words_ev h) ?_)), Ev.bind e2 (Ev.ifT rfl (Ev.bind (words_ev h) ?_))⟩
      · rw [List.length_map, decide_eq_true (by omega)]; exact Ev.now _
      · rw [List.length_map, decide_eq_true (by omega)]; exact Ev.now _
  · exact .inr ⟨Ev.bind e1 (Ev.ifF Bool.false_ne_true (Ev.now _)), Ev.bind e2 (Ev.ifF Bool.false_ne_true (Ev.now _))⟩

end Go.Proofs.YtgagmodkjmegeaaDoor.L

namespace Go.Proofs.YtgagmodkjmegeaaDoor.L
open Go.RowKit Go.Proofs.YtgagmodkjmegeaaDoor.P Go.Proofs.YtgagmodkjmegeaaDoor.M Go.Proofs.YtgagmodkjmegeaaDoorW.PrintWords Go.Proofs.YtgagmodkjmegeaaDoorW.PrintLast Go.Proofs.YtgagmodkjmegeaaDoorW.PrintMore
set_option linter.unusedVariables false
theorem eqA2_self (a b : Int) : laws_eqIntA2.f a b a b = some true := by unfold laws_eqIntA2.f; simp

end Go.Proofs.YtgagmodkjmegeaaDoor.L

namespace Go.Proofs.YtgagmodkjmegeaaDoor.L
open Go.RowKit Go.Proofs.YtgagmodkjmegeaaDoor.P Go.Proofs.YtgagmodkjmegeaaDoor.M Go.Proofs.YtgagmodkjmegeaaDoorW.PrintWords Go.Proofs.YtgagmodkjmegeaaDoorW.PrintLast Go.Proofs.YtgagmodkjmegeaaDoorW.PrintMore
set_option linter.unusedVariables false
theorem areLettersW_eq (l : List UInt8) (hl : l.length ≤ 9223372036854775807) : impl_areLetters.f (B l) = some (l.all letterB) := by
  unfold impl_areLetters.f
  rw [if_pos (by simpa using hl), data_B]
  rfl
theorem isWord_eq (l : List UInt8) : impl_isWord.f (B l) = some (wordL l) := by
  unfold impl_isWord.f wordL
  by_cases h : l.length ≤ 12
  · rw [if_pos (by simp; omega), areLettersW_eq l (by omega)]; simp [h]
  · rw [if_neg (by simp; omega)]; simp [h]

end Go.Proofs.YtgagmodkjmegeaaDoor.L

namespace Go.Proofs.YtgagmodkjmegeaaDoor.L
open Go.RowKit Go.Proofs.YtgagmodkjmegeaaDoor.P Go.Proofs.YtgagmodkjmegeaaDoor.M Go.Proofs.YtgagmodkjmegeaaDoorW.PrintWords Go.Proofs.YtgagmodkjmegeaaDoorW.PrintLast Go.Proofs.YtgagmodkjmegeaaDoorW.PrintMore
set_option linter.unusedVariables false
theorem f1_iff {P : List Txt} (ws : List Txt) (hA : Asc P) (hC : Clo P) {i j : Nat} (hi : i < P.length) (hj : j < P.length) : (rd_T50 (trN P ws) (j : Int)).f1 = (i : Int) ↔ P.getD j [] ≠ [] ∧ (P.getD j []).dropLast = P.getD i [] := by
  rw [rdN P ws j hj]
  unfold mkN ndL
  by_cases h0 : P.getD j [] = []
  · rw [if_pos h0, if_pos h0]
    exact ⟨fun e => by have : (-1 : Int) = (i : Int) := e; omega, fun h => absurd h0 h.1⟩
  · rw [if_neg h0, if_neg h0]
    obtain ⟨_, h2⟩ := placeL_mem (hC.2 _ (getD_mem hj) h0)
    constructor
    · intro e
      have e2 : placeL P (P.getD j []).dropLast = i := by have : ((placeL P (P.getD j []).dropLast : Nat) : Int) = (i : Int) := e; omega
      rw [e2] at h2
      exact ⟨h0, h2.symm⟩
    · rintro ⟨_, e⟩
      show ((placeL P (P.getD j []).dropLast : Nat) : Int) = (i : Int)
      rw [e, placeL_get hA hi]
/-- The places of the kids, from n on. -/
def kidF (P : List Txt) (p : Txt) : Nat → Nat → List Int
  | _, 0 => []
  | n, d + 1 => (if P.getD n [] ≠ [] ∧ (P.getD n []).dropLast = p then [(n : Int)] else []) ++ kidF P p (n + 1) d
def kidI (P : List Txt) (p : Txt) : List Int := kidF P p 0 P.length
theorem kidF_len (P : List Txt) (p : Txt) : ∀ d n, n + d = P.length → (kidF P p n d).length = ((P.drop n).filter fun q => decide (q ≠ [] ∧ q.dropLast = p)).length
  | 0, n, h => by rw [List.drop_of_length_le (by omega)]; rfl
  | d + 1, n, h => by
    rw [kidF, List.length_append, kidF_len P p d (n + 1) (by omega), drop_cons_getD [] (show n < P.length by omega), List.filter_cons]
    by_cases hc : P.getD n [] ≠ [] ∧ (P.getD n []).dropLast = p
    · rw [if_pos hc, if_pos (decide_eq_true hc)]; simp only [List.length_cons, List.length_nil]; omega
    · rw [if_neg hc, if_neg (by rw [decide_eq_false hc]; exact Bool.false_ne_true), List.length_nil]; omega
theorem kidI_len (P : List Txt) (p : Txt) : (kidI P p).length = (kidsL P p).length := by
  have := kidF_len P p P.length 0 (by omega)
  rw [List.drop_zero] at this
  exact this
theorem kidF_le (P : List Txt) (p : Txt) : ∀ d n, (kidF P p n d).length ≤ d
  | 0, _ => Nat.le_refl _
  | d + 1, n => by
    have := kidF_le P p d (n + 1)
    rw [kidF, List.length_append]
    split
    · rw [List.length_singleton]; omega
    · rw [List.length_nil]; omega
theorem kidF_split (P : List Txt) (p : Txt) : ∀ a n d, kidF P p n (a + d) = kidF P p n a ++ kidF P p (n + a) d
  | 0, n, d => by rw [Nat.zero_add, Nat.add_zero]; rfl
  | a + 1, n, d => by
    rw [show a + 1 + d = (a + d) + 1 from by omega, kidF, kidF, kidF_split P p a (n + 1) d, List.append_assoc, show n + 1 + a = n + (a + 1) from by omega]
theorem kidF_none {P : List Txt} (hA : Asc P) {i : Nat} (hi : i < P.length) : ∀ d n, n + d ≤ i + 1 → kidF P (P.getD i []) n d = []
  | 0, _, _ => rfl
  | d + 1, n, h => by
    rw [kidF, kidF_none hA hi d (n + 1) (by omega), if_neg, List.append_nil]
    rintro ⟨h1, h2⟩
    have h3 := txt_dropLast_lt _ h1
    rw [h2] at h3
    have := asc_get_lt hA hi (show n < P.length by omega) h3
    omega
theorem kids_ev {P : List Txt} (ws : List Txt) (hA : Asc P) (hC : Clo P) (hP : P.length ≤ 1000000) {i : Nat} (hi : i < P.length) : Ev (fun k => impl_Trie_kids.f k (trN P ws) (i : Int)) (kidI P (P.getD i [])) := by
  have loop : ∀ d n (acc : List Int), n + d = P.length → acc.length ≤ n → Ev (fun k => impl_Trie_kids.l0 k (i : Int) acc (trN P ws) ((trN P ws).length : Int) (n : Int)) (acc ++ kidF P (P.getD i []) n d) := by
    intro d
    induction d with
    | zero =>
      intro n acc h1 h2
      rw [kidF, List.append_nil]
      exact Ev.step (fun k => impl_Trie_kids.l0.eq_2 ..) (Ev.ifF (by rw [trN_length]; omega) (Ev.now _))
    | succ d ih =>
      intro n acc h1 h2
      have hn : n < P.length := by omega
      refine Ev.step (fun k => impl_Trie_kids.l0.eq_2 ..) (Ev.ifT (by rw [trN_length]; omega) (Ev.ifT (by omega) (Ev.ifT (by rw [trN_length]; omega) ?_)))
      rw [kidF, wrap64_succ n (by omega)]
      by_cases hc : P.getD n [] ≠ [] ∧ (P.getD n []).dropLast = P.getD i []
      · rw [if_pos hc, ← List.append_assoc]
        exact Ev.ifT ((f1_iff ws hA hC hi hn).2 hc) (Ev.ifT (by omega) (ih (n + 1) _ (by omega) (by simp; omega)))
      · rw [if_neg hc, List.nil_append]
        exact Ev.ifF (fun h => hc ((f1_iff ws hA hC hi hn).1 h)) (ih (n + 1) acc (by omega) (by omega))
  exact loop P.length 0 [] (by omega) (by simp)
theorem l2Kids_ev {P : List Txt} (ws : List Txt) (hA : Asc P) (hC : Clo P) (hP : P.length ≤ 1000000) {i : Nat} (hi : i < P.length) : Ev (fun k => spec_l2Kids.f k (trN P ws) (i : Int)) (kidI P (P.getD i [])) := by
  have loop : ∀ d n (acc : List Int), n + d = P.length → acc.length ≤ n → Ev (fun k => spec_l2Kids.l0 k (i : Int) acc (n : Int) (trN P ws)) (acc ++ kidF P (P.getD i []) n d) := by
    intro d
    induction d with
    | zero =>
      intro n acc h1 h2
      rw [kidF, List.append_nil]
      exact Ev.step (fun k => spec_l2Kids.l0.eq_2 ..) (Ev.ifF (by rw [trN_length]; omega) (Ev.now _))
    | succ d ih =>
      intro n acc h1 h2
      have hn : n < P.length := by omega
      refine Ev.step (fun k => spec_l2Kids.l0.eq_2 ..) (Ev.ifT (by rw [trN_length]; omega) (Ev.ifT (by omega) ?_))
      rw [kidF, wrap64_succ n (by omega)]
      by_cases hc : P.getD n [] ≠ [] ∧ (P.getD n []).dropLast = P.getD i []
      · rw [if_pos hc, ← List.append_assoc]
        exact Ev.ifT ((f1_iff ws hA hC hi hn).2 hc) (Ev.ifT (by omega) (ih (n + 1) _ (by omega) (by simp; omega)))
      · rw [if_neg hc, List.nil_append]
        exact Ev.ifF (fun h => hc ((f1_iff ws hA hC hi hn).1 h)) (ih (n + 1) acc (by omega) (by omega))
  have h := loop (P.length - (i + 1)) (i + 1) [] (by omega) (by simp)
  have e : kidI P (P.getD i []) = kidF P (P.getD i []) (i + 1) (P.length - (i + 1)) := by
    unfold kidI
    have h1 := kidF_split P (P.getD i []) (i + 1) 0 (P.length - (i + 1))
    rw [show i + 1 + (P.length - (i + 1)) = P.length from by omega, kidF_none hA hi (i + 1) 0 (by omega), List.nil_append, Nat.zero_add] at h1
    exact h1
  rw [e]
  unfold spec_l2Kids.f
  rw [wrap64_succ i (by omega)]
  exact h

end Go.Proofs.YtgagmodkjmegeaaDoor.L

namespace Go.Proofs.YtgagmodkjmegeaaDoor.L
open Go.RowKit Go.Proofs.YtgagmodkjmegeaaDoor.P Go.Proofs.YtgagmodkjmegeaaDoor.M Go.Proofs.YtgagmodkjmegeaaDoorW.PrintWords Go.Proofs.YtgagmodkjmegeaaDoorW.PrintLast Go.Proofs.YtgagmodkjmegeaaDoorW.PrintMore
set_option linter.unusedVariables false
theorem f0_eq {P : List Txt} (ws : List Txt) (hW : ∀ p ∈ P, wordL p = true) {j : Nat} (hj : j < P.length) (hne : P.getD j [] ≠ []) : (rd_T50 (trN P ws) (j : Int)).f0 = (((P.getD j []).getD ((P.getD j []).length - 1) 0).toNat : Int) - 97 := by
  rw [rdN P ws j hj]
  unfold mkN ndL
  rw [if_neg hne]
  exact (ltrOf_bd (hW _ (getD_mem hj)) hne).1
theorem node_iff {P : List Txt} (ws : List Txt) (hA : Asc P) (hC : Clo P) (hW : ∀ p ∈ P, wordL p = true) {i j : Nat} (hi : i < P.length) (hj : j < P.length) (c : UInt8) :
    ((rd_T50 (trN P ws) (j : Int)).f1 = (i : Int) ∧ (rd_T50 (trN P ws) (j : Int)).f0 = (c.toNat : Int) - 97) ↔ P.getD j [] = P.getD i [] ++ [c] := by
  rw [f1_iff ws hA hC hi hj]
  constructor
  · rintro ⟨⟨h1, h2⟩, h3⟩
    rw [f0_eq ws hW hj h1] at h3
    have h4 : (P.getD j []).getD ((P.getD j []).length - 1) 0 = c := UInt8.toNat_inj.1 (by omega)
    rw [← h2, ← h4, dropLast_getD _ h1]
  · intro h
    have h1 : P.getD j [] ≠ [] := by rw [h]; simp
    have h2 : (P.getD j []).dropLast = P.getD i [] := by rw [h]; simp
    refine ⟨⟨h1, h2⟩, ?_⟩
    rw [f0_eq ws hW hj h1, h]
    simp
theorem kid_loop {P : List Txt} (ws : List Txt) (hA : Asc P) (hC : Clo P) (hW : ∀ p ∈ P, wordL p = true) (hP : P.length ≤ 1000000) {i : Nat} (hi : i < P.length) (c : UInt8) : ∀ d j, j + d = P.length → (∀ m, m < j → P.getD m [] ≠ P.getD i [] ++ [c]) →
    Ev (fun k => spec_l2Kid.l0 k (i : Int) ((c.toNat : Int) - 97) (j : Int) (trN P ws)) (if P.getD i [] ++ [c] ∈ P then (placeL P (P.getD i [] ++ [c]) : Int) else -1) := by
  intro d
  induction d with
  | zero =>
    intro j h1 h2
    rw [if_neg fun hm => ?_]
    · exact Ev.step (fun k => spec_l2Kid.l0.eq_2 ..) (Ev.ifF (by rw [trN_length]; omega) (Ev.now _))
    · obtain ⟨z1, z2⟩ := placeL_mem hm
      exact h2 _ (by omega) z2
  | succ d ih =>
    intro j h1 h2
    have hj : j < P.length := by omega
    have hn := node_iff ws hA hC hW hi hj c
    refine Ev.step (fun k => spec_l2Kid.l0.eq_2 ..) (Ev.ifT (by rw [trN_length]; omega) (Ev.ifT (by omega) ?_))
    by_cases e : P.getD j [] = P.getD i [] ++ [c]
    · obtain ⟨e1, e2⟩ := hn.2 e
      rw [if_pos (e ▸ getD_mem hj), ← e, placeL_get hA hj]
      exact Ev.ifT e1 (Ev.ifT e2 (Ev.now _))
    · have hnext := ih (j + 1) (by omega) (fun m hm => by
        by_cases hmj : m = j
        · rw [hmj]; exact e
        · exact h2 m (by omega))
      rw [wrap64_succ j (by omega)]
      by_cases e1 : (rd_T50 (trN P ws) (j : Int)).f1 = (i : Int)
      · exact Ev.ifT e1 (Ev.ifF (fun e2 => e (hn.1 ⟨e1, e2⟩)) hnext)
      · exact Ev.ifF e1 hnext
theorem kid_ev {P : List Txt} (ws : List Txt) (hA : Asc P) (hC : Clo P) (hW : ∀ p ∈ P, wordL p = true) (hP : P.length ≤ 1000000) {i : Nat} (hi : i < P.length) (c : UInt8) :
    Ev (fun k => spec_l2Kid.f k (trN P ws) (i : Int) ((c.toNat : Int) - 97)) (if P.getD i [] ++ [c] ∈ P then (placeL P (P.getD i [] ++ [c]) : Int) else -1) := by
  unfold spec_l2Kid.f
  rw [wrap64_succ i (by omega)]
  refine kid_loop ws hA hC hW hP hi c (P.length - (i + 1)) (i + 1) (by omega) fun m hm e => ?_
  have h1 := txt_lt_snoc (P.getD i []) c
  rw [← e] at h1
  have := asc_get_lt hA hi (by omega) h1
  omega
/-- The node of a text: its place, or -1. -/
theorem node_loop {P : List Txt} (ws : List Txt) (hA : Asc P) (hC : Clo P) (hW : ∀ p ∈ P, wordL p = true) (hP : P.length ≤ 1000000) (w : Txt) (hw : w.length ≤ 1000000) : ∀ d n, n + d = w.length → w.take n ∈ P →
    Ev (fun k => spec_l2Node.l0 k (B w) ((placeL P (w.take n) : Nat) : Int) (n : Int) (trN P ws)) (if w ∈ P then (placeL P w : Int) else -1) := by
  intro d
  induction d with
  | zero =>
    intro n h1 h2
    rw [List.take_of_length_le (by omega)] at h2 ⊢
    rw [if_pos h2]
    exact Ev.step (fun k => spec_l2Node.l0.eq_2 ..) (Ev.ifF (by rw [size_B]; omega) (Ev.now _))
  | succ d ih =>
    intro n h1 h2
    have hn : n < w.length := by omega
    obtain ⟨z1, z2⟩ := placeL_mem h2
    refine Ev.step (fun k => spec_l2Node.l0.eq_2 ..) (Ev.ifT (by rw [size_B]; omega) (Ev.ifT (by omega) (Ev.ifT (by omega) ?_)))
    rw [bt_B w n hn, wrap64_id (x := ((w.getD n 0).toNat : Int)) (by omega) (by have := (w.getD n 0).toNat_lt; omega), wrap64_id (by omega) (by have := (w.getD n 0).toNat_lt; omega), wrap64_succ n (by omega)]
    refine Ev.bind (kid_ev ws hA hC hW hP z1 (w.getD n 0)) ?_
    rw [z2, ← take_succ_getD 0 hn]
    by_cases hm : w.take (n + 1) ∈ P
    · rw [if_pos hm]
      exact ih (n + 1) (by omega) hm
    · rw [if_neg hm, if_neg]
      · by_cases he : n + 1 < w.length
        · exact Ev.step (fun k => spec_l2Node.l0.eq_2 ..) (Ev.ifT (by rw [size_B]; omega) (Ev.ifF (by omega) (Ev.now _)))
        · exact Ev.step (fun k => spec_l2Node.l0.eq_2 ..) (Ev.ifF (by rw [size_B]; omega) (Ev.now _))
      · intro hwP
        have : ∀ m, m ≤ w.length → w.take (w.length - m) ∈ P := by
          intro m
          induction m with
          | zero => intro _; rw [Nat.sub_zero, List.take_of_length_le (Nat.le_refl _)]; exact hwP
          | succ m ihm =>
            intro hml
            have h5 := ihm (by omega)
            have hne : w.take (w.length - m) ≠ [] := fun e => by
              have := congrArg List.length e
              rw [List.length_take, List.length_nil] at this; omega
            have h6 := hC.2 _ h5 hne
            rw [List.dropLast_eq_take, List.length_take, Nat.min_eq_left (show w.length - m ≤ w.length by omega), List.take_take, Nat.min_eq_left (show w.length - m - 1 ≤ w.length - m by omega)] at h6
            rw [show w.length - (m + 1) = w.length - m - 1 from by omega]
            exact h6
        exact hm (by have := this (w.length - (n + 1)) (by omega); rwa [show w.length - (w.length - (n + 1)) = n + 1 from by omega] at this)
theorem l2Node_ev {P : List Txt} (ws : List Txt) (hA : Asc P) (hC : Clo P) (hW : ∀ p ∈ P, wordL p = true) (hP : P.length ≤ 1000000) (w : Txt) (hw : w.length ≤ 1000000) : Ev (fun k => spec_l2Node.f k (trN P ws) (B w)) (if w ∈ P then (placeL P w : Int) else -1) := by
  obtain ⟨z1, z2⟩ := clo_zero hA hC
  have h0 : placeL P [] = 0 := by have := placeL_get hA z1; rwa [z2] at this
  have := node_loop ws hA hC hW hP w hw w.length 0 (by omega) (by rw [List.take_zero]; exact hC.1)
  rw [List.take_zero, h0] at this
  exact this

end Go.Proofs.YtgagmodkjmegeaaDoor.L

namespace Go.Proofs.YtgagmodkjmegeaaDoor.L
open Go.RowKit Go.Proofs.YtgagmodkjmegeaaDoor.P Go.Proofs.YtgagmodkjmegeaaDoor.M Go.Proofs.YtgagmodkjmegeaaDoorW.PrintWords Go.Proofs.YtgagmodkjmegeaaDoorW.PrintLast Go.Proofs.YtgagmodkjmegeaaDoorW.PrintMore
set_option linter.unusedVariables false
theorem wrap_shift (x k : Int) : wrap64 (x - k * 18446744073709551616) = wrap64 x := by unfold wrap64; omega
theorem wrap_ex (x : Int) : ∃ k : Int, wrap64 x = x - k * 18446744073709551616 := ⟨(x + 9223372036854775808) / 18446744073709551616, by unfold wrap64; omega⟩
theorem wrap_mul_l (a b : Int) : wrap64 (wrap64 a * b) = wrap64 (a * b) := by
  obtain ⟨k, hk⟩ := wrap_ex a
  rw [hk, Int.sub_mul, show k * 18446744073709551616 * b = (k * b) * 18446744073709551616 from by rw [Int.mul_assoc, Int.mul_assoc, Int.mul_comm 18446744073709551616 b], wrap_shift]
theorem wrap_mul_r (a b : Int) : wrap64 (a * wrap64 b) = wrap64 (a * b) := by rw [Int.mul_comm, wrap_mul_l, Int.mul_comm]
/-- How many choices there are at a node. -/
def chc (P ws : List Txt) (p : Txt) : Nat := (kidsL P p).length + (if p ∈ ws then 1 else 0)
/-- The product of the choices along the way to a text. -/
def denF (P ws : List Txt) : Nat → Txt → Nat
  | 0, _ => chc P ws []
  | n + 1, p => chc P ws p * denF P ws n p.dropLast
def den (P ws : List Txt) (p : Txt) : Nat := denF P ws p.length p
theorem den_step (P ws : List Txt) {p : Txt} (h : p ≠ []) : den P ws p = chc P ws p * den P ws p.dropLast := by
  unfold den
  obtain ⟨n, hn⟩ : ∃ n, p.length = n + 1 := ⟨p.length - 1, by have := List.length_pos_iff.2 h; omega⟩
  rw [hn, denF, show p.dropLast.length = n from by rw [List.length_dropLast]; omega]
theorem den_nil (P ws : List Txt) : den P ws [] = chc P ws [] := rfl
theorem choices_ev {P : List Txt} (ws : List Txt) (hA : Asc P) (hC : Clo P) (hP : P.length ≤ 1000000) {i : Nat} (hi : i < P.length) : Ev (fun k => spec_l9Choices.f k (trN P ws) (i : Int)) ((chc P ws (P.getD i []) : Nat) : Int) := by
  unfold spec_l9Choices.f
  refine Ev.bind (l2Kids_ev ws hA hC hP hi) (Ev.ifT (by omega) (Ev.ifT (by rw [trN_length]; omega) ?_))
  have hk := kidI_len P (P.getD i [])
  have hkl := kidF_le P (P.getD i []) P.length 0
  have hkl2 : (kidI P (P.getD i [])).length ≤ 1000000 := Nat.le_trans hkl hP
  have hf : (rd_T50 (trN P ws) (i : Int)).f2 = decide (P.getD i [] ∈ ws) := by rw [rdN P ws i hi]; rfl
  unfold chc
  rw [hf, ← hk]
  by_cases hm : P.getD i [] ∈ ws
  · rw [if_pos hm]
    refine Ev.ifT (decide_eq_true hm) ?_
    rw [wrap64_id (by omega) (by omega), Int.natCast_add]
    exact Ev.now _
  · rw [if_neg hm, Nat.add_zero]
    exact Ev.ifF (by rw [decide_eq_false hm]; exact Bool.false_ne_true) (Ev.now _)
theorem descent_up {P : List Txt} (ws : List Txt) (hA : Asc P) (hC : Clo P) (hP : P.length ≤ 1000000) : ∀ (n : Nat) (p : Txt) (b : Int), p.length = n → p ∈ P → Ev (fun k => spec_l9Descent.l0 k ((placeL P p : Nat) : Int) b (trN P ws)) (1, if True then wrap64 (b * (den P ws p : Nat)) else 0) := by
  intro n
  induction n with
  | zero =>
    intro p b h1 h2
    have hp : p = [] := List.eq_nil_of_length_eq_zero h1
    subst hp
    obtain ⟨z1, z2⟩ := placeL_mem h2
    rw [if_pos trivial, den_nil]
    refine Ev.step (fun k => spec_l9Descent.l0.eq_2 ..) (Ev.ifT (by omega) ?_)
    have hc := choices_ev ws hA hC hP z1
    rw [z2] at hc
    refine Ev.bind hc (Ev.ifT (by omega) (Ev.ifT (by rw [trN_length]; omega) ?_))
    have hf : (rd_T50 (trN P ws) ((placeL P [] : Nat) : Int)).f1 = -1 := by rw [rdN P ws _ z1, z2]; rfl
    rw [hf]
    exact Ev.step (fun k => spec_l9Descent.l0.eq_2 ..) (Ev.ifF (by omega) (Ev.now _))
  | succ n ih =>
    intro p b h1 h2
    have hne : p ≠ [] := fun e => by rw [e] at h1; simp at h1
    obtain ⟨z1, z2⟩ := placeL_mem h2
    refine Ev.step (fun k => spec_l9Descent.l0.eq_2 ..) (Ev.ifT (by omega) ?_)
    have hc := choices_ev ws hA hC hP z1
    rw [z2] at hc
    refine Ev.bind hc (Ev.ifT (by omega) (Ev.ifT (by rw [trN_length]; omega) ?_))
    have hf : (rd_T50 (trN P ws) ((placeL P p : Nat) : Int)).f1 = ((placeL P p.dropLast : Nat) : Int) := by
      rw [rdN P ws _ z1, z2]
      unfold mkN ndL
      rw [if_neg hne, if_neg hne]
    rw [hf]
    have := ih p.dropLast (wrap64 (b * (chc P ws p : Nat))) (by rw [List.length_dropLast]; omega) (hC.2 p h2 hne)
    rw [if_pos trivial, wrap_mul_l, Int.mul_assoc, ← Int.natCast_mul, ← den_step P ws hne] at this
    rw [if_pos trivial]
    exact this
theorem descent_ev {P : List Txt} (ws : List Txt) (hA : Asc P) (hC : Clo P) (hW : ∀ p ∈ P, wordL p = true) (hP : P.length ≤ 1000000) (w : Txt) (hw : w.length ≤ 1000000) : Ev (fun k => spec_l9Descent.f k (trN P ws) (B w)) (if w ∈ P ∧ w ∈ ws then (1, wrap64 (den P ws w : Nat)) else (0, 1)) := by
  unfold spec_l9Descent.f
  refine Ev.bind (l2Node_ev ws hA hC hW hP w hw) ?_
  by_cases hm : w ∈ P
  · obtain ⟨z1, z2⟩ := placeL_mem hm
    have hf : (rd_T50 (trN P ws) ((placeL P w : Nat) : Int)).f2 = decide (w ∈ ws) := by rw [rdN P ws _ z1, z2]; rfl
    rw [if_pos hm]
    refine Ev.ifF (by omega) (Ev.ifT (by omega) (Ev.ifT (by rw [trN_length]; omega) ?_))
    rw [hf]
    by_cases hmw : w ∈ ws
    · rw [if_pos ⟨hm, hmw⟩, decide_eq_true hmw]
      have := descent_up ws hA hC hP _ w 1 rfl hm
      rw [if_pos trivial, Int.one_mul] at this
      exact Ev.step (fun k => spec_l9Descent.j0.eq_2 ..) (Ev.ifF (by simp) this)
    · rw [if_neg fun h => hmw h.2, decide_eq_false hmw]
      exact Ev.step (fun k => spec_l9Descent.j0.eq_2 ..) (Ev.ifT rfl (Ev.now _))
  · rw [if_neg hm, if_neg fun h => hm h.1]
    exact Ev.ifT (by omega) (Ev.step (fun k => spec_l9Descent.j0.eq_2 ..) (Ev.ifT rfl (Ev.now _)))
theorem index_ev (l : List Txt) (p : Txt) (hl : l.length ≤ 1000000) (h : p ∈ l) : Ev (fun k => slices_Index_string_string.f k (l.map B) (B p)) ((placeL l p : Nat) : Int) := by
  have loop : ∀ d i, i + d = l.length → p ∈ l.drop i → Ev (fun k => slices_Index_string_string.l0 k (l.map B) (B p) (l.length : Int) (i : Int)) ((i + placeL (l.drop i) p : Nat) : Int) := by
    intro d
    induction d with
    | zero => intro i h1 h2; rw [List.drop_of_length_le (by omega)] at h2; simp at h2
    | succ d ih =>
      intro i h1 h2
      have hi : i < l.length := by omega
      rw [drop_cons_getD [] hi] at h2 ⊢
      refine Ev.step (fun k => slices_Index_string_string.l0.eq_2 ..) (Ev.ifT (by omega) (Ev.ifT (by omega) (Ev.ifT (by rw [List.length_map]; omega) ?_)))
      rw [rdB l i hi, toList_B, toList_B, placeL]
      by_cases e : l.getD i [] = p
      · rw [if_pos e]
        exact Ev.ifT e.symm (Ev.now _)
      · rw [if_neg e]
        refine Ev.ifF (fun q => e q.symm) ?_
        rw [wrap64_succ i (by omega), show i + (placeL (l.drop (i + 1)) p + 1) = i + 1 + placeL (l.drop (i + 1)) p from by omega]
        exact ih (i + 1) (by omega) ((List.mem_cons.1 h2).resolve_left fun q => e q.symm)
  have := loop l.length 0 (by omega) (by rw [List.drop_zero]; exact h)
  rw [List.drop_zero, Nat.zero_add] at this
  unfold slices_Index_string_string.f
  rw [List.length_map]
  exact this
def dens (P ws l : List Txt) : List Int := l.map fun p => wrap64 (den P ws p : Nat)
theorem chances_in {P ws : List Txt} (hA : Asc P) (hP : P.length ≤ 1000000) (hw : ∀ w ∈ ws, w ∈ P) (hl : ws.length ≤ 1000000) : ∀ (d i : Nat) (acc : List Int), i + d = ws.length → acc.length ≤ i →
    Ev (fun k => impl_Trie_chances.l1 k (P.map B) (dens P ws P) acc (ws.map B) (ws.length : Int) (i : Int)) (acc ++ dens P ws (ws.drop i)) := by
  intro d
  induction d with
  | zero =>
    intro i acc h1 h2
    rw [List.drop_of_length_le (by omega)]
    exact Ev.step (fun k => impl_Trie_chances.l1.eq_2 ..) (Ev.ifF (by omega) (by simpa [dens] using Ev.now _))
  | succ d ih =>
    intro i acc h1 h2
    have hi : i < ws.length := by omega
    have hm := hw _ (getD_mem hi)
    obtain ⟨z1, z2⟩ := placeL_mem hm
    refine Ev.step (fun k => impl_Trie_chances.l1.eq_2 ..) (Ev.ifT (by omega) (Ev.ifT (by omega) (Ev.ifT (by rw [List.length_map]; omega) ?_)))
    rw [rdB ws i hi]
    refine Ev.bind (index_ev P _ hP hm) (Ev.ifT (by omega) (Ev.ifT (by unfold dens; rw [List.length_map]; omega) (Ev.ifT (by omega) ?_)))
    have hr : rd (dens P ws P) ((placeL P (ws.getD i []) : Nat) : Int) = wrap64 (den P ws (ws.getD i []) : Nat) := by
      unfold dens
      rw [rd_nat, getD_lt 0 (by rw [List.length_map]; exact z1), List.getElem_map, ← getD_lt [] z1, z2]
    rw [hr, wrap64_succ i (by omega)]
    have := ih (i + 1) (acc ++ [wrap64 (den P ws (ws.getD i []) : Nat)]) (by omega) (by simp; omega)
    rw [drop_cons_getD [] hi]
    unfold dens at this ⊢
    rw [List.map_cons]
    rw [List.append_assoc] at this
    exact this
theorem chances_out {P ws : List Txt} (hA : Asc P) (hC : Clo P) (hP : P.length ≤ 1000000) (hw : ∀ w ∈ ws, w ∈ P) (hl : ws.length ≤ 1000000) (hwords : Ev (fun k => impl_Trie_words.f k (trN P ws)) (ws.map B)) : ∀ (d i : Nat), i + d = P.length →
    Ev (fun k => impl_Trie_chances.l0 k (P.map B) (dens P ws (P.take i)) [] (trN P ws) ((trN P ws).length : Int) (i : Int) (trN P ws)) (dens P ws ws) := by
  intro d
  induction d with
  | zero =>
    intro i h1
    rw [List.take_of_length_le (by omega)]
    refine Ev.step (fun k => impl_Trie_chances.l0.eq_2 ..) (Ev.ifF (by rw [trN_length]; omega) (Ev.bind hwords ?_))
    have := chances_in hA hP hw hl ws.length 0 [] (by omega) (by simp)
    rw [List.drop_zero, List.nil_append] at this
    rw [List.length_map]
    exact this
  | succ d ih =>
    intro i h1
    have hi : i < P.length := by omega
    have hlen : (dens P ws (P.take i)).length = i := by unfold dens; rw [List.length_map, List.length_take]; omega
    have hnext : dens P ws (P.take (i + 1)) = dens P ws (P.take i) ++ [wrap64 (den P ws (P.getD i []) : Nat)] := by
      unfold dens
      rw [take_succ_getD [] hi, List.map_append, List.map_singleton]
    have hk := kidI_len P (P.getD i [])
    have hkl : (kidI P (P.getD i [])).length ≤ 1000000 := Nat.le_trans (kidF_le P (P.getD i []) P.length 0) hP
    have hf2 : (rd_T50 (trN P ws) (i : Int)).f2 = decide (P.getD i [] ∈ ws) := by rw [rdN P ws i hi]; rfl
    have hgo := ih (i + 1) (by omega)
    rw [hnext] at hgo
    refine Ev.step (fun k => impl_Trie_chances.l0.eq_2 ..) (Ev.ifT (by rw [trN_length]; omega) (Ev.ifT (by omega) (Ev.ifT (by rw [trN_length]; omega) (Ev.bind (kids_ev ws hA hC hP hi) ?_))))
    rw [hf2, wrap64_succ i (by omega)]
    have hroot : i = 0 → P.getD i [] = [] := fun e => by rw [e]; exact (clo_zero hA hC).2
    have hpar : 0 < i → (rd_T50 (trN P ws) (i : Int)).f1 = ((placeL P (P.getD i []).dropLast : Nat) : Int) ∧ placeL P (P.getD i []).dropLast < i ∧ rd (dens P ws (P.take i)) ((placeL P (P.getD i []).dropLast : Nat) : Int) = wrap64 (den P ws (P.getD i []).dropLast : Nat) ∧ den P ws (P.getD i []) = chc P ws (P.getD i []) * den P ws (P.getD i []).dropLast := fun h0 => by
      have hne := clo_pos hA hC hi h0
      obtain ⟨j1, j2⟩ := clo_parent hA hC hi h0
      refine ⟨?_, j1, ?_, den_step P ws hne⟩
      · rw [rdN P ws i hi]
        unfold mkN ndL
        rw [if_neg hne, if_neg hne]
      · unfold dens
        have hj : placeL P (P.getD i []).dropLast < (P.take i).length := by rw [List.length_take]; omega
        rw [rd_nat, getD_lt 0 (by rw [List.length_map]; exact hj), List.getElem_map, List.getElem_take, ← getD_lt [] (show placeL P (P.getD i []).dropLast < P.length by omega), j2]
    by_cases hm : P.getD i [] ∈ ws
    · rw [decide_eq_true hm]
      have hc : chc P ws (P.getD i []) = (kidI P (P.getD i [])).length + 1 := by unfold chc; rw [if_pos hm, hk]
      have hw1 : wrap64 (((kidI P (P.getD i [])).length : Int) + 1) = ((chc P ws (P.getD i []) : Nat) : Int) := by rw [wrap64_id (by omega) (by omega), hc, Int.natCast_add]; rfl
      refine Ev.ifT rfl ?_
      rw [hw1]
      by_cases h0 : 0 < i
      · obtain ⟨q1, q2, q3, q4⟩ := hpar h0
        rw [q4, Int.natCast_mul, ← wrap_mul_r, ← q3] at hgo
        rw [q1]
        exact Ev.ifT (by omega) (Ev.ifT (by omega) (Ev.ifT (by omega) (Ev.ifT (by omega) hgo)))
      · have hi0 : i = 0 := by omega
        rw [hroot hi0, den_nil] at hgo
        rw [hroot hi0]
        have hb : chc P ws [] ≤ 1000001 := by have := hroot hi0; rw [this] at hc hkl; omega
        rw [show wrap64 ((chc P ws [] : Nat) : Int) = ((chc P ws [] : Nat) : Int) from wrap64_id (by omega) (by omega)] at hgo
        exact Ev.ifF (by omega) (Ev.ifT (by omega) hgo)
    · rw [decide_eq_false hm]
      have hc : chc P ws (P.getD i []) = (kidI P (P.getD i [])).length := by unfold chc; rw [if_neg hm, hk, Nat.add_zero]
      refine Ev.ifF Bool.false_ne_true ?_
      rw [← hc]
      by_cases h0 : 0 < i
      · obtain ⟨q1, q2, q3, q4⟩ := hpar h0
        rw [q4, Int.natCast_mul, ← wrap_mul_r, ← q3] at hgo
        rw [q1]
        exact Ev.ifT (by omega) (Ev.ifT (by omega) (Ev.ifT (by omega) (Ev.ifT (by omega) hgo)))
      · have hi0 : i = 0 := by omega
        rw [hroot hi0, den_nil] at hgo
        rw [hroot hi0]
        have hb : chc P ws [] ≤ 1000001 := by have := hroot hi0; rw [this] at hc hkl; omega
        rw [show wrap64 ((chc P ws [] : Nat) : Int) = ((chc P ws [] : Nat) : Int) from wrap64_id (by omega) (by omega)] at hgo
        exact Ev.ifF (by omega) (Ev.ifT (by omega) hgo)
theorem chances_ev {ws : List Txt} (h : OkW ws) : Ev (fun k => impl_Trie_chances.f k (trN (preL ws) ws)) (dens (preL ws) ws ws) := by
  have h1 := h.pre
  have h2 := h.len
  unfold impl_Trie_chances.f
  refine Ev.bind (prefixes_tr h) ?_
  have := chances_out (asc_preL ws) (clo_preL ws) (by omega) (fun w hw => self_preL hw) (by omega) (words_ev h) (preL ws).length 0 (by omega)
  rw [List.take_zero] at this
  exact this

end Go.Proofs.YtgagmodkjmegeaaDoor.L

namespace Go.Proofs.YtgagmodkjmegeaaDoor.Pure
open Go.RowKit Go.Proofs.YtgagmodkjmegeaaDoor.P Go.Proofs.YtgagmodkjmegeaaDoor.M Go.Proofs.YtgagmodkjmegeaaDoorW.PrintWords Go.Proofs.YtgagmodkjmegeaaDoorW.PrintLast Go.Proofs.YtgagmodkjmegeaaDoorW.PrintMore
set_option linter.unusedVariables false
open Go.Proofs.YtgagmodkjmegeaaDoor.L
namespace ChanceOfDescent
theorem index_miss (l : List Txt) (p : Txt) (hl : l.length ≤ 1000000) (h : p ∉ l) : Ev (fun k => slices_Index_string_string.f k (l.map B) (B p)) (-1) := by
  have loop : ∀ d i, i + d = l.length → Ev (fun k => slices_Index_string_string.l0 k (l.map B) (B p) (l.length : Int) (i : Int)) (-1) := by
    intro d
    induction d with
    | zero => intro i h1; exact Ev.step (fun k => slices_Index_string_string.l0.eq_2 ..) (Ev.ifF (by omega) (Ev.now _))
    | succ d ih =>
      intro i h1
      have hi : i < l.length := by omega
      refine Ev.step (fun k => slices_Index_string_string.l0.eq_2 ..) (Ev.ifT (by omega) (Ev.ifT (by omega) (Ev.ifT (by rw [List.length_map]; omega) ?_)))
      rw [rdB l i hi, toList_B, toList_B, wrap64_succ i (by omega)]
      refine Ev.ifF (fun e => h ?_) (ih (i + 1) (by omega))
      rw [e]
      exact getD_mem hi
  unfold slices_Index_string_string.f
  rw [List.length_map]
  exact loop l.length 0 (by omega)
theorem both (N : List Nd) (w : Txt) (hw : w.length ≤ 1000000000) : ∃ r : Int × Int × Bool, Ev (fun k => spec_ChanceOfDescent.f k N (B w)) r ∧ Ev (fun k => impl_ChanceOfDescent.f k N (B w)) r := by
  unfold spec_ChanceOfDescent.f impl_ChanceOfDescent.f
  have i0 : ∀ N, Ev (fun k => impl_ChanceOfDescent.j0 k (B w) true N) (0, 0, false) := fun N => Ev.step (fun k => impl_ChanceOfDescent.j0.eq_2 ..) (Ev.ifT rfl (Ev.now _))
  rcases drawn_both N with ⟨ws, h, h0, rfl, e1, e2⟩ | ⟨e1, e2⟩
  · have hlw := l2Word_ev w (by omega)
    have hpl := h.pre
    have h40 := h.len
    by_cases hwd : wordL w = true
    · rw [hwd] at hlw
      have h12 := (wordL_iff.1 hwd).2
      have hd := descent_ev ws (asc_preL ws) (clo_preL ws) (fun p hp => preL_word h.word hp) (by omega) w (by omega)
      have hwi := words_ev h
      by_cases hm : w ∈ ws
      · obtain ⟨z1, z2⟩ := placeL_mem hm
        rw [if_pos ⟨self_preL hm, hm⟩] at hd
        have hdl : (dens (preL ws) ws ws).length = ws.length := by unfold dens; rw [List.length_map]
        have hr : rd (dens (preL ws) ws ws) ((placeL ws w : Nat) : Int) = wrap64 (den (preL ws) ws w : Nat) := by
          unfold dens
          rw [rd_nat, getD_lt 0 (by rw [List.length_map]; exact z1), List.getElem_map, ← getD_lt [] z1, z2]
        refine ⟨(1, wrap64 (den (preL ws) ws w : Nat), true), Ev.bind e1 (Ev.ifT rfl (Ev.bind hlw (Ev.ifT rfl (Ev.bind hd (Ev.now _))))), Ev.bind e2 (Ev.ifT rfl ?_)⟩
        rw [isWord_eq, hwd]
        refine Ev.some_bind (Ev.step (fun k => impl_ChanceOfDescent.j0.eq_2 ..) (Ev.ifF (by simp) (Ev.bind hwi (Ev.bind (index_ev ws w (by omega) hm) (Ev.ifF (by omega) (Ev.bind (chances_ev h) (Ev.ifT (by omega) (Ev.ifT (by omega) ?_))))))))
        rw [hr]
        exact Ev.now _
      · rw [if_neg fun h => hm h.2] at hd
        refine ⟨(0, 1, true), Ev.bind e1 (Ev.ifT rfl (Ev.bind hlw (Ev.ifT rfl (Ev.bind hd (Ev.now _))))), Ev.bind e2 (Ev.ifT rfl ?_)⟩
        rw [isWord_eq, hwd]
        exact Ev.some_bind (Ev.step (fun k => impl_ChanceOfDescent.j0.eq_2 ..) (Ev.ifF (by simp) (Ev.bind hwi (Ev.bind (index_miss ws w (by omega) hm) (Ev.ifT (by omega) (Ev.now _))))))
    · have hf : wordL w = false := by simpa using hwd
      rw [hf] at hlw
      refine ⟨(0, 0, false), Ev.bind e1 (Ev.ifT rfl (Ev.bind hlw (Ev.ifF Bool.false_ne_true (Ev.now _)))), Ev.bind e2 (Ev.ifT rfl ?_)⟩
      rw [isWord_eq, hf]
      exact Ev.some_bind (i0 _)
  · exact ⟨(0, 0, false), Ev.bind e1 (Ev.ifF Bool.false_ne_true (Ev.now _)), Ev.bind e2 (Ev.ifF Bool.false_ne_true (i0 _))⟩
end ChanceOfDescent
theorem FnExactChanceOfDescent : laws_FnExactChanceOfDescent.Pure := by
  intro l a hl _
  obtain ⟨w, rfl⟩ := exB a
  by_cases hb : ((B w).size : Int) > 1048576
  · exact ⟨0, by unfold laws_FnExactChanceOfDescent.f; rw [if_pos hb]⟩
  rw [size_B] at hb
  by_cases hs : l.length ≤ 1048576
  · obtain ⟨r, h1, h2⟩ := ChanceOfDescent.both (toN l) w (by omega)
    refine Ev.rounds ?_
    unfold laws_FnExactChanceOfDescent.f
    rw [szTrie_eq l hl, if_pos hs]
    refine Ev.ifF (by rw [size_B]; exact hb) (Ev.some_bind (Ev.ifF (by omega) (Ev.bind (toTrie_ev l hs) (Ev.bind h1 (Ev.bind (toTrie_ev l hs) (Ev.bind h2 ?_))))))
    rw [eqA2_self]
    refine Ev.some_bind (Ev.ifT rfl (Ev.step (fun k => laws_FnExactChanceOfDescent.j0.eq_2 ..) (Ev.ifF (by simp) (Ev.bind (toTrie_ev l hs) (Ev.bind (eqTrie_ev _ (by rw [toN_length]; omega)) (Ev.ifT rfl (Ev.now _)))))))
  · exact ⟨0, by unfold laws_FnExactChanceOfDescent.f; rw [if_neg (by rw [size_B]; exact hb), szTrie_eq l hl, if_neg hs]; rfl⟩

end Go.Proofs.YtgagmodkjmegeaaDoor.Pure

namespace Go.Proofs.YtgagmodkjmegeaaDoor.fnExactChanceOfDescent
open Go.ChangeShapes Go.WideShapes Go.ChangeAt Go.RowKit Go.Proofs.YtgagmodkjmegeaaDoor.P
open Go.ChangeMaps (open_string shut_string)
set_option linter.unusedVariables false
def laidL : List (String × DataW Unit) := [("unicode/utf8.acceptRanges", Rows.laid_unicode_utf8_acceptRanges), ("unicode/utf8.first", Rows.laid_unicode_utf8_first)]
theorem own : ownKnob Tryd.prog.godebug = none := by kernel_rfl
theorem laidOut : laidOutB Tryd.prog = true := by kernel_rfl
set_option maxRecDepth 100000 in
theorem lifted (os : Os) (started : os.Started) (H : Type) (enc : TypeId × Value → H) :
    ReturnsInHanded {} Tryd.checked os 3 .any (fun w args => (Rows.fnExactChanceOfDescentSpec.pre enc Tryd.prog Tryd.f3 [] false w args ∧ laidMetH Tryd.prog laidL w) ∧ sizedMet enc Tryd.prog Tryd.f3 (OpenSpec.ofChange Rows.fnExactChanceOfDescentSpec) false w args) (Rows.fnExactChanceOfDescentSpec.post enc Tryd.prog Tryd.f3 false true false false) := by
  refine returnsInHanded_of_change_and (C := Tryd.checked) (X := fun w _ => laidMetH Tryd.prog laidL w) (fun _ _ _ hh h => h.of_heap hh) own started (by kernel_rfl) Tryd.func3
    (ChangeSpec.witness_shaped (enc := enc) (C := Tryd.checked) (os := os) (X := fun w _ => laidMetH Tryd.prog laidL w) false (World.laidAll Tryd.prog os laidL) #[.agg #[.slice none 0 0], .string ByteArray.empty] 8 (World.laidAll_os _ _ _) (World.shaped_of_ZipB (by kernel_rfl) (by kernel_rfl)) (by kernel_rfl) (by kernel_rfl) (by kernel_rfl)
      (by rw [MakeChecks.laidMetH_plain _ _ _ (by kernel_rfl)]; exact laidMet_laidAll _ (by kernel_rfl) (by kernel_rfl))) ?_
  intro W base args ds gs before hval0 hW hcnd hsz0 hL_ _
  have hsz : (DataW.weightsEach Tryd.prog (Tryd.f3.params.toList ++ Rows.fnExactChanceOfDescentSpec.plain.varTypes Tryd.prog) (ds ++ gs)).all (· ≤ reachBytes) = true := hsz0
  have hval : ∀ (j : Nat) t v, Tryd.f3.params[j]? = some t → args[j]? = some v → Value.okWide Tryd.prog W .any base t v := hval0
  have hW' := hW
  obtain ⟨p, q, hA0, hV, rfl, hfz, hnd⟩ := hW
  have hA : DataW.TrodAll enc Tryd.prog W 0 (fun _ => true) true Tryd.f3.params.toList args.toList ds p := hA0
  rw [Tryd.params3] at hA hval hsz
  obtain ⟨v0, vs0, d0, ds0, p0, q0, hargs, rfl, rfl, h0, r0⟩ := trodAll_cons hA
  obtain ⟨v1, vs1, d1, ds1, p1, q1, rfl, rfl, rfl, h1, r1⟩ := trodAll_cons r0
  obtain ⟨rfl, rfl, rfl⟩ := trodAll_nil r1
  obtain rfl : args = #[v0, v1] := by cases args; simp_all
  obtain ⟨rfl, rfl⟩ := trodVars_none hV
  have k0 := h0
  have lt0 : ∀ x ∈ p0, x.block < W.heap.size := by obtain ⟨m, hm⟩ := k0; exact DataW.trod_lt m _ _ _ hm
  obtain ⟨A0, c0, l0, ev0, hc0, hr0⟩ := OT.trie (hval 0 24 v0 rfl rfl) h0
  subst ev0
  obtain ⟨a1, rfl, rfl, rfl, y1⟩ := open_string Tryd.underlying9 (hval 1 9 v1 rfl rfl) h1
  have w1 : a1.size ≤ 140737488351232 := by
    have z := sized_string hsz (j := 1) (t := 9) rfl rfl
    rw [Array.length_toList] at z
    exact z
  clear hA0 hval0 hsz0 hsz
  refine (laws_FnExactChanceOfDescent.walk Pure.FnExactChanceOfDescent W A0 c0 l0 hr0 hc0 a1 w1).mono fun e W' ⟨he, bel⟩ => ?_
  subst he
  exact ⟨_, rfl, _, _, _, [], _, [], hW', trodAll_mk1 (shut_bool Tryd.underlying4 _), (trodAll_cons_mk (Below.trod laidOut (by kernel_rfl) (of_decide_eq_true (by kernel_rfl)) k0 bel lt0) (trodAll_cons_mk (shut_string Tryd.underlying9 y1) trodAll_mk0)), rfl, bel.frame _, fun h => by cases h⟩
theorem over : Rows.fnExactChanceOfDescentRow.holds Tryd.pinned (OpenSpec.ofChange Rows.fnExactChanceOfDescentSpec) :=
  OpenClaim.holds_of_wide 3 Tryd.f3 rfl rfl rfl rfl rfl rfl rfl ⟨rfl, rfl, rfl, rfl, rfl⟩ rfl rfl rfl rfl rfl (by kernel_rfl) Tryd.func3 (by kernel_rfl)
    (of_decide_eq_true (by kernel_rfl)) (by unfold Func.isWrapper; first | (rw [if_pos (by decide +kernel)]; kernel_rfl) | (rw [if_neg (by decide +kernel)]; exact ⟨rfl, rfl⟩))
    (fun os started H enc _ => lifted os started H enc)
theorem proved : Rows.FnExactChanceOfDescentSaid := over
end Go.Proofs.YtgagmodkjmegeaaDoor.fnExactChanceOfDescent
namespace Go.Proofs.YtgagmodkjmegeaaDoor
/-- The row, under a short name, for the claim. -/
theorem fnExactChanceOfDescent_holds : Rows.FnExactChanceOfDescentSaid := fnExactChanceOfDescent.proved
/-- The tied card. -/
theorem fnExactChanceOfDescent_card : Rows.FnExactChanceOfDescentCardSaid :=
  Claim7.holds_tied_plain_at .later [] [.data, .pinned] true (true, "0187f124f39f840c84c2327e509cf1a0b64598b1032087ce9d45c3246b4cb742") false
    fnExactChanceOfDescent_holds (fun _ h => by cases h) (by kernel_rfl) (fun _ h => by cases h) fnExactChanceOfDescent_row_tie rfl ⟨rfl, rfl⟩ (by kernel_rfl) rfl
    (fun f fn hf hfn => by
      obtain rfl : f = 3 := Option.some.inj ((show Tryd.prog.funcNamed "loop.example/g01243/laws.FnExactChanceOfDescent" = some 3 by kernel_rfl).symm.trans hf) |>.symm
      obtain rfl : fn = Tryd.f3 := (Option.some.inj (Tryd.func3.symm.trans hfn)).symm
      exact ⟨by kernel_rfl, fun j t ht => by
        rw [Tryd.params3] at ht
        have hm : t ∈ [24, 9] := by simpa using Array.mem_of_getElem? ht
        have hall : ([24, 9].all fun u => !Tryd.prog.wantsStandIn u) = true := by kernel_rfl
        exact (show Tryd.prog.wantsStandIn t = false by simpa using List.all_eq_true.1 hall t hm)⟩)
    (by kernel_rfl)
end Go.Proofs.YtgagmodkjmegeaaDoor
