/-
  Part 1 of the proof that FnExactMeanDescent returns true for every input: the functions that it reaches, each with its contract, and the law.
  Conditions: those of the given statement, no others.
-/
import Derived.Test.YtgagmodkjmegeaaKbW0
import Derived.Test.YtgagmodkjmegeaaRows
import Derived.WalkKit
import Derived.ProofKit
import Derived.OpenShut
import Derived.ShutString
import Derived.ChangeOld
import Derived.Below
import Derived.SizedLaws
import Derived.Test.YtgagmodkjmegeaaKb0
import Derived.Test.YtgagmodkjmegeaaKb1
import Derived.Test.YtgagmodkjmegeaaKb2
import Derived.Test.YtgagmodkjmegeaaKb3
set_option linter.unusedVariables false
set_option linter.unusedSimpArgs false
namespace Go.Proofs.Ytgagmodkjmegeaa.P
open Go.RowKit Go.Proofs.YtgagmodkjmegeaaW.PrintWords Go.Proofs.YtgagmodkjmegeaaW.PrintLast Go.Proofs.YtgagmodkjmegeaaW.PrintMore
open List renaming setIfInBounds_toArray → sA_, set_cons_zero → sB_, set_cons_succ → sC_, map_toArray → sD_, map_cons → sE_, map_nil → sF_, length_drop → sG_, length_take → sH_
open Bool renaming true → ty, false → fy
open Aside0 renaming mk → aM_
attribute [local go_sem] max2_int min2_int max_two min_two max_three min_three max_four min_four
set_option linter.unusedVariables false
set_option linter.unusedSimpArgs false
def spec_l1Most.f (a0 : Int) (a1 : Int) : Option (Int) := if a0 > a1 then (some a0) else (some a1)
set_option maxHeartbeats 8000000 in
set_option maxRecDepth 100000 in
theorem spec_l1Most.calls (a0 : Int) (a1 : Int) (r : Int) (w : World) (h : spec_l1Most.f a0 a1 = some r) :
  Calls Try.prog 79 #[.int .i64 a0, .int .i64 a1] w fun e w' => e = .returned (.int .i64 r) ∧ Drawn0 w w' := by
 have H : (if a0 > a1 then (some a0) else (some a1)) = some r := h
 clear h
 by_cases c3 : a0 > a1
 ·
  rw [if_pos c3] at H
  have c3b0 := decide_eq_true c3
  clear c3
  obtain rfl := Option.some.inj H
  go_enter Try.func79, Try.ntmps79
  go_wp2
  go_ret
  exact ⟨by first | rfl | (simp; done) | (simp [*]; done), by repeat (first | exact Drawn0.refl _ | apply Drawn0.step)⟩
 ·
  rw [if_neg c3] at H
  have c3b0 := decide_eq_false c3
  clear c3
  obtain rfl := Option.some.inj H
  go_enter Try.func79, Try.ntmps79
  go_wp2
  go_ret
  exact ⟨by first | rfl | (simp; done) | (simp [*]; done), by repeat (first | exact Drawn0.refl _ | apply Drawn0.step)⟩
def spec_l9Cut.l0 : Nat → Int → Int → Int → Int → Option (Int × Int)
 | 0, _, _, _, _ => none
 | k + 1, x0, x1, x5, x6 => if x6 > 0 then (if x6 = 0 then (none) else (spec_l9Cut.l0 k x0 x1 x6 (Int.tmod x5 x6))) else ((spec_l1Most.f x5 1).bind fun t219 => (if t219 = 0 then (none) else ((spec_l1Most.f x5 1).bind fun t220 => (if t220 = 0 then (none) else (some (wrap64 (Int.tdiv x0 t219), wrap64 (Int.tdiv x1 t220)))))))
def spec_l9Cut.f (k : Nat) (a0 : Int) (a1 : Int) : Option (Int × Int) := spec_l9Cut.l0 k a0 a1 a0 a1
theorem spec_l9Cut.mono_l : ∀ k, (∀ y0 y1 y2 y3, LeO (spec_l9Cut.l0 k y0 y1 y2 y3) (spec_l9Cut.l0 (k + 1) y0 y1 y2 y3))
 | 0 => fun _ _ _ _ r h => by simp [spec_l9Cut.l0] at h
 | k + 1 => by
  have ih0 := spec_l9Cut.mono_l k
  ·
   intro y0 y1 y2 y3
   unfold spec_l9Cut.l0
   repeat' first
   | (with_reducible exact ih0 _ _ _ _)
   | (with_reducible exact LeO.refl _)
   | (with_reducible exact LeO.none _)
   | (with_reducible refine LeO.ite ?_ ?_)
   | (with_reducible refine LeO.bind ?_ (fun _ => ?_))
   | exact ih0 _ _ _ _
   | exact LeO.none _
   | refine LeO.ite ?_ ?_
   | refine LeO.bind ?_ (fun _ => ?_)
theorem spec_l9Cut.mono : ∀ a0 a1 k, LeO (spec_l9Cut.f k a0 a1) (spec_l9Cut.f (k + 1) a0 a1) := by
 intro a0 a1 k
 have ih0 := spec_l9Cut.mono_l k
 unfold spec_l9Cut.f
 repeat' first
   | (with_reducible exact ih0 _ _ _ _)
   | (with_reducible exact LeO.refl _)
   | (with_reducible exact LeO.none _)
   | (with_reducible refine LeO.ite ?_ ?_)
   | (with_reducible refine LeO.bind ?_ (fun _ => ?_))
   | exact ih0 _ _ _ _
   | exact LeO.none _
   | refine LeO.ite ?_ ?_
   | refine LeO.bind ?_ (fun _ => ?_)
def spec_l9Cut.T4 : Bool × List (List Nat × List Nat) := (true, [([], []), ([], []), ([1], [1]), ([0, 2], [0, 2]), ([], []), ([], []), ([5, 2], [5]), ([4, 6], [4, 6]), ([3, 7], [3, 7]), ([8, 6, 0, 1, 2, 3, 4, 5, 6, 7, 8], [8])])
def spec_l9Cut.B4 : List Nat := [0, 0, 2, 7, 0, 0, 38, 118, 255, 511]
theorem spec_l9Cut.tab4 : rtab .any (opsOf Try.f40 4) = spec_l9Cut.T4 := by kernel_rfl
theorem spec_l9Cut.bits4 : waitsOk spec_l9Cut.T4.2 spec_l9Cut.B4 = true := by kernel_rfl
set_option maxHeartbeats 8000000 in
set_option maxRecDepth 100000 in
theorem spec_l9Cut.calls (k : Nat) (a0 : Int) (a1 : Int) (r1 : Int) (r2 : Int) (w : World) (h : spec_l9Cut.f k a0 a1 = some (r1, r2)) :
  Calls Try.prog 40 #[.int .i64 a0, .int .i64 a1] w fun e w' => e = .returned (.agg #[.int .i64 r1, .int .i64 r2]) ∧ Below w.heap.size w w' := by
 have hu26 := Try.underlying26
 have HB := aM_ (Below.refl w.heap.size w)
 have H : (spec_l9Cut.l0 k a0 a1 a0 a1) = some (r1, r2) := h
 clear h
 have H' := aM_ H
 clear H
 go_enter Try.func40, Try.ntmps40
 go_wp2_with (first | ((with_reducible refine gate_dst (N := 4) rfl ?_); refine box_event ?hg (N := 4) ?hd (cs := #[.int .i64 0, .int .i64 0]) (t := 26) ?hr ?_; (case hd => rfl); (case hg => rfl); (case hr => first | (go_simp; done) | (go_simp; rfl)); intro gb218 hg w3 hbox hb; have BK218 := aM_ (hbox); have GW218 := aM_ ((by rw [hg]; exact (below_size HB.out) : w.heap.size ≤ gb218)); have GE218 := GW218; replace HB := aM_ (below_step HB.out hb); clear hb hbox hg))
 go_loopg [5, 6] k (fun kq v5 v6 w' => ∃ (x5_1 : Int) (x6_1 : Int), v5 = .int .i64 x5_1 ∧ v6 = .int .i64 x6_1 ∧ Aside0 (spec_l9Cut.l0 kq a0 a1 x5_1 x6_1 = some (r1, r2)) ∧ Aside0 (kq ≤ k) ∧ Aside0 (w'.heap[gb218]? = some (.cells #[.int .i64 0, .int .i64 0] 26 (0, 0))) ∧ Aside0 (Below w.heap.size w w'))
 case atStart => exact ⟨(a0), (a1), (by first | rfl | (simp; done) | (simp [*]; done)), (by first | rfl | (simp; done) | (simp [*]; done)), H', ⟨Nat.le_refl _⟩, ⟨BK218.out⟩, ⟨HB.out⟩⟩
 case round =>
  clear H'
  try clear p2
  obtain ⟨x5_1, x6_1, rfl, rfl, HA, HK1, BK218, HB⟩ := hrel
  cases gk with
  | zero => exact absurd HA.out (by simp [spec_l9Cut.l0])
  | succ k1 =>
   have H := HA.out
   clear HA
   simp only [spec_l9Cut.l0] at H
   by_cases c4 : x6_1 > 0
   ·
    rw [if_pos c4] at H
    have c4b0 := decide_eq_true c4
    clear c4
    by_cases c5 : x6_1 = 0
    ·
     rw [if_pos c5] at H
     exact absurd H (by simp)
    ·
     rw [if_neg c5] at H
     have c5b0 : (x6_1 == 0) = false := beq_eq_false_iff_ne.mpr c5
     have c5b1 : (x6_1 != 0) = true := bne_iff_ne.mpr c5
     have H' := aM_ H
     clear H
     try go_wp2
     have n0_ := aM_ (blk_drew BK218.out)
     have n1_ := aM_ (below_drew1 HB.out)
     clear BK218
     clear HB
     have BK218 := n0_
     have HB := n1_
     clear n0_ n1_
     refine start_ (n := 6) (S := fun w' => True) (ds := []) #[fy, fy, fy, fy, fy, fy] (by kernel_rfl) rfl rfl trivial (fun hHeld => ?_)
     generalize wr.drew = w6 at BK218 HB hHeld ⊢
     refine pure_ (i := 0) (N := some 11) (v := ?_) (a' := ?_) #[ty, fy, fy, fy, fy, fy] rfl rfl (by kernel_rfl) (fun _ _ _ h => h) (Or.inl ⟨by rfl, ?_⟩) ?_ ?_; rotate_left; (intro w'; go_simp; with_reducible rfl); rotate_left; (simp only [Act.put, sA_, sB_, sC_, i64_w, i32_w]; rfl)
     refine pure_ (i := 1) (N := some 12) (v := ?_) (a' := ?_) #[ty, ty, fy, fy, fy, fy] rfl rfl (by kernel_rfl) (fun _ _ _ h => h) (Or.inl ⟨by rfl, ?_⟩) ?_ ?_; rotate_left; (intro w'; go_simp; with_reducible rfl); rotate_left; (simp only [Act.put, sA_, sB_, sC_, i64_w, i32_w]; rfl)
     refine pure_ (i := 2) (N := some 13) (v := ?_) (a' := ?_) #[ty, ty, ty, fy, fy, fy] rfl rfl (by kernel_rfl) (fun _ _ _ h => h) (Or.inl ⟨by rfl, ?_⟩) ?_ ?_; rotate_left; (intro w'; go_simp; with_reducible rfl); rotate_left; (simp only [Act.put, sA_, sB_, sC_, i64_w, i32_w]; rfl)
     refine pure_ (i := 3) (N := some 14) (v := ?_) (a' := ?_) #[ty, ty, ty, ty, fy, fy] rfl rfl (by kernel_rfl) (fun _ _ _ h => h) (Or.inl ⟨by rfl, ?_⟩) ?_ ?_; rotate_left; (intro w'; go_simp; with_reducible rfl); rotate_left; (simp only [Act.put, sA_, sB_, sC_, i64_w, i32_w]; rfl)
     refine pure_ (i := 4) (N := some 5) (v := ?_) (a' := ?_) #[ty, ty, ty, ty, ty, fy] rfl rfl (by kernel_rfl) (fun _ _ _ h => h) (Or.inl ⟨by rfl, ?_⟩) ?_ ?_; rotate_left; (intro w'; go_simp; with_reducible rfl); rotate_left; (simp only [Act.put, sA_, sB_, sC_, i64_w, i32_w]; rfl)
     refine pure_ (i := 5) (N := some 6) (v := ?_) (a' := ?_) #[ty, ty, ty, ty, ty, ty] rfl rfl (by kernel_rfl) (fun _ _ _ h => h) (Or.inl ⟨by rfl, ?_⟩) ?_ ?_; rotate_left; (intro w'; go_simp; with_reducible rfl); rotate_left; (simp only [Act.put, sA_, sB_, sC_, i64_w, i32_w]; rfl)
     refine done_ (by kernel_rfl) ?_
     try go_wp2
     go_roundg k1
     case measure => have := HK1.out; omega
     case rel => exact ⟨(x6_1), (Int.tmod x5_1 x6_1), (by first | rfl | (simp; done) | (simp [*]; done)), (by first | rfl | (simp; done) | (simp [*]; done)), H', ⟨by have := HK1.out; omega⟩, ⟨BK218.out⟩, ⟨HB.out⟩⟩
   ·
    rw [if_neg c4] at H
    have c4b0 := decide_eq_false c4
    clear c4
    replace H := Option.bind_eq_some_iff.mp H
    obtain ⟨t219, A70, H⟩ := H
    try dsimp only at H
    have A7 := aM_ A70
    clear A70
    by_cases c8 : t219 = 0
    ·
     rw [if_pos c8] at H
     exact absurd H (by simp)
    ·
     rw [if_neg c8] at H
     have c8b0 : (t219 == 0) = false := beq_eq_false_iff_ne.mpr c8
     have c8b1 : (t219 != 0) = true := bne_iff_ne.mpr c8
     replace H := Option.bind_eq_some_iff.mp H
     obtain ⟨t220, A90, H⟩ := H
     try dsimp only at H
     have A9 := aM_ A90
     clear A90
     by_cases c10 : t220 = 0
     ·
      rw [if_pos c10] at H
      exact absurd H (by simp)
     ·
      rw [if_neg c10] at H
      have c10b0 : (t220 == 0) = false := beq_eq_false_iff_ne.mpr c10
      have c10b1 : (t220 != 0) = true := bne_iff_ne.mpr c10
      simp only [Option.some.injEq, Prod.mk.injEq] at H
      obtain ⟨rfl, rfl⟩ := H
      try go_wp2
      have n0_ := aM_ (blk_drew BK218.out)
      have n1_ := aM_ (below_drew1 HB.out)
      clear BK218
      clear HB
      have BK218 := n0_
      have HB := n1_
      clear n0_ n1_
      refine start_ (n := 10) (S := fun w' => True) (ds := []) #[fy, fy, fy, fy, fy, fy, fy, fy, fy, fy] (by kernel_rfl) rfl rfl trivial (fun hHeld => ?_); refine with_tabW spec_l9Cut.tab4 spec_l9Cut.bits4 (fun HT_ HW_ => ?_)
      generalize wr.drew = w11 at BK218 HB hHeld ⊢
      refine pure_ (i := 0) (N := some 15) (v := ?_) (a' := ?_) #[ty, fy, fy, fy, fy, fy, fy, fy, fy, fy] rfl rfl (any_of HT_.out (by kernel_rfl)) (fun _ _ _ h => h) (Or.inl ⟨by rfl, ?_⟩) ?_ ?_; rotate_left; (intro w'; go_simp; with_reducible rfl); rotate_left; (simp only [Act.put, sA_, sB_, sC_, i64_w, i32_w]; rfl)
      refine pure_ (i := 1) (N := some 16) (v := ?_) (a' := ?_) #[ty, ty, fy, fy, fy, fy, fy, fy, fy, fy] rfl rfl (any_of HT_.out (by kernel_rfl)) (fun _ _ _ h => h) (Or.inl ⟨by rfl, ?_⟩) ?_ ?_; rotate_left; (intro w'; go_simp; with_reducible rfl); rotate_left; (simp only [Act.put, sA_, sB_, sC_, i64_w, i32_w]; rfl)
      refine pure_ (i := 4) (N := some 19) (v := ?_) (a' := ?_) #[ty, ty, fy, fy, ty, fy, fy, fy, fy, fy] rfl rfl (any_of HT_.out (by kernel_rfl)) (fun _ _ _ h => h) (Or.inl ⟨by rfl, ?_⟩) ?_ ?_; rotate_left; (intro w'; go_simp; with_reducible rfl); rotate_left; (simp only [Act.put, sA_, sB_, sC_, i64_w, i32_w]; rfl)
      refine pure_ (i := 5) (N := some 20) (v := ?_) (a' := ?_) #[ty, ty, fy, fy, ty, ty, fy, fy, fy, fy] rfl rfl (any_of HT_.out (by kernel_rfl)) (fun _ _ _ h => h) (Or.inl ⟨by rfl, ?_⟩) ?_ ?_; rotate_left; (intro w'; go_simp; with_reducible rfl); rotate_left; (simp only [Act.put, sA_, sB_, sC_, i64_w, i32_w]; rfl)
      refine one_ (i := 2) (N := some 17) #[ty, ty, ty, fy, ty, ty, fy, fy, fy, fy] rfl rfl (one_of HT_.out (by kernel_rfl)) (by decide) (fun K hK => ?_)
      refine goes_ Try.func79 (by kernel_rfl) rfl #[.int .i64 x5_1, .int .i64 1] (by rfl) rfl rfl (by (try simp only [sD_, sE_, sF_]); first | done | rfl | (simp only [sG_, sH_]; rfl)) ?_
      with_reducible refine (spec_l1Most.calls x5_1 1 t219 _ A7.out).mono ?_
      rintro e w' ⟨rfl, ⟨nd, rfl⟩⟩
      refine ⟨_, rfl, ?_⟩
      refine hK.out _ _ trivial (fun hHeld => ?_)
      clear hK K
      refine norm_ (a' := ?_) ?_ ?_; rotate_left; (show Act.put _ (some 17) _ = _; simp only [Act.put, sA_, sB_, sC_, i64_w, i32_w]; rfl)
      refine pure_ (i := 3) (N := some 18) (v := ?_) (a' := ?_) #[ty, ty, ty, ty, ty, ty, fy, fy, fy, fy] rfl rfl (any_of HT_.out (by kernel_rfl)) (fun _ _ _ h => h) (Or.inl ⟨by rfl, ?_⟩) ?_ ?_; rotate_left; (intro w'; go_simp; with_reducible rfl); rotate_left; (simp only [Act.put, sA_, sB_, sC_, i64_w, i32_w]; rfl)
      refine one_ (i := 6) (N := some 21) #[ty, ty, ty, ty, ty, ty, ty, fy, fy, fy] rfl rfl (one_of HT_.out (by kernel_rfl)) (by decide) (fun K hK => ?_)
      refine goes_ Try.func79 (by kernel_rfl) rfl #[.int .i64 x5_1, .int .i64 1] (by rfl) rfl rfl (by (try simp only [sD_, sE_, sF_]); first | done | rfl | (simp only [sG_, sH_]; rfl)) ?_
      with_reducible refine (spec_l1Most.calls x5_1 1 t220 _ A9.out).mono ?_
      rintro e w' ⟨rfl, ⟨nd, rfl⟩⟩
      refine ⟨_, rfl, ?_⟩
      refine hK.out _ _ trivial (fun hHeld => ?_)
      clear hK K
      refine norm_ (a' := ?_) ?_ ?_; rotate_left; (show Act.put _ (some 21) _ = _; simp only [Act.put, sA_, sB_, sC_, i64_w, i32_w]; rfl)
      refine pure_ (i := 7) (N := some 22) (v := ?_) (a' := ?_) #[ty, ty, ty, ty, ty, ty, ty, ty, fy, fy] rfl rfl (any_of HT_.out (by kernel_rfl)) (fun _ _ _ h => h) (Or.inl ⟨by rfl, ?_⟩) ?_ ?_; rotate_left; (intro w'; go_simp; with_reducible rfl); rotate_left; (simp only [Act.put, sA_, sB_, sC_, i64_w, i32_w]; rfl)
      refine pure_ (i := 8) (N := some 23) (v := ?_) (a' := ?_) #[ty, ty, ty, ty, ty, ty, ty, ty, ty, fy] rfl rfl (any_of HT_.out (by kernel_rfl)) (fun _ _ _ h => h) (Or.inl ⟨by rfl, ?_⟩) ?_ ?_; rotate_left; (intro w'; go_simp; with_reducible rfl); rotate_left; (simp only [Act.put, sA_, sB_, sC_, i64_w, i32_w]; rfl)
      refine one_ (i := 9) (N := none) #[ty, ty, ty, ty, ty, ty, ty, ty, ty, ty] rfl rfl (one_of HT_.out (by kernel_rfl)) (by decide) (fun K hK => ?_)
      have hs12 : w11.cell? ⟨gb218, 0, none⟩ = some (.int .i64 0) := (blk_cell BK218.out 0).trans rfl
      have hfs12 := blk_frozen BK218.out 0
      have hs13 : w11.cell? ⟨gb218, 1, none⟩ = some (.int .i64 0) := (blk_cell BK218.out 1).trans rfl
      have hfs13 := blk_frozen BK218.out 1
      refine skip_ (w1 := ?_) (by rfl) rfl ?_ ?_
      rotate_left
      ·
       go_simp
       rfl
      refine hK.out _ _ trivial (fun hHeld => ?_)
      clear hK K
      refine done_ (done_of HT_.out (by kernel_rfl)) ?_
      try go_wp2
      refine bodyPost_ret (results_cell_row rfl _ _ gb218 26 #[.int .i64 (wrap64 (Int.tdiv a0 t219)), .int .i64 (wrap64 (Int.tdiv a1 t220))] (0, 0) _ rfl (by refine blk_put (cs := #[.int .i64 (wrap64 (Int.tdiv a0 t219)), .int .i64 0]) ?_ 1 _ rfl; refine blk_put (cs := #[.int .i64 0, .int .i64 0]) ?_ 0 _ rfl; (with_reducible repeat (first | refine blk_drewN ?_ _ | refine blk_drew ?_ | refine blk_alloc ?_ _)); exact BK218.out) Try.underlying26 rfl (by kernel_rfl)) rfl ?_
      exact ⟨by first | rfl | (simp [errW_none, errW_some] <;> rfl) | (simp [*, errW_none, errW_some] <;> rfl), by repeat (first | (with_reducible first | exact HB.out | apply below_alloc | apply pw_below_drewN | apply below_drew1 | refine below_set ?_ GE218.out) | exact HB.out)⟩
def spec_l9Plus.l0 : Nat → Int → Int → Int → Int → Int → Int → Option (Int × Int)
 | 0, _, _, _, _, _, _ => none
 | k + 1, x5, x6, x810000, x810001, x811000, x811001 => if x6 > 0 then (if x6 = 0 then (none) else (spec_l9Plus.l0 k x6 (Int.tmod x5 x6) x810000 x810001 x811000 x811001)) else (if x5 = 0 then (none) else ((spec_l9Cut.f k (wrap64 ((wrap64 (x810000 * (wrap64 (Int.tdiv x811001 x5)))) + (wrap64 (x811000 * (wrap64 (Int.tdiv x810001 x5)))))) (wrap64 ((wrap64 (Int.tdiv x810001 x5)) * x811001))).bind fun bt812 => (some (bt812.1, bt812.2))))
def spec_l9Plus.f (k : Nat) (a0_0 : Int) (a0_1 : Int) (a1_0 : Int) (a1_1 : Int) : Option (Int × Int) := spec_l9Plus.l0 k a0_1 a1_1 a0_0 a0_1 a1_0 a1_1
theorem spec_l9Plus.mono_l : ∀ k, (∀ y0 y1 y2 y3 y4 y5, LeO (spec_l9Plus.l0 k y0 y1 y2 y3 y4 y5) (spec_l9Plus.l0 (k + 1) y0 y1 y2 y3 y4 y5))
 | 0 => fun _ _ _ _ _ _ r h => by simp [spec_l9Plus.l0] at h
 | k + 1 => by
  have ih0 := spec_l9Plus.mono_l k
  ·
   intro y0 y1 y2 y3 y4 y5
   unfold spec_l9Plus.l0
   repeat' first
   | (with_reducible exact ih0 _ _ _ _ _ _)
   | (with_reducible exact spec_l9Cut.mono _ _ _)
   | (with_reducible exact LeO.refl _)
   | (with_reducible exact LeO.none _)
   | (with_reducible refine LeO.ite ?_ ?_)
   | (with_reducible refine LeO.bind ?_ (fun _ => ?_))
   | exact ih0 _ _ _ _ _ _
   | exact spec_l9Cut.mono _ _ _
   | exact LeO.none _
   | refine LeO.ite ?_ ?_
   | refine LeO.bind ?_ (fun _ => ?_)
theorem spec_l9Plus.mono : ∀ a0 a1 a2 a3 k, LeO (spec_l9Plus.f k a0 a1 a2 a3) (spec_l9Plus.f (k + 1) a0 a1 a2 a3) := by
 intro a0 a1 a2 a3 k
 have ih0 := spec_l9Plus.mono_l k
 unfold spec_l9Plus.f
 repeat' first
   | (with_reducible exact ih0 _ _ _ _ _ _)
   | (with_reducible exact spec_l9Cut.mono _ _ _)
   | (with_reducible exact LeO.refl _)
   | (with_reducible exact LeO.none _)
   | (with_reducible refine LeO.ite ?_ ?_)
   | (with_reducible refine LeO.bind ?_ (fun _ => ?_))
   | exact ih0 _ _ _ _ _ _
   | exact spec_l9Cut.mono _ _ _
   | exact LeO.none _
   | refine LeO.ite ?_ ?_
   | refine LeO.bind ?_ (fun _ => ?_)
def spec_l9Plus.T4 : Bool × List (List Nat × List Nat) := (true, [([], []), ([0], [0]), ([], []), ([2], [2]), ([], []), ([3, 4], [3, 4]), ([1, 5], [1, 5]), ([], []), ([7], [7]), ([], []), ([9], [9]), ([], []), ([10, 11], [10, 11]), ([8, 12], [8, 12]), ([6, 13], [6, 13]), ([], []), ([15], [15]), ([], []), ([16, 17], [16, 17]), ([], []), ([19], [19]), ([18, 20], [18, 20]), ([14, 21], [14, 21]), ([22, 22, 0, 1, 2, 3, 4, 5, 6, 7, 8, 9, 10, 11, 12, 13, 14, 15, 16, 17, 18, 19, 20, 21, 22], [22])])
def spec_l9Plus.B4 : List Nat := [0, 1, 0, 4, 0, 28, 63, 0, 128, 0, 512, 0, 3584, 8064, 16383, 0, 32768, 0, 229376, 0, 524288, 2064384, 4194303, 8388607]
theorem spec_l9Plus.tab4 : rtab .any (opsOf Try.f104 4) = spec_l9Plus.T4 := by kernel_rfl
theorem spec_l9Plus.bits4 : waitsOk spec_l9Plus.T4.2 spec_l9Plus.B4 = true := by kernel_rfl
set_option maxHeartbeats 8000000 in
set_option maxRecDepth 100000 in
theorem spec_l9Plus.calls (k : Nat) (a0_0 : Int) (a0_1 : Int) (a1_0 : Int) (a1_1 : Int) (r1 : Int) (r2 : Int) (w : World) (h : spec_l9Plus.f k a0_0 a0_1 a1_0 a1_1 = some (r1, r2)) :
  Calls Try.prog 104 #[.agg #[.int .i64 a0_0, .int .i64 a0_1], .agg #[.int .i64 a1_0, .int .i64 a1_1]] w fun e w' => e = .returned (.agg #[.int .i64 r1, .int .i64 r2]) ∧ Below w.heap.size w w' := by
 have hu26 := Try.underlying26
 have HB := aM_ (Below.refl w.heap.size w)
 have H : (spec_l9Plus.l0 k a0_1 a1_1 a0_0 a0_1 a1_0 a1_1) = some (r1, r2) := h
 clear h
 have H' := aM_ H
 clear H
 go_enter Try.func104, Try.ntmps104
 try go_wp2_with (first | ((with_reducible refine gate_dst (N := 2) rfl ?_); refine box_event ?hg (N := 2) ?hd (cs := #[.int .i64 a0_0, .int .i64 a0_1]) (t := 26) ?hr ?_; (case hd => rfl); (case hg => rfl); (case hr => first | (go_simp; done) | (go_simp; rfl)); intro gb809 hg w3 hbox hb; have BK809 := aM_ (hbox); have GW809 := aM_ ((by rw [hg]; exact (below_size HB.out) : w.heap.size ≤ gb809)); have GE809 := GW809; replace HB := aM_ (below_step HB.out hb); clear hb hbox hg) | ((with_reducible refine gate_dst (N := 3) rfl ?_); refine box_event ?hg (N := 3) ?hd (cs := #[.int .i64 a1_0, .int .i64 a1_1]) (t := 26) ?hr ?_; (case hd => rfl); (case hg => rfl); (case hr => first | (go_simp; done) | (go_simp; rfl)); intro gb810 hg w4 hbox hb; have BK810 := aM_ (hbox); have GW810 := aM_ ((by rw [hg]; exact (below_size HB.out) : w.heap.size ≤ gb810)); have GE810 := GW810; replace HB := aM_ (below_step HB.out hb); have NB809_810 := aM_ ((by rw [hg]; exact Nat.ne_of_lt (blk_lt BK809.out) : gb809 ≠ gb810)); have NB810_809 := aM_ NB809_810.out.symm; replace BK809 := aM_ (blk_below BK809.out hb); clear hb hbox hg) | ((with_reducible refine gate_dst (N := 4) rfl ?_); refine box_event ?hg (N := 4) ?hd (cs := #[.int .i64 0, .int .i64 0]) (t := 26) ?hr ?_; (case hd => rfl); (case hg => rfl); (case hr => first | (go_simp; done) | (go_simp; rfl)); intro gb811 hg w5 hbox hb; have BK811 := aM_ (hbox); have GW811 := aM_ ((by rw [hg]; exact (below_size HB.out) : w.heap.size ≤ gb811)); have GE811 := GW811; replace HB := aM_ (below_step HB.out hb); have NB809_811 := aM_ ((by rw [hg]; exact Nat.ne_of_lt (blk_lt BK809.out) : gb809 ≠ gb811)); have NB811_809 := aM_ NB809_811.out.symm; replace BK809 := aM_ (blk_below BK809.out hb); have NB810_811 := aM_ ((by rw [hg]; exact Nat.ne_of_lt (blk_lt BK810.out) : gb810 ≠ gb811)); have NB811_810 := aM_ NB810_811.out.symm; replace BK810 := aM_ (blk_below BK810.out hb); clear hb hbox hg))
 have n0_ := aM_ (blk_drew BK809.out)
 have n1_ := aM_ (blk_drew BK810.out)
 have n2_ := aM_ (blk_drew BK811.out)
 have n3_ := aM_ (below_drew1 HB.out)
 clear BK809
 clear BK810
 clear BK811
 clear HB
 have BK809 := n0_
 have BK810 := n1_
 have BK811 := n2_
 have HB := n3_
 clear n0_ n1_ n2_ n3_
 refine start_ (n := 6) (S := fun w' => w'.cell? ⟨gb809, 0, none⟩ = some (.int .i64 a0_0) ∧ w'.cell? ⟨gb809, 1, none⟩ = some (.int .i64 a0_1) ∧ w'.cell? ⟨gb810, 0, none⟩ = some (.int .i64 a1_0) ∧ w'.cell? ⟨gb810, 1, none⟩ = some (.int .i64 a1_1)) (ds := []) #[fy, fy, fy, fy, fy, fy] (by kernel_rfl) rfl rfl ⟨(blk_cell BK809.out 0).trans rfl, (blk_cell BK809.out 1).trans rfl, (blk_cell BK810.out 0).trans rfl, (blk_cell BK810.out 1).trans rfl⟩ (fun hHeld => ?_)
 generalize w5.drew = w6 at BK809 BK810 BK811 HB hHeld ⊢
 refine pure_ (i := 0) (N := some 7) (v := ?_) (a' := ?_) #[ty, fy, fy, fy, fy, fy] rfl rfl (by kernel_rfl) (fun _ _ _ h => h) (Or.inl ⟨by rfl, ?_⟩) ?_ ?_; rotate_left; (intro w'; go_simp; with_reducible rfl); rotate_left; (simp only [Act.put, sA_, sB_, sC_, i64_w, i32_w]; rfl)
 refine pure_ (i := 2) (N := some 9) (v := ?_) (a' := ?_) #[ty, fy, ty, fy, fy, fy] rfl rfl (by kernel_rfl) (fun _ _ _ h => h) (Or.inl ⟨by rfl, ?_⟩) ?_ ?_; rotate_left; (intro w'; go_simp; with_reducible rfl); rotate_left; (simp only [Act.put, sA_, sB_, sC_, i64_w, i32_w]; rfl)
 refine take_ (i := 1) (N := some 8) (v := ?_) (a' := ?_) #[ty, ty, ty, fy, fy, fy] rfl rfl (by kernel_rfl) (fun _ _ _ h => h) (Or.inl ⟨by rfl, ?_⟩) hHeld ?_ ?_; rotate_left; (rintro w' ⟨s0, s1, s2, s3⟩; go_simp; with_reducible rfl); rotate_left; (simp only [Act.put, sA_, sB_, sC_, i64_w, i32_w]; rfl)
 refine pure_ (i := 4) (N := some 5) (v := ?_) (a' := ?_) #[ty, ty, ty, fy, ty, fy] rfl rfl (by kernel_rfl) (fun _ _ _ h => h) (Or.inl ⟨by rfl, ?_⟩) ?_ ?_; rotate_left; (intro w'; go_simp; with_reducible rfl); rotate_left; (simp only [Act.put, sA_, sB_, sC_, i64_w, i32_w]; rfl)
 refine take_ (i := 3) (N := some 10) (v := ?_) (a' := ?_) #[ty, ty, ty, ty, ty, fy] rfl rfl (by kernel_rfl) (fun _ _ _ h => h) (Or.inl ⟨by rfl, ?_⟩) hHeld ?_ ?_; rotate_left; (rintro w' ⟨s0, s1, s2, s3⟩; go_simp; with_reducible rfl); rotate_left; (simp only [Act.put, sA_, sB_, sC_, i64_w, i32_w]; rfl)
 refine pure_ (i := 5) (N := some 6) (v := ?_) (a' := ?_) #[ty, ty, ty, ty, ty, ty] rfl rfl (by kernel_rfl) (fun _ _ _ h => h) (Or.inl ⟨by rfl, ?_⟩) ?_ ?_; rotate_left; (intro w'; go_simp; with_reducible rfl); rotate_left; (simp only [Act.put, sA_, sB_, sC_, i64_w, i32_w]; rfl)
 refine done_ (by kernel_rfl) ?_
 try go_wp2
 go_loopg [5, 6] k (fun kq v5 v6 w' => ∃ (x5_1 : Int) (x6_1 : Int), v5 = .int .i64 x5_1 ∧ v6 = .int .i64 x6_1 ∧ Aside0 (spec_l9Plus.l0 kq x5_1 x6_1 a0_0 a0_1 a1_0 a1_1 = some (r1, r2)) ∧ Aside0 (kq ≤ k) ∧ Aside0 (w'.heap[gb809]? = some (.cells #[.int .i64 a0_0, .int .i64 a0_1] 26 (0, 0))) ∧ Aside0 (w'.heap[gb810]? = some (.cells #[.int .i64 a1_0, .int .i64 a1_1] 26 (0, 0))) ∧ Aside0 (w'.heap[gb811]? = some (.cells #[.int .i64 0, .int .i64 0] 26 (0, 0))) ∧ Aside0 (Below w.heap.size w w'))
 case atStart => exact ⟨(a0_1), (a1_1), (by first | rfl | (simp; done) | (simp [*]; done)), (by first | rfl | (simp; done) | (simp [*]; done)), H', ⟨Nat.le_refl _⟩, ⟨BK809.out⟩, ⟨BK810.out⟩, ⟨BK811.out⟩, ⟨HB.out⟩⟩
 case round =>
  clear H'
  try clear c1
  try clear p2
  obtain ⟨x5_1, x6_1, rfl, rfl, HA, HK1, BK809, BK810, BK811, HB⟩ := hrel
  cases gk with
  | zero => exact absurd HA.out (by simp [spec_l9Plus.l0])
  | succ k1 =>
   have H := HA.out
   clear HA
   simp only [spec_l9Plus.l0] at H
   by_cases c7 : x6_1 > 0
   ·
    rw [if_pos c7] at H
    have c7b0 := decide_eq_true c7
    clear c7
    by_cases c8 : x6_1 = 0
    ·
     rw [if_pos c8] at H
     exact absurd H (by simp)
    ·
     rw [if_neg c8] at H
     have c8b0 : (x6_1 == 0) = false := beq_eq_false_iff_ne.mpr c8
     have c8b1 : (x6_1 != 0) = true := bne_iff_ne.mpr c8
     have H' := aM_ H
     clear H
     try go_wp2
     have n0_ := aM_ (blk_drew BK809.out)
     have n1_ := aM_ (blk_drew BK810.out)
     have n2_ := aM_ (blk_drew BK811.out)
     have n3_ := aM_ (below_drew1 HB.out)
     clear BK809
     clear BK810
     clear BK811
     clear HB
     have BK809 := n0_
     have BK810 := n1_
     have BK811 := n2_
     have HB := n3_
     clear n0_ n1_ n2_ n3_
     refine start_ (n := 6) (S := fun w' => True) (ds := []) #[fy, fy, fy, fy, fy, fy] (by kernel_rfl) rfl rfl trivial (fun hHeld => ?_)
     generalize wr.drew = w9 at BK809 BK810 BK811 HB hHeld ⊢
     refine pure_ (i := 0) (N := some 13) (v := ?_) (a' := ?_) #[ty, fy, fy, fy, fy, fy] rfl rfl (by kernel_rfl) (fun _ _ _ h => h) (Or.inl ⟨by rfl, ?_⟩) ?_ ?_; rotate_left; (intro w'; go_simp; with_reducible rfl); rotate_left; (simp only [Act.put, sA_, sB_, sC_, i64_w, i32_w]; rfl)
     refine pure_ (i := 1) (N := some 14) (v := ?_) (a' := ?_) #[ty, ty, fy, fy, fy, fy] rfl rfl (by kernel_rfl) (fun _ _ _ h => h) (Or.inl ⟨by rfl, ?_⟩) ?_ ?_; rotate_left; (intro w'; go_simp; with_reducible rfl); rotate_left; (simp only [Act.put, sA_, sB_, sC_, i64_w, i32_w]; rfl)
     refine pure_ (i := 2) (N := some 15) (v := ?_) (a' := ?_) #[ty, ty, ty, fy, fy, fy] rfl rfl (by kernel_rfl) (fun _ _ _ h => h) (Or.inl ⟨by rfl, ?_⟩) ?_ ?_; rotate_left; (intro w'; go_simp; with_reducible rfl); rotate_left; (simp only [Act.put, sA_, sB_, sC_, i64_w, i32_w]; rfl)
     refine pure_ (i := 3) (N := some 16) (v := ?_) (a' := ?_) #[ty, ty, ty, ty, fy, fy] rfl rfl (by kernel_rfl) (fun _ _ _ h => h) (Or.inl ⟨by rfl, ?_⟩) ?_ ?_; rotate_left; (intro w'; go_simp; with_reducible rfl); rotate_left; (simp only [Act.put, sA_, sB_, sC_, i64_w, i32_w]; rfl)
     refine pure_ (i := 4) (N := some 5) (v := ?_) (a' := ?_) #[ty, ty, ty, ty, ty, fy] rfl rfl (by kernel_rfl) (fun _ _ _ h => h) (Or.inl ⟨by rfl, ?_⟩) ?_ ?_; rotate_left; (intro w'; go_simp; with_reducible rfl); rotate_left; (simp only [Act.put, sA_, sB_, sC_, i64_w, i32_w]; rfl)
     refine pure_ (i := 5) (N := some 6) (v := ?_) (a' := ?_) #[ty, ty, ty, ty, ty, ty] rfl rfl (by kernel_rfl) (fun _ _ _ h => h) (Or.inl ⟨by rfl, ?_⟩) ?_ ?_; rotate_left; (intro w'; go_simp; with_reducible rfl); rotate_left; (simp only [Act.put, sA_, sB_, sC_, i64_w, i32_w]; rfl)
     refine done_ (by kernel_rfl) ?_
     try go_wp2
     go_roundg k1
     case measure => have := HK1.out; omega
     case rel => exact ⟨(x6_1), (Int.tmod x5_1 x6_1), (by first | rfl | (simp; done) | (simp [*]; done)), (by first | rfl | (simp; done) | (simp [*]; done)), H', ⟨by have := HK1.out; omega⟩, ⟨BK809.out⟩, ⟨BK810.out⟩, ⟨BK811.out⟩, ⟨HB.out⟩⟩
   ·
    rw [if_neg c7] at H
    have c7b0 := decide_eq_false c7
    clear c7
    by_cases c10 : x5_1 = 0
    ·
     rw [if_pos c10] at H
     exact absurd H (by simp)
    ·
     rw [if_neg c10] at H
     have c10b0 : (x5_1 == 0) = false := beq_eq_false_iff_ne.mpr c10
     have c10b1 : (x5_1 != 0) = true := bne_iff_ne.mpr c10
     replace H := Option.bind_eq_some_iff.mp H
     obtain ⟨⟨t812, t813⟩, A110, H⟩ := H
     try dsimp only at H
     have A11 := aM_ A110
     clear A110
     simp only [Option.some.injEq, Prod.mk.injEq] at H
     obtain ⟨rfl, rfl⟩ := H
     try go_wp2
     have n0_ := aM_ (blk_drew BK809.out)
     have n1_ := aM_ (blk_drew BK810.out)
     have n2_ := aM_ (blk_drew BK811.out)
     have n3_ := aM_ (below_drew1 HB.out)
     clear BK809
     clear BK810
     clear BK811
     clear HB
     have BK809 := n0_
     have BK810 := n1_
     have BK811 := n2_
     have HB := n3_
     clear n0_ n1_ n2_ n3_
     refine start_ (n := 24) (S := fun w' => w'.cell? ⟨gb809, 0, none⟩ = some (.int .i64 a0_0) ∧ w'.cell? ⟨gb809, 1, none⟩ = some (.int .i64 a0_1) ∧ w'.cell? ⟨gb810, 0, none⟩ = some (.int .i64 a1_0) ∧ w'.cell? ⟨gb810, 1, none⟩ = some (.int .i64 a1_1)) (ds := []) #[fy, fy, fy, fy, fy, fy, fy, fy, fy, fy, fy, fy, fy, fy, fy, fy, fy, fy, fy, fy, fy, fy, fy, fy] (by kernel_rfl) rfl rfl ⟨(blk_cell BK809.out 0).trans rfl, (blk_cell BK809.out 1).trans rfl, (blk_cell BK810.out 0).trans rfl, (blk_cell BK810.out 1).trans rfl⟩ (fun hHeld => ?_); refine with_tabW spec_l9Plus.tab4 spec_l9Plus.bits4 (fun HT_ HW_ => ?_)
     generalize wr.drew = w12 at BK809 BK810 BK811 HB hHeld ⊢
     refine pure_ (i := 0) (N := some 17) (v := ?_) (a' := ?_) #[ty, fy, fy, fy, fy, fy, fy, fy, fy, fy, fy, fy, fy, fy, fy, fy, fy, fy, fy, fy, fy, fy, fy, fy] rfl rfl (any_of HT_.out (by kernel_rfl)) (fun _ _ _ h => h) (Or.inl ⟨by rfl, ?_⟩) ?_ ?_; rotate_left; (intro w'; go_simp; with_reducible rfl); rotate_left; (simp only [Act.put, sA_, sB_, sC_, i64_w, i32_w]; rfl)
     refine pure_ (i := 2) (N := some 19) (v := ?_) (a' := ?_) #[ty, fy, ty, fy, fy, fy, fy, fy, fy, fy, fy, fy, fy, fy, fy, fy, fy, fy, fy, fy, fy, fy, fy, fy] rfl rfl (any_of HT_.out (by kernel_rfl)) (fun _ _ _ h => h) (Or.inl ⟨by rfl, ?_⟩) ?_ ?_; rotate_left; (intro w'; go_simp; with_reducible rfl); rotate_left; (simp only [Act.put, sA_, sB_, sC_, i64_w, i32_w]; rfl)
     refine pure_ (i := 4) (N := some 21) (v := ?_) (a' := ?_) #[ty, fy, ty, fy, ty, fy, fy, fy, fy, fy, fy, fy, fy, fy, fy, fy, fy, fy, fy, fy, fy, fy, fy, fy] rfl rfl (any_of HT_.out (by kernel_rfl)) (fun _ _ _ h => h) (Or.inl ⟨by rfl, ?_⟩) ?_ ?_; rotate_left; (intro w'; go_simp; with_reducible rfl); rotate_left; (simp only [Act.put, sA_, sB_, sC_, i64_w, i32_w]; rfl)
     refine pure_ (i := 7) (N := some 24) (v := ?_) (a' := ?_) #[ty, fy, ty, fy, ty, fy, fy, ty, fy, fy, fy, fy, fy, fy, fy, fy, fy, fy, fy, fy, fy, fy, fy, fy] rfl rfl (any_of HT_.out (by kernel_rfl)) (fun _ _ _ h => h) (Or.inl ⟨by rfl, ?_⟩) ?_ ?_; rotate_left; (intro w'; go_simp; with_reducible rfl); rotate_left; (simp only [Act.put, sA_, sB_, sC_, i64_w, i32_w]; rfl)
     refine pure_ (i := 9) (N := some 26) (v := ?_) (a' := ?_) #[ty, fy, ty, fy, ty, fy, fy, ty, fy, ty, fy, fy, fy, fy, fy, fy, fy, fy, fy, fy, fy, fy, fy, fy] rfl rfl (any_of HT_.out (by kernel_rfl)) (fun _ _ _ h => h) (Or.inl ⟨by rfl, ?_⟩) ?_ ?_; rotate_left; (intro w'; go_simp; with_reducible rfl); rotate_left; (simp only [Act.put, sA_, sB_, sC_, i64_w, i32_w]; rfl)
     refine pure_ (i := 11) (N := some 28) (v := ?_) (a' := ?_) #[ty, fy, ty, fy, ty, fy, fy, ty, fy, ty, fy, ty, fy, fy, fy, fy, fy, fy, fy, fy, fy, fy, fy, fy] rfl rfl (any_of HT_.out (by kernel_rfl)) (fun _ _ _ h => h) (Or.inl ⟨by rfl, ?_⟩) ?_ ?_; rotate_left; (intro w'; go_simp; with_reducible rfl); rotate_left; (simp only [Act.put, sA_, sB_, sC_, i64_w, i32_w]; rfl)
     refine pure_ (i := 15) (N := some 32) (v := ?_) (a' := ?_) #[ty, fy, ty, fy, ty, fy, fy, ty, fy, ty, fy, ty, fy, fy, fy, ty, fy, fy, fy, fy, fy, fy, fy, fy] rfl rfl (any_of HT_.out (by kernel_rfl)) (fun _ _ _ h => h) (Or.inl ⟨by rfl, ?_⟩) ?_ ?_; rotate_left; (intro w'; go_simp; with_reducible rfl); rotate_left; (simp only [Act.put, sA_, sB_, sC_, i64_w, i32_w]; rfl)
     refine pure_ (i := 17) (N := some 34) (v := ?_) (a' := ?_) #[ty, fy, ty, fy, ty, fy, fy, ty, fy, ty, fy, ty, fy, fy, fy, ty, fy, ty, fy, fy, fy, fy, fy, fy] rfl rfl (any_of HT_.out (by kernel_rfl)) (fun _ _ _ h => h) (Or.inl ⟨by rfl, ?_⟩) ?_ ?_; rotate_left; (intro w'; go_simp; with_reducible rfl); rotate_left; (simp only [Act.put, sA_, sB_, sC_, i64_w, i32_w]; rfl)
     refine pure_ (i := 19) (N := some 36) (v := ?_) (a' := ?_) #[ty, fy, ty, fy, ty, fy, fy, ty, fy, ty, fy, ty, fy, fy, fy, ty, fy, ty, fy, ty, fy, fy, fy, fy] rfl rfl (any_of HT_.out (by kernel_rfl)) (fun _ _ _ h => h) (Or.inl ⟨by rfl, ?_⟩) ?_ ?_; rotate_left; (intro w'; go_simp; with_reducible rfl); rotate_left; (simp only [Act.put, sA_, sB_, sC_, i64_w, i32_w]; rfl)
     refine take_ (i := 1) (N := some 18) (v := ?_) (a' := ?_) #[ty, ty, ty, fy, ty, fy, fy, ty, fy, ty, fy, ty, fy, fy, fy, ty, fy, ty, fy, ty, fy, fy, fy, fy] rfl rfl (take_ofW HT_.out HW_.out (by kernel_rfl)) (fun _ _ _ h => h) (Or.inl ⟨by rfl, ?_⟩) hHeld ?_ ?_; rotate_left; (rintro w' ⟨s0, s1, s2, s3⟩; go_simp; with_reducible rfl); rotate_left; (simp only [Act.put, sA_, sB_, sC_, i64_w, i32_w]; rfl)
     refine take_ (i := 3) (N := some 20) (v := ?_) (a' := ?_) #[ty, ty, ty, ty, ty, fy, fy, ty, fy, ty, fy, ty, fy, fy, fy, ty, fy, ty, fy, ty, fy, fy, fy, fy] rfl rfl (take_ofW HT_.out HW_.out (by kernel_rfl)) (fun _ _ _ h => h) (Or.inl ⟨by rfl, ?_⟩) hHeld ?_ ?_; rotate_left; (rintro w' ⟨s0, s1, s2, s3⟩; go_simp; with_reducible rfl); rotate_left; (simp only [Act.put, sA_, sB_, sC_, i64_w, i32_w]; rfl)
     refine pure_ (i := 5) (N := some 22) (v := ?_) (a' := ?_) #[ty, ty, ty, ty, ty, ty, fy, ty, fy, ty, fy, ty, fy, fy, fy, ty, fy, ty, fy, ty, fy, fy, fy, fy] rfl rfl (any_of HT_.out (by kernel_rfl)) (fun _ _ _ h => h) (Or.inl ⟨by rfl, ?_⟩) ?_ ?_; rotate_left; (intro w'; go_simp; with_reducible rfl); rotate_left; (simp only [Act.put, sA_, sB_, sC_, i64_w, i32_w]; rfl)
     refine pure_ (i := 6) (N := some 23) (v := ?_) (a' := ?_) #[ty, ty, ty, ty, ty, ty, ty, ty, fy, ty, fy, ty, fy, fy, fy, ty, fy, ty, fy, ty, fy, fy, fy, fy] rfl rfl (any_of HT_.out (by kernel_rfl)) (fun _ _ _ h => h) (Or.inl ⟨by rfl, ?_⟩) ?_ ?_; rotate_left; (intro w'; go_simp; with_reducible rfl); rotate_left; (simp only [Act.put, sA_, sB_, sC_, i64_w, i32_w]; rfl)
     refine take_ (i := 8) (N := some 25) (v := ?_) (a' := ?_) #[ty, ty, ty, ty, ty, ty, ty, ty, ty, ty, fy, ty, fy, fy, fy, ty, fy, ty, fy, ty, fy, fy, fy, fy] rfl rfl (take_ofW HT_.out HW_.out (by kernel_rfl)) (fun _ _ _ h => h) (Or.inl ⟨by rfl, ?_⟩) hHeld ?_ ?_; rotate_left; (rintro w' ⟨s0, s1, s2, s3⟩; go_simp; with_reducible rfl); rotate_left; (simp only [Act.put, sA_, sB_, sC_, i64_w, i32_w]; rfl)
     refine take_ (i := 10) (N := some 27) (v := ?_) (a' := ?_) #[ty, ty, ty, ty, ty, ty, ty, ty, ty, ty, ty, ty, fy, fy, fy, ty, fy, ty, fy, ty, fy, fy, fy, fy] rfl rfl (take_ofW HT_.out HW_.out (by kernel_rfl)) (fun _ _ _ h => h) (Or.inl ⟨by rfl, ?_⟩) hHeld ?_ ?_; rotate_left; (rintro w' ⟨s0, s1, s2, s3⟩; go_simp; with_reducible rfl); rotate_left; (simp only [Act.put, sA_, sB_, sC_, i64_w, i32_w]; rfl)
     refine pure_ (i := 12) (N := some 29) (v := ?_) (a' := ?_) #[ty, ty, ty, ty, ty, ty, ty, ty, ty, ty, ty, ty, ty, fy, fy, ty, fy, ty, fy, ty, fy, fy, fy, fy] rfl rfl (any_of HT_.out (by kernel_rfl)) (fun _ _ _ h => h) (Or.inl ⟨by rfl, ?_⟩) ?_ ?_; rotate_left; (intro w'; go_simp; with_reducible rfl); rotate_left; (simp only [Act.put, sA_, sB_, sC_, i64_w, i32_w]; rfl)
     refine pure_ (i := 13) (N := some 30) (v := ?_) (a' := ?_) #[ty, ty, ty, ty, ty, ty, ty, ty, ty, ty, ty, ty, ty, ty, fy, ty, fy, ty, fy, ty, fy, fy, fy, fy] rfl rfl (any_of HT_.out (by kernel_rfl)) (fun _ _ _ h => h) (Or.inl ⟨by rfl, ?_⟩) ?_ ?_; rotate_left; (intro w'; go_simp; with_reducible rfl); rotate_left; (simp only [Act.put, sA_, sB_, sC_, i64_w, i32_w]; rfl)
     refine pure_ (i := 14) (N := some 31) (v := ?_) (a' := ?_) #[ty, ty, ty, ty, ty, ty, ty, ty, ty, ty, ty, ty, ty, ty, ty, ty, fy, ty, fy, ty, fy, fy, fy, fy] rfl rfl (any_of HT_.out (by kernel_rfl)) (fun _ _ _ h => h) (Or.inl ⟨by rfl, ?_⟩) ?_ ?_; rotate_left; (intro w'; go_simp; with_reducible rfl); rotate_left; (simp only [Act.put, sA_, sB_, sC_, i64_w, i32_w]; rfl)
     refine take_ (i := 16) (N := some 33) (v := ?_) (a' := ?_) #[ty, ty, ty, ty, ty, ty, ty, ty, ty, ty, ty, ty, ty, ty, ty, ty, ty, ty, fy, ty, fy, fy, fy, fy] rfl rfl (take_ofW HT_.out HW_.out (by kernel_rfl)) (fun _ _ _ h => h) (Or.inl ⟨by rfl, ?_⟩) hHeld ?_ ?_; rotate_left; (rintro w' ⟨s0, s1, s2, s3⟩; go_simp; with_reducible rfl); rotate_left; (simp only [Act.put, sA_, sB_, sC_, i64_w, i32_w]; rfl)
     refine pure_ (i := 18) (N := some 35) (v := ?_) (a' := ?_) #[ty, ty, ty, ty, ty, ty, ty, ty, ty, ty, ty, ty, ty, ty, ty, ty, ty, ty, ty, ty, fy, fy, fy, fy] rfl rfl (any_of HT_.out (by kernel_rfl)) (fun _ _ _ h => h) (Or.inl ⟨by rfl, ?_⟩) ?_ ?_; rotate_left; (intro w'; go_simp; with_reducible rfl); rotate_left; (simp only [Act.put, sA_, sB_, sC_, i64_w, i32_w]; rfl)
     refine take_ (i := 20) (N := some 37) (v := ?_) (a' := ?_) #[ty, ty, ty, ty, ty, ty, ty, ty, ty, ty, ty, ty, ty, ty, ty, ty, ty, ty, ty, ty, ty, fy, fy, fy] rfl rfl (take_ofW HT_.out HW_.out (by kernel_rfl)) (fun _ _ _ h => h) (Or.inl ⟨by rfl, ?_⟩) hHeld ?_ ?_; rotate_left; (rintro w' ⟨s0, s1, s2, s3⟩; go_simp; with_reducible rfl); rotate_left; (simp only [Act.put, sA_, sB_, sC_, i64_w, i32_w]; rfl)
     refine pure_ (i := 21) (N := some 38) (v := ?_) (a' := ?_) #[ty, ty, ty, ty, ty, ty, ty, ty, ty, ty, ty, ty, ty, ty, ty, ty, ty, ty, ty, ty, ty, ty, fy, fy] rfl rfl (any_of HT_.out (by kernel_rfl)) (fun _ _ _ h => h) (Or.inl ⟨by rfl, ?_⟩) ?_ ?_; rotate_left; (intro w'; go_simp; with_reducible rfl); rotate_left; (simp only [Act.put, sA_, sB_, sC_, i64_w, i32_w]; rfl)
     refine one_ (i := 22) (N := some 39) #[ty, ty, ty, ty, ty, ty, ty, ty, ty, ty, ty, ty, ty, ty, ty, ty, ty, ty, ty, ty, ty, ty, ty, fy] rfl rfl (one_of HT_.out (by kernel_rfl)) (by decide) (fun K hK => ?_)
     refine goes_ Try.func40 (by kernel_rfl) rfl #[.int .i64 (wrap64 ((wrap64 (a0_0 * (wrap64 (Int.tdiv a1_1 x5_1)))) + (wrap64 (a1_0 * (wrap64 (Int.tdiv a0_1 x5_1)))))), .int .i64 (wrap64 ((wrap64 (Int.tdiv a0_1 x5_1)) * a1_1))] (by rfl) rfl rfl (by (try simp only [sD_, sE_, sF_]); first | done | rfl | (simp only [sG_, sH_]; rfl)) ?_
     with_reducible refine (spec_l9Cut.calls k1 (wrap64 ((wrap64 (a0_0 * (wrap64 (Int.tdiv a1_1 x5_1)))) + (wrap64 (a1_0 * (wrap64 (Int.tdiv a0_1 x5_1)))))) (wrap64 ((wrap64 (Int.tdiv a0_1 x5_1)) * a1_1)) t812 t813 _ A11.out).mono ?_
     rintro e w13 ⟨rfl, hb⟩
     refine ⟨_, rfl, ?_⟩
     have n0_ := aM_ (blk_below BK809.out hb)
     have n1_ := aM_ (blk_below BK810.out hb)
     have n2_ := aM_ (blk_below BK811.out hb)
     have n3_ := aM_ (below_step HB.out hb)
     clear BK809
     clear BK810
     clear BK811
     clear HB
     have BK809 := n0_
     have BK810 := n1_
     have BK811 := n2_
     have HB := n3_
     clear n0_ n1_ n2_ n3_
     (try clear hb)
     (try clear hb2)
     (try clear hk)
     (try clear hi)
     refine hK.out _ _ ⟨(blk_cell BK809.out 0).trans rfl, (blk_cell BK809.out 1).trans rfl, (blk_cell BK810.out 0).trans rfl, (blk_cell BK810.out 1).trans rfl⟩ (fun hHeld => ?_)
     clear hK K
     refine norm_ (a' := ?_) ?_ ?_; rotate_left; (show Act.put _ (some 39) _ = _; simp only [Act.put, sA_, sB_, sC_, i64_w, i32_w]; rfl)
     refine one_ (i := 23) (N := none) #[ty, ty, ty, ty, ty, ty, ty, ty, ty, ty, ty, ty, ty, ty, ty, ty, ty, ty, ty, ty, ty, ty, ty, ty] rfl rfl (one_of HT_.out (by kernel_rfl)) (by decide) (fun K hK => ?_)
     have hs14 : w13.cell? ⟨gb811, 0, none⟩ = some (.int .i64 0) := (blk_cell BK811.out 0).trans rfl
     have hfs14 := blk_frozen BK811.out 0
     have hns14_0 := NB809_811.out
     have hns14_1 := NB810_811.out
     have hms14_0 := NB811_809.out
     have hms14_1 := NB811_810.out
     have hs15 : w13.cell? ⟨gb811, 1, none⟩ = some (.int .i64 0) := (blk_cell BK811.out 1).trans rfl
     have hfs15 := blk_frozen BK811.out 1
     have hns15_0 := NB809_811.out
     have hns15_1 := NB810_811.out
     have hms15_0 := NB811_809.out
     have hms15_1 := NB811_810.out
     refine skip_ (w1 := ?_) (by rfl) rfl ?_ ?_
     rotate_left
     ·
      go_simp
      rfl
     refine hK.out _ _ ⟨((cell_far (p := ⟨gb811, _, none⟩) NB809_811.out _).trans (((cell_far (p := ⟨gb811, _, none⟩) NB809_811.out _).trans (hHeld.1)))), ((cell_far (p := ⟨gb811, _, none⟩) NB809_811.out _).trans (((cell_far (p := ⟨gb811, _, none⟩) NB809_811.out _).trans (hHeld.2.1)))), ((cell_far (p := ⟨gb811, _, none⟩) NB810_811.out _).trans (((cell_far (p := ⟨gb811, _, none⟩) NB810_811.out _).trans (hHeld.2.2.1)))), ((cell_far (p := ⟨gb811, _, none⟩) NB810_811.out _).trans (((cell_far (p := ⟨gb811, _, none⟩) NB810_811.out _).trans (hHeld.2.2.2))))⟩ (fun hHeld => ?_)
     clear hK K
     refine done_ (done_of HT_.out (by kernel_rfl)) ?_
     try go_wp2
     refine bodyPost_ret (results_cell_row rfl _ _ gb811 26 #[.int .i64 t812, .int .i64 t813] (0, 0) _ rfl (by refine blk_put (cs := #[.int .i64 t812, .int .i64 0]) ?_ 1 _ rfl; refine blk_put (cs := #[.int .i64 0, .int .i64 0]) ?_ 0 _ rfl; exact BK811.out) Try.underlying26 rfl (by kernel_rfl)) rfl ?_
     exact ⟨by first | rfl | (simp [errW_none, errW_some] <;> rfl) | (simp [*, errW_none, errW_some] <;> rfl), by repeat (first | (with_reducible first | exact HB.out | apply below_alloc | apply pw_below_drewN | apply below_drew1 | refine below_set ?_ GE809.out | refine below_set ?_ GE810.out | refine below_set ?_ GE811.out) | exact HB.out)⟩
mutual
def spec_l9Mean.l0 : Nat → Int → List Int → Int → List (S80) → Int → Int → Option (Int × Int)
 | 0, _, _, _, _, _, _ => none
 | k + 1, x1, x6, x7, x815000, x823000, x823001 => if x7 < (x6.length : Int) then (if 0 ≤ x7 then ((spec_l9Mean.f k x815000 (rd x6 x7)).bind fun bt824 => ((spec_l9Plus.f k x823000 x823001 bt824.1 bt824.2).bind fun bt826 => (spec_l9Mean.l0 k x1 x6 (wrap64 (x7 + 1)) x815000 bt826.1 bt826.2))) else (none)) else ((spec_l9Choices.f k x815000 x1).bind fun t828 => ((spec_l9Cut.f k x823000 (wrap64 (x823001 * t828))).bind fun bt829 => (some (bt829.1, bt829.2))))
def spec_l9Mean.f : Nat → List (S80) → Int → Option (Int × Int)
 | 0, _, _ => none
 | k + 1, l0_0, a1 => (spec_l2Kids.f k l0_0 a1).bind fun t816 => ((spec_l2Kids.f k l0_0 a1).bind fun t819 => (spec_l9Mean.l0 k a1 t819 0 l0_0 (t816.length : Int) 1))
end
theorem spec_l9Mean.mono_l : ∀ k, (∀ y0 y1, LeO (spec_l9Mean.f k y0 y1) (spec_l9Mean.f (k + 1) y0 y1)) ∧ (∀ y0 y1 y2 y3 y4 y5, LeO (spec_l9Mean.l0 k y0 y1 y2 y3 y4 y5) (spec_l9Mean.l0 (k + 1) y0 y1 y2 y3 y4 y5))
 | 0 => ⟨fun _ _ r h => by simp [spec_l9Mean.f] at h, fun _ _ _ _ _ _ r h => by simp [spec_l9Mean.l0] at h⟩
 | k + 1 => by
  obtain ⟨ih0, ih1⟩ := spec_l9Mean.mono_l k
  refine ⟨?_, ?_⟩
  ·
   intro y0 y1
   unfold spec_l9Mean.f
   repeat' first
   | (with_reducible exact ih0 _ _)
   | (with_reducible exact ih1 _ _ _ _ _ _)
   | (with_reducible exact spec_l2Kids.mono _ _ _)
   | (with_reducible exact spec_l9Choices.mono _ _ _)
   | (with_reducible exact spec_l9Cut.mono _ _ _)
   | (with_reducible exact spec_l9Plus.mono _ _ _ _ _)
   | (with_reducible exact LeO.refl _)
   | (with_reducible exact LeO.none _)
   | (with_reducible refine LeO.ite ?_ ?_)
   | (with_reducible refine LeO.bind ?_ (fun _ => ?_))
   | exact ih0 _ _
   | exact ih1 _ _ _ _ _ _
   | exact spec_l2Kids.mono _ _ _
   | exact spec_l9Choices.mono _ _ _
   | exact spec_l9Cut.mono _ _ _
   | exact spec_l9Plus.mono _ _ _ _ _
   | exact LeO.none _
   | refine LeO.ite ?_ ?_
   | refine LeO.bind ?_ (fun _ => ?_)
  ·
   intro y0 y1 y2 y3 y4 y5
   unfold spec_l9Mean.l0
   repeat' first
   | (with_reducible exact ih0 _ _)
   | (with_reducible exact ih1 _ _ _ _ _ _)
   | (with_reducible exact spec_l2Kids.mono _ _ _)
   | (with_reducible exact spec_l9Choices.mono _ _ _)
   | (with_reducible exact spec_l9Cut.mono _ _ _)
   | (with_reducible exact spec_l9Plus.mono _ _ _ _ _)
   | (with_reducible exact LeO.refl _)
   | (with_reducible exact LeO.none _)
   | (with_reducible refine LeO.ite ?_ ?_)
   | (with_reducible refine LeO.bind ?_ (fun _ => ?_))
   | exact ih0 _ _
   | exact ih1 _ _ _ _ _ _
   | exact spec_l2Kids.mono _ _ _
   | exact spec_l9Choices.mono _ _ _
   | exact spec_l9Cut.mono _ _ _
   | exact spec_l9Plus.mono _ _ _ _ _
   | exact LeO.none _
   | refine LeO.ite ?_ ?_
   | refine LeO.bind ?_ (fun _ => ?_)
theorem spec_l9Mean.mono : ∀ a0 a1 k, LeO (spec_l9Mean.f k a0 a1) (spec_l9Mean.f (k + 1) a0 a1) := by
 intro a0 a1 k
 obtain ⟨ih0, ih1⟩ := spec_l9Mean.mono_l k
 exact ih0 a0 a1
def spec_l9Mean.T1 : Bool × List (List Nat × List Nat) := (true, [([], []), ([], []), ([0, 1], [0, 1]), ([2], [2]), ([3], [3]), ([], []), ([], []), ([5, 6, 2], [5, 6]), ([], []), ([8, 4, 7, 0, 1, 2, 3, 4, 8], [4, 8]), ([7, 9, 0, 1, 2, 3, 4, 5, 6, 7, 8, 9], [7])])
def spec_l9Mean.B1 : List Nat := [0, 0, 3, 7, 15, 0, 0, 103, 0, 511, 1023]
theorem spec_l9Mean.tab1 : rtab .any (opsOf Try.f74 1) = spec_l9Mean.T1 := by kernel_rfl
theorem spec_l9Mean.bits1 : waitsOk spec_l9Mean.T1.2 spec_l9Mean.B1 = true := by kernel_rfl
def spec_l9Mean.T5 : Bool × List (List Nat × List Nat) := (true, [([], []), ([], []), ([], []), ([], []), ([2, 3], [2, 3]), ([4], [4]), ([1, 5], [1, 5]), ([0, 6, 6], [0, 6]), ([7, 7, 0, 1, 2, 3, 4, 5, 6, 7], [7])])
def spec_l9Mean.B5 : List Nat := [0, 0, 0, 0, 12, 28, 62, 127, 255]
theorem spec_l9Mean.tab5 : rtab .any (opsOf Try.f74 5) = spec_l9Mean.T5 := by kernel_rfl
theorem spec_l9Mean.bits5 : waitsOk spec_l9Mean.T5.2 spec_l9Mean.B5 = true := by kernel_rfl
def spec_l9Mean.T6 : Bool × List (List Nat × List Nat) := (true, [([], []), ([0], [0]), ([], []), ([2], [2]), ([], []), ([], []), ([4, 5], [4, 5]), ([3, 6], [3, 6]), ([1, 7, 6], [1, 7]), ([8, 8, 0, 1, 2, 3, 4, 5, 6, 7, 8], [8])])
def spec_l9Mean.B6 : List Nat := [0, 1, 0, 4, 0, 0, 48, 124, 255, 511]
theorem spec_l9Mean.tab6 : rtab .any (opsOf Try.f74 6) = spec_l9Mean.T6 := by kernel_rfl
theorem spec_l9Mean.bits6 : waitsOk spec_l9Mean.T6.2 spec_l9Mean.B6 = true := by kernel_rfl
set_option maxHeartbeats 8000000 in
set_option maxRecDepth 100000 in
theorem spec_l9Mean.calls (k : Nat) : ∀ (A0_0 : Option Addr) (c0_0 : Nat) (l0_0 : List (S80)) (a1 : Int) (r1 : Int) (r2 : Int) (w : World) (hr0_0 : Kd.C k80 w A0_0 l0_0.length l0_0) (hc0_0 : l0_0.length ≤ c0_0) (h : spec_l9Mean.f k l0_0 a1 = some (r1, r2)),
  Calls Try.prog 74 #[.agg #[.slice A0_0 l0_0.length c0_0], .int .i64 a1] w fun e w' => e = .returned (.agg #[.int .i64 r1, .int .i64 r2]) ∧ Below w.heap.size w w' := by
 induction k using Nat.strongRecOn with
 | _ k ih =>
 intro A0_0 c0_0 l0_0 a1 r1 r2 w hr0_0 hc0_0 h
 cases k with
 | zero => exact absurd h (by simp [spec_l9Mean.f])
 | succ k =>
 simp only [spec_l9Mean.f] at h
 have hu31 := Try.underlying31
 have hu26 := Try.underlying26
 have HR0_0 := aM_ hr0_0
 have HC0_0 := aM_ hc0_0
 clear hr0_0 hc0_0
 have HB := aM_ (Below.refl w.heap.size w)
 have H : ((spec_l2Kids.f k l0_0 a1).bind fun t816 => ((spec_l2Kids.f k l0_0 a1).bind fun t819 => (spec_l9Mean.l0 k a1 t819 0 l0_0 (t816.length : Int) 1))) = some (r1, r2) := h
 clear h
 replace H := Option.bind_eq_some_iff.mp H
 obtain ⟨t816, A30, H⟩ := H
 try dsimp only at H
 have A3 := aM_ A30
 clear A30
 replace H := Option.bind_eq_some_iff.mp H
 obtain ⟨t819, A40, H⟩ := H
 try dsimp only at H
 have A4 := aM_ A40
 clear A40
 have H' := aM_ H
 clear H
 go_enter Try.func74, Try.ntmps74
 try go_wp2_with (first | ((with_reducible refine gate_dst (N := 2) rfl ?_); refine box_event ?hg (N := 2) ?hd (cs := #[.slice A0_0 l0_0.length c0_0]) (t := 31) ?hr ?_; (case hd => rfl); (case hg => rfl); (case hr => first | (go_simp; done) | (go_simp; rfl)); intro gb814 hg w5 hbox hb; have BK814 := aM_ (hbox); have GW814 := aM_ ((by rw [hg]; exact (below_size HB.out) : w.heap.size ≤ gb814)); have GE814 := GW814; replace HB := aM_ (below_step HB.out hb); clear hb hbox hg) | ((with_reducible refine gate_dst (N := 4) rfl ?_); refine box_event ?hg (N := 4) ?hd (cs := #[.int .i64 0, .int .i64 0]) (t := 26) ?hr ?_; (case hd => rfl); (case hg => rfl); (case hr => first | (go_simp; done) | (go_simp; rfl)); intro gb815 hg w6 hbox hb; have BK815 := aM_ (hbox); have GW815 := aM_ ((by rw [hg]; exact (below_size HB.out) : w.heap.size ≤ gb815)); have GE815 := GW815; replace HB := aM_ (below_step HB.out hb); have NB814_815 := aM_ ((by rw [hg]; exact Nat.ne_of_lt (blk_lt BK814.out) : gb814 ≠ gb815)); have NB815_814 := aM_ NB814_815.out.symm; replace BK814 := aM_ (blk_below BK814.out hb); clear hb hbox hg))
 have n0_ := aM_ (blk_drew BK814.out)
 have n1_ := aM_ (blk_drew BK815.out)
 have n2_ := aM_ (below_drew1 HB.out)
 clear BK814
 clear BK815
 clear HB
 have BK814 := n0_
 have BK815 := n1_
 have HB := n2_
 clear n0_ n1_ n2_
 refine start_ (n := 11) (S := fun w' => w'.cell? ⟨gb814, 0, none⟩ = some (.slice A0_0 l0_0.length c0_0)) (ds := []) #[fy, fy, fy, fy, fy, fy, fy, fy, fy, fy, fy] (by kernel_rfl) rfl rfl ((blk_cell BK814.out 0).trans rfl) (fun hHeld => ?_); refine with_tabW spec_l9Mean.tab1 spec_l9Mean.bits1 (fun HT_ HW_ => ?_)
 generalize w6.drew = w7 at BK814 BK815 HB hHeld ⊢
 refine pure_ (i := 1) (N := some 9) (v := ?_) (a' := ?_) #[fy, ty, fy, fy, fy, fy, fy, fy, fy, fy, fy] rfl rfl (any_of HT_.out (by kernel_rfl)) (fun _ _ _ h => h) (Or.inl ⟨by rfl, ?_⟩) ?_ ?_; rotate_left; (intro w'; go_simp; with_reducible rfl); rotate_left; (simp only [Act.put, sA_, sB_, sC_, i64_w, i32_w]; rfl)
 refine pure_ (i := 6) (N := some 14) (v := ?_) (a' := ?_) #[fy, ty, fy, fy, fy, fy, ty, fy, fy, fy, fy] rfl rfl (any_of HT_.out (by kernel_rfl)) (fun _ _ _ h => h) (Or.inl ⟨by rfl, ?_⟩) ?_ ?_; rotate_left; (intro w'; go_simp; with_reducible rfl); rotate_left; (simp only [Act.put, sA_, sB_, sC_, i64_w, i32_w]; rfl)
 refine take_ (i := 0) (N := some 8) (v := ?_) (a' := ?_) #[ty, ty, fy, fy, fy, fy, ty, fy, fy, fy, fy] rfl rfl (take_ofW HT_.out HW_.out (by kernel_rfl)) (fun _ _ _ h => h) (Or.inl ⟨by rfl, ?_⟩) hHeld ?_ ?_; rotate_left; (intro w' s0; go_simp; with_reducible rfl); rotate_left; (simp only [Act.put, sA_, sB_, sC_, i64_w, i32_w]; rfl)
 refine take_ (i := 5) (N := some 13) (v := ?_) (a' := ?_) #[ty, ty, fy, fy, fy, ty, ty, fy, fy, fy, fy] rfl rfl (take_ofW HT_.out HW_.out (by kernel_rfl)) (fun _ _ _ h => h) (Or.inl ⟨by rfl, ?_⟩) hHeld ?_ ?_; rotate_left; (intro w' s0; go_simp; with_reducible rfl); rotate_left; (simp only [Act.put, sA_, sB_, sC_, i64_w, i32_w]; rfl)
 refine join_ (σ := Value × Value × Nat) 2 #[ty, ty, ty, ty, ty, ty, ty, ty, ty, fy, fy] (fun s_ => [(10, s_.1), (15, s_.2.1), (5, .pointer (some ⟨s_.2.2, 0, none⟩)), (11, .int .i64 (t816.length : Int)), (12, .agg #[.int .i64 (t816.length : Int), .int .i64 1])]) (fun s_ w' => (w'.cell? ⟨gb814, 0, none⟩ = some (.slice A0_0 l0_0.length c0_0)) ∧ (Kd.R (Kd.int .i64) 3 w' w.heap.size (fun k_ => some k_ ≠ (s_.2.1 : Value).ownBlock) s_.1 t816) ∧ (Kd.R (Kd.int .i64) 3 w' w.heap.size (fun k_ => some k_ ≠ (s_.1 : Value).ownBlock) s_.2.1 t819) ∧ (w'.heap[gb814]? = some (.cells #[.slice A0_0 l0_0.length c0_0] 31 (0, 0))) ∧ (w'.heap[gb815]? = some (.cells #[.int .i64 0, .int .i64 0] 26 (0, 0))) ∧ (w'.heap[s_.2.2]? = some (.cells #[.int .i64 0, .int .i64 0] 26 (0, 0))) ∧ (w.heap.size ≤ s_.2.2) ∧ (w.heap.size ≤ s_.2.2) ∧ (gb814 ≠ s_.2.2) ∧ (s_.2.2 ≠ gb814) ∧ (gb815 ≠ s_.2.2) ∧ (s_.2.2 ≠ gb815) ∧ (Below w.heap.size w w')) ?_ ?_
 rotate_left
 ·
  intro hCont
  refine two_ (i := 2) (j := 8) (Ni := some 10) (Nj := some 5) #[ty, ty, ty, fy, fy, ty, ty, fy, fy, fy, fy] #[ty, ty, fy, fy, fy, ty, ty, fy, ty, fy, fy] rfl rfl rfl rfl (two_of HT_.out (by kernel_rfl)) (by decide) (by decide) (fun K hK => ?_) (fun K hK => ?_)
  ·
   skip
   refine goes_ Try.func103 (by kernel_rfl) rfl #[.agg #[.slice A0_0 l0_0.length c0_0], .int .i64 a1] (by rfl) rfl rfl (by (try simp only [sD_, sE_, sF_]); first | done | rfl | (simp only [sG_, sH_]; rfl)) ?_
   with_reducible refine (spec_l2Kids.calls k _ _ l0_0 a1 t816 _ ?side1 ?side2 A3.out).mono ?_
   (case side1 => repeat (first | exact (Kd.C_below HR0_0.out HB.out) | (with_reducible refine Kd.C_alloc ?_ _) | (with_reducible refine Kd.C_drewN ?_ _) | (with_reducible refine Kd.C_drew ?_)))
   (case side2 => exact HC0_0.out)
   rintro e w8 ⟨v817, rfl, ho0, hb⟩
   refine ⟨_, rfl, ?_⟩
   have n0_ := aM_ (Kd.R_lower ho0 (below_size HB.out))
   have n1_ := aM_ (blk_below BK814.out hb)
   have n2_ := aM_ (blk_below BK815.out hb)
   have n3_ := aM_ (below_step HB.out hb)
   clear BK814
   clear BK815
   clear HB
   have HO818 := n0_
   have BK814 := n1_
   have BK815 := n2_
   have HB := n3_
   clear n0_ n1_ n2_ n3_
   (try clear hb)
   (try clear hb2)
   (try clear hk)
   (try clear hi)
   (try clear ho0)
   obtain ⟨Ao9, co9, eo9⟩ := Kd.R_slice HO818.out
   (first | subst eo9 | (injection eo9 with f1_ f2_ f3_; have f4_ := f1_.symm; have f5_ := f3_.symm; clear f1_ f2_ f3_; subst f4_; subst f5_))
   refine hK.out _ _ ((blk_cell BK814.out 0).trans rfl) (fun hHeld => ?_)
   clear hK K
   refine norm_ (a' := ?_) ?_ ?_; rotate_left; (show Act.put _ (some 10) _ = _; simp only [Act.put, sA_, sB_, sC_, i64_w, i32_w]; rfl)
   refine pure_ (i := 3) (N := some 11) (v := ?_) (a' := ?_) #[ty, ty, ty, ty, fy, ty, ty, fy, fy, fy, fy] rfl rfl (any_of HT_.out (by kernel_rfl)) (fun _ _ _ h => h) (Or.inl ⟨by rfl, ?_⟩) ?_ ?_; rotate_left; (intro w'; go_simp; with_reducible rfl); rotate_left; (simp only [Act.put, sA_, sB_, sC_, i64_w, i32_w]; rfl)
   refine pure_ (i := 4) (N := some 12) (v := ?_) (a' := ?_) #[ty, ty, ty, ty, ty, ty, ty, fy, fy, fy, fy] rfl rfl (any_of HT_.out (by kernel_rfl)) (fun _ _ _ h => h) (Or.inl ⟨by rfl, ?_⟩) ?_ ?_; rotate_left; (intro w'; go_simp; with_reducible rfl); rotate_left; (simp only [Act.put, sA_, sB_, sC_, i64_w, i32_w]; rfl)
   refine two_ (i := 7) (j := 8) (Ni := some 15) (Nj := some 5) #[ty, ty, ty, ty, ty, ty, ty, ty, fy, fy, fy] #[ty, ty, ty, ty, ty, ty, ty, fy, ty, fy, fy] rfl rfl rfl rfl (two_of HT_.out (by kernel_rfl)) (by decide) (by decide) (fun K hK => ?_) (fun K hK => ?_)
   ·
    skip
    refine goes_ Try.func103 (by kernel_rfl) rfl #[.agg #[.slice A0_0 l0_0.length c0_0], .int .i64 a1] (by rfl) rfl rfl (by (try simp only [sD_, sE_, sF_]); first | done | rfl | (simp only [sG_, sH_]; rfl)) ?_
    with_reducible refine (spec_l2Kids.calls k _ _ l0_0 a1 t819 _ ?side1 ?side2 A4.out).mono ?_
    (case side1 => repeat (first | exact (Kd.C_below HR0_0.out HB.out) | (with_reducible refine Kd.C_alloc ?_ _) | (with_reducible refine Kd.C_drewN ?_ _) | (with_reducible refine Kd.C_drew ?_)))
    (case side2 => exact HC0_0.out)
    rintro e w10 ⟨v820, rfl, ho0, hb⟩
    refine ⟨_, rfl, ?_⟩
    have n0_ := aM_ (Kd.R_elder' HO818.out (Kd.R_base ho0) hb)
    have n1_ := aM_ (Kd.R_lower (Kd.R_new' ho0 (Kd.R_lt HO818.out)) (below_size HB.out))
    have n2_ := aM_ (blk_below BK814.out hb)
    have n3_ := aM_ (blk_below BK815.out hb)
    have n4_ := aM_ (below_step HB.out hb)
    clear HO818
    clear BK814
    clear BK815
    clear HB
    have HO818 := n0_
    have HO821 := n1_
    have BK814 := n2_
    have BK815 := n3_
    have HB := n4_
    clear n0_ n1_ n2_ n3_ n4_
    (try clear hb)
    (try clear hb2)
    (try clear hk)
    (try clear hi)
    (try clear ho0)
    refine hK.out _ _ ((blk_cell BK814.out 0).trans rfl) (fun hHeld => ?_)
    clear hK K
    refine norm_ (a' := ?_) ?_ ?_; rotate_left; (show Act.put _ (some 15) _ = _; simp only [Act.put, sA_, sB_, sC_, i64_w, i32_w]; rfl)
    refine one_ (i := 8) (N := some 5) #[ty, ty, ty, ty, ty, ty, ty, ty, ty, fy, fy] rfl rfl (one_of HT_.out (by kernel_rfl)) (by decide) (fun K hK => ?_)
    refine box_step ?hg (N := 5) ?hd (cs := #[.int .i64 0, .int .i64 0]) (t := 26) ?hr ?_; (case hd => rfl); (case hg => rfl); (case hr => first | (go_simp; done) | (go_simp; rfl))
    intro gb822 hg w11 hbox hb
    have n0_ := aM_ (Kd.R_below HO818.out hb)
    have n1_ := aM_ (Kd.R_below HO821.out hb)
    have n2_ := aM_ (blk_below BK814.out hb)
    have n3_ := aM_ (blk_below BK815.out hb)
    have n4_ := aM_ (below_step HB.out hb)
    have n5_ := aM_ (hbox)
    have n6_ := aM_ ((by rw [hg]; exact (below_size HB.out) : w.heap.size ≤ gb822))
    have n7_ := aM_ ((by rw [hg]; exact (below_size HB.out) : w.heap.size ≤ gb822))
    have n8_ := aM_ ((by rw [hg]; exact Nat.ne_of_lt (blk_lt BK814.out) : gb814 ≠ gb822))
    have n9_ := aM_ ((by rw [hg]; exact Nat.ne_of_gt (blk_lt BK814.out) : gb822 ≠ gb814))
    have n10_ := aM_ ((by rw [hg]; exact Nat.ne_of_lt (blk_lt BK815.out) : gb815 ≠ gb822))
    have n11_ := aM_ ((by rw [hg]; exact Nat.ne_of_gt (blk_lt BK815.out) : gb822 ≠ gb815))
    clear HO818
    clear HO821
    clear BK814
    clear BK815
    clear HB
    have HO818 := n0_
    have HO821 := n1_
    have BK814 := n2_
    have BK815 := n3_
    have HB := n4_
    have BK822 := n5_
    have GW822 := n6_
    have GE822 := n7_
    have NB814_822 := n8_
    have NB822_814 := n9_
    have NB815_822 := n10_
    have NB822_815 := n11_
    clear n0_ n1_ n2_ n3_ n4_ n5_ n6_ n7_ n8_ n9_ n10_ n11_
    clear hb hbox hg
    refine hK.out _ _ ((blk_cell BK814.out 0).trans rfl) (fun hHeld => ?_)
    clear hK K
    refine norm_ (a' := ?_) ?_ ?_; rotate_left; (show Act.put _ (some 5) _ = _; simp only [Act.put, sA_, sB_, sC_, i64_w, i32_w]; rfl)
    exact norm_ (by simp only [putAll, Act.put, sA_, sB_, sC_]) (hCont (.slice Ao9 t816.length co9, v820, gb822) _ ⟨hHeld, (by exact Kd.R_mono HO818.out (fun _ hk => hk.2)), (by exact Kd.R_mono HO821.out (fun _ hk => hk.2)), BK814.out, BK815.out, BK822.out, GW822.out, GE822.out, NB814_822.out, NB822_814.out, NB815_822.out, NB822_815.out, HB.out⟩)
   ·
    skip
    refine box_step ?hg (N := 5) ?hd (cs := #[.int .i64 0, .int .i64 0]) (t := 26) ?hr ?_; (case hd => rfl); (case hg => rfl); (case hr => first | (go_simp; done) | (go_simp; rfl))
    intro gb822 hg w10 hbox hb
    have n0_ := aM_ (Kd.R_below HO818.out hb)
    have n1_ := aM_ (blk_below BK814.out hb)
    have n2_ := aM_ (blk_below BK815.out hb)
    have n3_ := aM_ (below_step HB.out hb)
    have n4_ := aM_ (hbox)
    have n5_ := aM_ ((by rw [hg]; exact (below_size HB.out) : w.heap.size ≤ gb822))
    have n6_ := aM_ ((by rw [hg]; exact (below_size HB.out) : w.heap.size ≤ gb822))
    have n7_ := aM_ ((by rw [hg]; exact Nat.ne_of_lt (blk_lt BK814.out) : gb814 ≠ gb822))
    have n8_ := aM_ ((by rw [hg]; exact Nat.ne_of_gt (blk_lt BK814.out) : gb822 ≠ gb814))
    have n9_ := aM_ ((by rw [hg]; exact Nat.ne_of_lt (blk_lt BK815.out) : gb815 ≠ gb822))
    have n10_ := aM_ ((by rw [hg]; exact Nat.ne_of_gt (blk_lt BK815.out) : gb822 ≠ gb815))
    clear HO818
    clear BK814
    clear BK815
    clear HB
    have HO818 := n0_
    have BK814 := n1_
    have BK815 := n2_
    have HB := n3_
    have BK822 := n4_
    have GW822 := n5_
    have GE822 := n6_
    have NB814_822 := n7_
    have NB822_814 := n8_
    have NB815_822 := n9_
    have NB822_815 := n10_
    clear n0_ n1_ n2_ n3_ n4_ n5_ n6_ n7_ n8_ n9_ n10_
    clear hb hbox hg
    refine hK.out _ _ ((blk_cell BK814.out 0).trans rfl) (fun hHeld => ?_)
    clear hK K
    refine norm_ (a' := ?_) ?_ ?_; rotate_left; (show Act.put _ (some 5) _ = _; simp only [Act.put, sA_, sB_, sC_, i64_w, i32_w]; rfl)
    refine one_ (i := 7) (N := some 15) #[ty, ty, ty, ty, ty, ty, ty, ty, ty, fy, fy] rfl rfl (one_of HT_.out (by kernel_rfl)) (by decide) (fun K hK => ?_)
    refine goes_ Try.func103 (by kernel_rfl) rfl #[.agg #[.slice A0_0 l0_0.length c0_0], .int .i64 a1] (by rfl) rfl rfl (by (try simp only [sD_, sE_, sF_]); first | done | rfl | (simp only [sG_, sH_]; rfl)) ?_
    with_reducible refine (spec_l2Kids.calls k _ _ l0_0 a1 t819 _ ?side1 ?side2 A4.out).mono ?_
    (case side1 => repeat (first | exact (Kd.C_below HR0_0.out HB.out) | (with_reducible refine Kd.C_alloc ?_ _) | (with_reducible refine Kd.C_drewN ?_ _) | (with_reducible refine Kd.C_drew ?_)))
    (case side2 => exact HC0_0.out)
    rintro e w11 ⟨v820, rfl, ho0, hb⟩
    refine ⟨_, rfl, ?_⟩
    have n0_ := aM_ (Kd.R_elder' HO818.out (Kd.R_base ho0) hb)
    have n1_ := aM_ (Kd.R_lower (Kd.R_new' ho0 (Kd.R_lt HO818.out)) (below_size HB.out))
    have n2_ := aM_ (blk_below BK814.out hb)
    have n3_ := aM_ (blk_below BK815.out hb)
    have n4_ := aM_ (blk_below BK822.out hb)
    have n5_ := aM_ (below_step HB.out hb)
    clear HO818
    clear BK814
    clear BK815
    clear BK822
    clear HB
    have HO818 := n0_
    have HO821 := n1_
    have BK814 := n2_
    have BK815 := n3_
    have BK822 := n4_
    have HB := n5_
    clear n0_ n1_ n2_ n3_ n4_ n5_
    (try clear hb)
    (try clear hb2)
    (try clear hk)
    (try clear hi)
    (try clear ho0)
    refine hK.out _ _ ((blk_cell BK814.out 0).trans rfl) (fun hHeld => ?_)
    clear hK K
    refine norm_ (a' := ?_) ?_ ?_; rotate_left; (show Act.put _ (some 15) _ = _; simp only [Act.put, sA_, sB_, sC_, i64_w, i32_w]; rfl)
    exact norm_ (by simp only [putAll, Act.put, sA_, sB_, sC_]) (hCont (.slice Ao9 t816.length co9, v820, gb822) _ ⟨hHeld, (by exact Kd.R_mono HO818.out (fun _ hk => hk.2)), (by exact Kd.R_mono HO821.out (fun _ hk => hk.2)), BK814.out, BK815.out, BK822.out, GW822.out, GE822.out, NB814_822.out, NB822_814.out, NB815_822.out, NB822_815.out, HB.out⟩)
  ·
   skip
   refine box_step ?hg (N := 5) ?hd (cs := #[.int .i64 0, .int .i64 0]) (t := 26) ?hr ?_; (case hd => rfl); (case hg => rfl); (case hr => first | (go_simp; done) | (go_simp; rfl))
   intro gb822 hg w8 hbox hb
   have n0_ := aM_ (blk_below BK814.out hb)
   have n1_ := aM_ (blk_below BK815.out hb)
   have n2_ := aM_ (below_step HB.out hb)
   have n3_ := aM_ (hbox)
   have n4_ := aM_ ((by rw [hg]; exact (below_size HB.out) : w.heap.size ≤ gb822))
   have n5_ := aM_ ((by rw [hg]; exact (below_size HB.out) : w.heap.size ≤ gb822))
   have n6_ := aM_ ((by rw [hg]; exact Nat.ne_of_lt (blk_lt BK814.out) : gb814 ≠ gb822))
   have n7_ := aM_ ((by rw [hg]; exact Nat.ne_of_gt (blk_lt BK814.out) : gb822 ≠ gb814))
   have n8_ := aM_ ((by rw [hg]; exact Nat.ne_of_lt (blk_lt BK815.out) : gb815 ≠ gb822))
   have n9_ := aM_ ((by rw [hg]; exact Nat.ne_of_gt (blk_lt BK815.out) : gb822 ≠ gb815))
   clear BK814
   clear BK815
   clear HB
   have BK814 := n0_
   have BK815 := n1_
   have HB := n2_
   have BK822 := n3_
   have GW822 := n4_
   have GE822 := n5_
   have NB814_822 := n6_
   have NB822_814 := n7_
   have NB815_822 := n8_
   have NB822_815 := n9_
   clear n0_ n1_ n2_ n3_ n4_ n5_ n6_ n7_ n8_ n9_
   clear hb hbox hg
   refine hK.out _ _ ((blk_cell BK814.out 0).trans rfl) (fun hHeld => ?_)
   clear hK K
   refine norm_ (a' := ?_) ?_ ?_; rotate_left; (show Act.put _ (some 5) _ = _; simp only [Act.put, sA_, sB_, sC_, i64_w, i32_w]; rfl)
   refine one_ (i := 2) (N := some 10) #[ty, ty, ty, fy, fy, ty, ty, fy, ty, fy, fy] rfl rfl (one_of HT_.out (by kernel_rfl)) (by decide) (fun K hK => ?_)
   refine goes_ Try.func103 (by kernel_rfl) rfl #[.agg #[.slice A0_0 l0_0.length c0_0], .int .i64 a1] (by rfl) rfl rfl (by (try simp only [sD_, sE_, sF_]); first | done | rfl | (simp only [sG_, sH_]; rfl)) ?_
   with_reducible refine (spec_l2Kids.calls k _ _ l0_0 a1 t816 _ ?side1 ?side2 A3.out).mono ?_
   (case side1 => repeat (first | exact (Kd.C_below HR0_0.out HB.out) | (with_reducible refine Kd.C_alloc ?_ _) | (with_reducible refine Kd.C_drewN ?_ _) | (with_reducible refine Kd.C_drew ?_)))
   (case side2 => exact HC0_0.out)
   rintro e w9 ⟨v817, rfl, ho0, hb⟩
   refine ⟨_, rfl, ?_⟩
   have n0_ := aM_ (Kd.R_lower ho0 (below_size HB.out))
   have n1_ := aM_ (blk_below BK814.out hb)
   have n2_ := aM_ (blk_below BK815.out hb)
   have n3_ := aM_ (blk_below BK822.out hb)
   have n4_ := aM_ (below_step HB.out hb)
   clear BK814
   clear BK815
   clear BK822
   clear HB
   have HO818 := n0_
   have BK814 := n1_
   have BK815 := n2_
   have BK822 := n3_
   have HB := n4_
   clear n0_ n1_ n2_ n3_ n4_
   (try clear hb)
   (try clear hb2)
   (try clear hk)
   (try clear hi)
   (try clear ho0)
   obtain ⟨Ao10, co10, eo10⟩ := Kd.R_slice HO818.out
   (first | subst eo10 | (injection eo10 with f1_ f2_ f3_; have f4_ := f1_.symm; have f5_ := f3_.symm; clear f1_ f2_ f3_; subst f4_; subst f5_))
   refine hK.out _ _ ((blk_cell BK814.out 0).trans rfl) (fun hHeld => ?_)
   clear hK K
   refine norm_ (a' := ?_) ?_ ?_; rotate_left; (show Act.put _ (some 10) _ = _; simp only [Act.put, sA_, sB_, sC_, i64_w, i32_w]; rfl)
   refine pure_ (i := 3) (N := some 11) (v := ?_) (a' := ?_) #[ty, ty, ty, ty, fy, ty, ty, fy, ty, fy, fy] rfl rfl (any_of HT_.out (by kernel_rfl)) (fun _ _ _ h => h) (Or.inl ⟨by rfl, ?_⟩) ?_ ?_; rotate_left; (intro w'; go_simp; with_reducible rfl); rotate_left; (simp only [Act.put, sA_, sB_, sC_, i64_w, i32_w]; rfl)
   refine pure_ (i := 4) (N := some 12) (v := ?_) (a' := ?_) #[ty, ty, ty, ty, ty, ty, ty, fy, ty, fy, fy] rfl rfl (any_of HT_.out (by kernel_rfl)) (fun _ _ _ h => h) (Or.inl ⟨by rfl, ?_⟩) ?_ ?_; rotate_left; (intro w'; go_simp; with_reducible rfl); rotate_left; (simp only [Act.put, sA_, sB_, sC_, i64_w, i32_w]; rfl)
   refine one_ (i := 7) (N := some 15) #[ty, ty, ty, ty, ty, ty, ty, ty, ty, fy, fy] rfl rfl (one_of HT_.out (by kernel_rfl)) (by decide) (fun K hK => ?_)
   refine goes_ Try.func103 (by kernel_rfl) rfl #[.agg #[.slice A0_0 l0_0.length c0_0], .int .i64 a1] (by rfl) rfl rfl (by (try simp only [sD_, sE_, sF_]); first | done | rfl | (simp only [sG_, sH_]; rfl)) ?_
   with_reducible refine (spec_l2Kids.calls k _ _ l0_0 a1 t819 _ ?side1 ?side2 A4.out).mono ?_
   (case side1 => repeat (first | exact (Kd.C_below HR0_0.out HB.out) | (with_reducible refine Kd.C_alloc ?_ _) | (with_reducible refine Kd.C_drewN ?_ _) | (with_reducible refine Kd.C_drew ?_)))
   (case side2 => exact HC0_0.out)
   rintro e w11 ⟨v820, rfl, ho0, hb⟩
   refine ⟨_, rfl, ?_⟩
   have n0_ := aM_ (Kd.R_elder' HO818.out (Kd.R_base ho0) hb)
   have n1_ := aM_ (Kd.R_lower (Kd.R_new' ho0 (Kd.R_lt HO818.out)) (below_size HB.out))
   have n2_ := aM_ (blk_below BK814.out hb)
   have n3_ := aM_ (blk_below BK815.out hb)
   have n4_ := aM_ (blk_below BK822.out hb)
   have n5_ := aM_ (below_step HB.out hb)
   clear HO818
   clear BK814
   clear BK815
   clear BK822
   clear HB
   have HO818 := n0_
   have HO821 := n1_
   have BK814 := n2_
   have BK815 := n3_
   have BK822 := n4_
   have HB := n5_
   clear n0_ n1_ n2_ n3_ n4_ n5_
   (try clear hb)
   (try clear hb2)
   (try clear hk)
   (try clear hi)
   (try clear ho0)
   refine hK.out _ _ ((blk_cell BK814.out 0).trans rfl) (fun hHeld => ?_)
   clear hK K
   refine norm_ (a' := ?_) ?_ ?_; rotate_left; (show Act.put _ (some 15) _ = _; simp only [Act.put, sA_, sB_, sC_, i64_w, i32_w]; rfl)
   exact norm_ (by simp only [putAll, Act.put, sA_, sB_, sC_]) (hCont (.slice Ao10 t816.length co10, v820, gb822) _ ⟨hHeld, (by exact Kd.R_mono HO818.out (fun _ hk => hk.2)), (by exact Kd.R_mono HO821.out (fun _ hk => hk.2)), BK814.out, BK815.out, BK822.out, GW822.out, GE822.out, NB814_822.out, NB822_814.out, NB815_822.out, NB822_815.out, HB.out⟩)
 rintro ⟨v817, v820, gb822⟩ w12 ⟨hS_, h0_, h1_, h2_, h3_, h4_, h5_, h6_, h7_, h8_, h9_, h10_, h11_⟩
 have n0_ : Aside0 (Kd.R (Kd.int .i64) 3 w12 w.heap.size (fun k_ => some k_ ≠ (v820 : Value).ownBlock) v817 t816) := ⟨h0_⟩
 have n1_ : Aside0 (Kd.R (Kd.int .i64) 3 w12 w.heap.size (fun k_ => some k_ ≠ (v817 : Value).ownBlock) v820 t819) := ⟨h1_⟩
 have n2_ : Aside0 (w12.heap[gb814]? = some (.cells #[.slice A0_0 l0_0.length c0_0] 31 (0, 0))) := ⟨h2_⟩
 have n3_ : Aside0 (w12.heap[gb815]? = some (.cells #[.int .i64 0, .int .i64 0] 26 (0, 0))) := ⟨h3_⟩
 have n4_ : Aside0 (w12.heap[gb822]? = some (.cells #[.int .i64 0, .int .i64 0] 26 (0, 0))) := ⟨h4_⟩
 have n5_ : Aside0 (w.heap.size ≤ gb822) := ⟨h5_⟩
 have n6_ : Aside0 (w.heap.size ≤ gb822) := ⟨h6_⟩
 have n7_ : Aside0 (gb814 ≠ gb822) := ⟨h7_⟩
 have n8_ : Aside0 (gb822 ≠ gb814) := ⟨h8_⟩
 have n9_ : Aside0 (gb815 ≠ gb822) := ⟨h9_⟩
 have n10_ : Aside0 (gb822 ≠ gb815) := ⟨h10_⟩
 have n11_ : Aside0 (Below w.heap.size w w12) := ⟨h11_⟩
 clear BK814
 clear BK815
 clear HB
 clear h0_ h1_ h2_ h3_ h4_ h5_ h6_ h7_ h8_ h9_ h10_ h11_
 have HO818 := n0_
 have HO821 := n1_
 have BK814 := n2_
 have BK815 := n3_
 have BK822 := n4_
 have GW822 := n5_
 have GE822 := n6_
 have NB814_822 := n7_
 have NB822_814 := n8_
 have NB815_822 := n9_
 have NB822_815 := n10_
 have HB := n11_
 clear n0_ n1_ n2_ n3_ n4_ n5_ n6_ n7_ n8_ n9_ n10_ n11_
 have hHeld : w12.cell? ⟨gb814, 0, none⟩ = some (.slice A0_0 l0_0.length c0_0) := hS_
 obtain ⟨Ao13, co13, eo13⟩ := Kd.R_slice HO818.out
 (first | subst eo13 | (injection eo13 with f1_ f2_ f3_; have f4_ := f1_.symm; have f5_ := f3_.symm; clear f1_ f2_ f3_; subst f4_; subst f5_))
 refine norm_ (a' := ?_) ?_ ?_
 rotate_left
 ·
  simp only [putAll, Act.put, sA_, sB_, sC_]
  rfl
 refine one_ (i := 9) (N := none) #[ty, ty, ty, ty, ty, ty, ty, ty, ty, ty, fy] rfl rfl (one_of HT_.out (by kernel_rfl)) (by decide) (fun K hK => ?_)
 have hs14 : w12.cell? ⟨gb822, 0, none⟩ = some (.int .i64 0) := (blk_cell BK822.out 0).trans rfl
 have hfs14 := blk_frozen BK822.out 0
 have hns14_0 := NB814_822.out
 have hns14_1 := NB815_822.out
 have hms14_0 := NB822_814.out
 have hms14_1 := NB822_815.out
 have hs15 : w12.cell? ⟨gb822, 1, none⟩ = some (.int .i64 0) := (blk_cell BK822.out 1).trans rfl
 have hfs15 := blk_frozen BK822.out 1
 have hns15_0 := NB814_822.out
 have hns15_1 := NB815_822.out
 have hms15_0 := NB822_814.out
 have hms15_1 := NB822_815.out
 refine skip_ (w1 := ?_) (by rfl) rfl ?_ ?_
 rotate_left
 ·
  go_simp
  rfl
 refine hK.out _ _ (((cell_far (p := ⟨gb822, _, none⟩) NB814_822.out _).trans (((cell_far (p := ⟨gb822, _, none⟩) NB814_822.out _).trans (hHeld))))) (fun hHeld => ?_)
 clear hK K
 refine pure_ (i := 10) (N := some 6) (v := ?_) (a' := ?_) #[ty, ty, ty, ty, ty, ty, ty, ty, ty, ty, ty] rfl rfl (any_of HT_.out (by kernel_rfl)) (fun _ _ _ h => h) (Or.inl ⟨by rfl, ?_⟩) ?_ ?_; rotate_left; (intro w'; go_simp; with_reducible rfl); rotate_left; (simp only [Act.put, sA_, sB_, sC_, i64_w, i32_w]; rfl)
 refine done_ (done_of HT_.out (by kernel_rfl)) ?_
 try go_wp2
 go_loopg [7] k (fun kq v7 w' => ∃ (x7_1 : Int) (x823000_1 : Int) (x823001_1 : Int), v7 = .int .i64 x7_1 ∧ Aside0 (spec_l9Mean.l0 kq a1 t819 x7_1 l0_0 x823000_1 x823001_1 = some (r1, r2)) ∧ Aside0 (kq ≤ k) ∧ Aside0 (Kd.R (Kd.int .i64) 3 w' w.heap.size (fun _ => True) v820 t819) ∧ Aside0 (w'.heap[gb814]? = some (.cells #[(.slice A0_0 l0_0.length c0_0)] 31 (0, 0))) ∧ Aside0 (w'.heap[gb815]? = some (.cells #[.int .i64 0, .int .i64 0] 26 (0, 0))) ∧ Aside0 (w'.heap[gb822]? = some (.cells #[.int .i64 x823000_1, .int .i64 x823001_1] 26 (0, 0))) ∧ Aside0 (Below w.heap.size w w'))
 case atStart => exact ⟨(0), ((t816.length : Int)), (1), (by first | rfl | (simp; done) | (simp [*]; done)), H', ⟨Nat.le_refl _⟩, ⟨by exact Kd.R_mono (Kd.R_far (p := ⟨gb822, 1, none⟩) (Kd.R_far (p := ⟨gb822, 0, none⟩) (Kd.R_types HO821.out BK822.out (by decide)) (fun _ hk => hk.2) (.int .i64 (t816.length : Int))) (fun _ hk => hk.2) (.int .i64 1)) (fun _ hk => trivial)⟩, ⟨by refine blk_far ?_ NB814_822.out _; refine blk_far ?_ NB814_822.out _; exact BK814.out⟩, ⟨by refine blk_far ?_ NB815_822.out _; refine blk_far ?_ NB815_822.out _; exact BK815.out⟩, ⟨by refine blk_put (cs := #[.int .i64 (t816.length : Int), .int .i64 0]) ?_ 1 _ rfl; refine blk_put (cs := #[.int .i64 0, .int .i64 0]) ?_ 0 _ rfl; exact BK822.out⟩, ⟨by repeat (first | (with_reducible first | exact HB.out | apply below_alloc | apply pw_below_drewN | apply below_drew1 | refine below_set ?_ GE814.out | refine below_set ?_ GE815.out | refine below_set ?_ GE822.out) | exact HB.out)⟩⟩
 case round =>
  clear H'
  try clear c1
  try clear p2
  try clear c7
  try clear c10
  obtain ⟨x7_1, x823000_1, x823001_1, rfl, HA, HK1, HO_6, BK814, BK815, BK822, HB⟩ := hrel
  cases gk with
  | zero => exact absurd HA.out (by simp [spec_l9Mean.l0])
  | succ k1 =>
   have H := HA.out
   clear HA
   simp only [spec_l9Mean.l0] at H
   by_cases c16 : x7_1 < (t819.length : Int)
   ·
    rw [if_pos c16] at H
    have c16b0 := decide_eq_true c16
    clear c16
    by_cases c17 : 0 ≤ x7_1
    ·
     rw [if_pos c17] at H
     have c17b0 := decide_eq_true c17
     clear c17
     replace H := Option.bind_eq_some_iff.mp H
     obtain ⟨⟨t824, t825⟩, A180, H⟩ := H
     try dsimp only at H
     have A18 := aM_ A180
     clear A180
     replace H := Option.bind_eq_some_iff.mp H
     obtain ⟨⟨t826, t827⟩, A190, H⟩ := H
     try dsimp only at H
     have A19 := aM_ A190
     clear A190
     have H' := aM_ H
     clear H
     obtain ⟨Ao20, co20, eo20⟩ := Kd.R_slice HO_6.out
     subst eo20
     try go_wp2
     have n0_ := aM_ (Kd.R_drew HO_6.out)
     have n1_ := aM_ (blk_drew BK814.out)
     have n2_ := aM_ (blk_drew BK815.out)
     have n3_ := aM_ (blk_drew BK822.out)
     have n4_ := aM_ (below_drew1 HB.out)
     clear HO_6
     clear BK814
     clear BK815
     clear BK822
     clear HB
     have HO_6 := n0_
     have BK814 := n1_
     have BK815 := n2_
     have BK822 := n3_
     have HB := n4_
     clear n0_ n1_ n2_ n3_ n4_
     have p823 : 0 ≤ (x7_1 : Int) := of_decide_eq_true (by first | (with_reducible assumption) | assumption)
     have q823 : x7_1 < (t819.length : Int) := of_decide_eq_true (by first | (with_reducible assumption) | assumption)
     obtain ⟨ad823, e823, hx823_0⟩ := Kd.at_int (Kd.R_reads' HO_6.out).2.2 x7_1 p823 q823
     cases e823
     replace p823 := eq_true p823
     replace q823 := eq_true q823
     refine start_ (n := 9) (S := fun w' => w'.cell? ⟨gb822, 0, none⟩ = some (.int .i64 x823000_1) ∧ w'.cell? ⟨gb822, 1, none⟩ = some (.int .i64 x823001_1) ∧ w'.cell? ⟨gb814, 0, none⟩ = some (.slice A0_0 l0_0.length c0_0) ∧ w'.cell? (ad823.add (x7_1).toNat) = some (.int .i64 (rd t819 x7_1))) (ds := [8]) #[fy, fy, fy, fy, fy, fy, fy, fy, fy] (by kernel_rfl) rfl rfl ⟨(blk_cell BK822.out 0).trans rfl, (blk_cell BK822.out 1).trans rfl, (blk_cell BK814.out 0).trans rfl, hx823_0⟩ (fun hHeld => ?_); refine with_tabW spec_l9Mean.tab5 spec_l9Mean.bits5 (fun HT_ HW_ => ?_)
     generalize wr.drew = w21 at HO_6 BK814 BK815 BK822 HB hx823_0 hHeld ⊢
     refine pure_ (i := 2) (N := some 24) (v := ?_) (a' := ?_) #[fy, fy, ty, fy, fy, fy, fy, fy, fy] rfl rfl (any_of HT_.out (by kernel_rfl)) (fun _ _ _ h => h) (Or.inl ⟨by rfl, ?_⟩) ?_ ?_; rotate_left; (intro w'; go_simp; with_reducible rfl); rotate_left; (simp only [Act.put, sA_, sB_, sC_, i64_w, i32_w]; rfl)
     refine pure_ (i := 3) (N := some 25) (v := ?_) (a' := ?_) #[fy, fy, ty, ty, fy, fy, fy, fy, fy] rfl rfl (any_of HT_.out (by kernel_rfl)) (fun _ _ _ h => h) (Or.inl ⟨by rfl, ?_⟩) ?_ ?_; rotate_left; (intro w'; go_simp; with_reducible rfl); rotate_left; (simp only [Act.put, sA_, sB_, sC_, i64_w, i32_w]; rfl)
     refine pure_ (i := 4) (N := some 26) (v := ?_) (a' := ?_) #[fy, fy, ty, ty, ty, fy, fy, fy, fy] rfl rfl (any_of HT_.out (by kernel_rfl)) (fun _ _ _ h => h) (Or.inl ⟨by rfl, ?_⟩) ?_ ?_; rotate_left; (intro w'; go_simp; with_reducible rfl); rotate_left; (simp only [Act.put, sA_, sB_, sC_, i64_w, i32_w]; rfl)
     refine take_ (i := 0) (N := some 22) (v := ?_) (a' := ?_) #[ty, fy, ty, ty, ty, fy, fy, fy, fy] rfl rfl (take_ofW HT_.out HW_.out (by kernel_rfl)) (fun _ _ _ h => h) (Or.inl ⟨by rfl, ?_⟩) hHeld ?_ ?_; rotate_left; (rintro w' ⟨s0, s1, s2, s3⟩; go_simp; with_reducible rfl); rotate_left; (simp only [Act.put, sA_, sB_, sC_, i64_w, i32_w]; rfl)
     refine take_ (i := 1) (N := some 23) (v := ?_) (a' := ?_) #[ty, ty, ty, ty, ty, fy, fy, fy, fy] rfl rfl (take_ofW HT_.out HW_.out (by kernel_rfl)) (fun _ _ _ h => h) (Or.inl ⟨by rfl, ?_⟩) hHeld ?_ ?_; rotate_left; (rintro w' ⟨s0, s1, s2, s3⟩; go_simp; with_reducible rfl); rotate_left; (simp only [Act.put, sA_, sB_, sC_, i64_w, i32_w]; rfl)
     refine take_ (i := 5) (N := some 27) (v := ?_) (a' := ?_) #[ty, ty, ty, ty, ty, ty, fy, fy, fy] rfl rfl (take_ofW HT_.out HW_.out (by kernel_rfl)) (fun _ _ _ h => h) (Or.inl ⟨by rfl, ?_⟩) hHeld ?_ ?_; rotate_left; (rintro w' ⟨s0, s1, s2, s3⟩; go_simp; with_reducible rfl); rotate_left; (simp only [Act.put, sA_, sB_, sC_, i64_w, i32_w]; rfl)
     refine one_ (i := 6) (N := some 28) #[ty, ty, ty, ty, ty, ty, ty, fy, fy] rfl rfl (one_of HT_.out (by kernel_rfl)) (by decide) (fun K hK => ?_)
     refine goes_ Try.func74 (by kernel_rfl) rfl #[.agg #[.slice A0_0 l0_0.length c0_0], .int .i64 (rd t819 x7_1)] (by rfl) rfl rfl (by (try simp only [sD_, sE_, sF_]); first | done | rfl | (simp only [sG_, sH_]; rfl)) ?_
     with_reducible refine (ih k1 (by have := HK1.out; omega) _ _ l0_0 (rd t819 x7_1) t824 t825 _ ?side1 ?side2 A18.out).mono ?_
     (case side1 => repeat (first | exact (Kd.C_below HR0_0.out HB.out) | (with_reducible refine Kd.C_alloc ?_ _) | (with_reducible refine Kd.C_drewN ?_ _) | (with_reducible refine Kd.C_drew ?_)))
     (case side2 => exact HC0_0.out)
     rintro e w22 ⟨rfl, hb⟩
     have HS3_ := (hb.cell (World.block_lt_of_cell? _ _ (hHeld.2.2.2))).trans (hHeld.2.2.2)
     refine ⟨_, rfl, ?_⟩
     have n0_ := aM_ (Kd.R_below HO_6.out hb)
     have n1_ := aM_ (blk_below BK814.out hb)
     have n2_ := aM_ (blk_below BK815.out hb)
     have n3_ := aM_ (blk_below BK822.out hb)
     have n4_ := aM_ (below_step HB.out hb)
     clear HO_6
     clear BK814
     clear BK815
     clear BK822
     clear HB
     have HO_6 := n0_
     have BK814 := n1_
     have BK815 := n2_
     have BK822 := n3_
     have HB := n4_
     clear n0_ n1_ n2_ n3_ n4_
     (try clear hb)
     (try clear hb2)
     (try clear hk)
     (try clear hi)
     refine hK.out _ _ ⟨(blk_cell BK822.out 0).trans rfl, (blk_cell BK822.out 1).trans rfl, (blk_cell BK814.out 0).trans rfl, HS3_⟩ (fun hHeld => ?_)
     clear hK K
     refine norm_ (a' := ?_) ?_ ?_; rotate_left; (show Act.put _ (some 28) _ = _; simp only [Act.put, sA_, sB_, sC_, i64_w, i32_w]; rfl)
     refine one_ (i := 7) (N := some 29) #[ty, ty, ty, ty, ty, ty, ty, ty, fy] rfl rfl (one_of HT_.out (by kernel_rfl)) (by decide) (fun K hK => ?_)
     refine goes_ Try.func104 (by kernel_rfl) rfl #[.agg #[.int .i64 x823000_1, .int .i64 x823001_1], .agg #[.int .i64 t824, .int .i64 t825]] (by rfl) rfl rfl (by (try simp only [sD_, sE_, sF_]); first | done | rfl | (simp only [sG_, sH_]; rfl)) ?_
     with_reducible refine (spec_l9Plus.calls k1 x823000_1 x823001_1 t824 t825 t826 t827 _ A19.out).mono ?_
     rintro e w23 ⟨rfl, hb⟩
     have HS3_ := (hb.cell (World.block_lt_of_cell? _ _ (hHeld.2.2.2))).trans (hHeld.2.2.2)
     refine ⟨_, rfl, ?_⟩
     have n0_ := aM_ (Kd.R_below HO_6.out hb)
     have n1_ := aM_ (blk_below BK814.out hb)
     have n2_ := aM_ (blk_below BK815.out hb)
     have n3_ := aM_ (blk_below BK822.out hb)
     have n4_ := aM_ (below_step HB.out hb)
     clear HO_6
     clear BK814
     clear BK815
     clear BK822
     clear HB
     have HO_6 := n0_
     have BK814 := n1_
     have BK815 := n2_
     have BK822 := n3_
     have HB := n4_
     clear n0_ n1_ n2_ n3_ n4_
     (try clear hb)
     (try clear hb2)
     (try clear hk)
     (try clear hi)
     refine hK.out _ _ ⟨(blk_cell BK822.out 0).trans rfl, (blk_cell BK822.out 1).trans rfl, (blk_cell BK814.out 0).trans rfl, HS3_⟩ (fun hHeld => ?_)
     clear hK K
     refine norm_ (a' := ?_) ?_ ?_; rotate_left; (show Act.put _ (some 29) _ = _; simp only [Act.put, sA_, sB_, sC_, i64_w, i32_w]; rfl)
     refine last_ (i := 8) (N := none) #[ty, ty, ty, ty, ty, ty, ty, ty, ty] rfl rfl (one_of HT_.out (by kernel_rfl)) (by decide) (fun K hK => ?_)
     have hs24 : w23.cell? ⟨gb822, 0, none⟩ = some (.int .i64 x823000_1) := (blk_cell BK822.out 0).trans rfl
     have hfs24 := blk_frozen BK822.out 0
     have hns24_0 := NB814_822.out
     have hns24_1 := NB815_822.out
     have hms24_0 := NB822_814.out
     have hms24_1 := NB822_815.out
     have hs25 : w23.cell? ⟨gb822, 1, none⟩ = some (.int .i64 x823001_1) := (blk_cell BK822.out 1).trans rfl
     have hfs25 := blk_frozen BK822.out 1
     have hns25_0 := NB814_822.out
     have hns25_1 := NB815_822.out
     have hms25_0 := NB822_814.out
     have hms25_1 := NB822_815.out
     refine skip_ (w1 := ?_) (by rfl) rfl ?_ ?_
     rotate_left
     ·
      go_simp
      rfl
     refine hK.out _ _ ?_
     clear hK K
     refine done_ (done_of HT_.out (by kernel_rfl)) ?_
     try go_wp2
     go_roundg k1
     case measure => have := HK1.out; omega
     case rel => exact ⟨(wrap64 (x7_1 + 1)), (t826), (t827), (by first | rfl | (simp; done) | (simp [*]; done)), H', ⟨by have := HK1.out; omega⟩, ⟨by exact Kd.R_mono (Kd.R_far (p := ⟨gb822, 1, none⟩) (Kd.R_far (p := ⟨gb822, 0, none⟩) (Kd.R_types HO_6.out BK822.out (by decide)) (fun _ hk => hk.2) (.int .i64 t826)) (fun _ hk => hk.2) (.int .i64 t827)) (fun _ hk => trivial)⟩, ⟨by refine blk_far ?_ NB814_822.out _; refine blk_far ?_ NB814_822.out _; exact BK814.out⟩, ⟨by refine blk_far ?_ NB815_822.out _; refine blk_far ?_ NB815_822.out _; exact BK815.out⟩, ⟨by refine blk_put (cs := #[.int .i64 t826, .int .i64 x823001_1]) ?_ 1 _ rfl; refine blk_put (cs := #[.int .i64 x823000_1, .int .i64 x823001_1]) ?_ 0 _ rfl; exact BK822.out⟩, ⟨by repeat (first | (with_reducible first | exact HB.out | apply below_alloc | apply pw_below_drewN | apply below_drew1 | refine below_set ?_ GE814.out | refine below_set ?_ GE815.out | refine below_set ?_ GE822.out) | exact HB.out)⟩⟩
    ·
     rw [if_neg c17] at H
     exact absurd H (by simp)
   ·
    rw [if_neg c16] at H
    have c16b0 := decide_eq_false c16
    clear c16
    replace H := Option.bind_eq_some_iff.mp H
    obtain ⟨t828, A260, H⟩ := H
    try dsimp only at H
    have A26 := aM_ A260
    clear A260
    replace H := Option.bind_eq_some_iff.mp H
    obtain ⟨⟨t829, t830⟩, A270, H⟩ := H
    try dsimp only at H
    have A27 := aM_ A270
    clear A270
    simp only [Option.some.injEq, Prod.mk.injEq] at H
    obtain ⟨rfl, rfl⟩ := H
    obtain ⟨Ao28, co28, eo28⟩ := Kd.R_slice HO_6.out
    subst eo28
    try go_wp2
    have n0_ := aM_ (Kd.R_drew HO_6.out)
    have n1_ := aM_ (blk_drew BK814.out)
    have n2_ := aM_ (blk_drew BK815.out)
    have n3_ := aM_ (blk_drew BK822.out)
    have n4_ := aM_ (below_drew1 HB.out)
    clear HO_6
    clear BK814
    clear BK815
    clear BK822
    clear HB
    have HO_6 := n0_
    have BK814 := n1_
    have BK815 := n2_
    have BK822 := n3_
    have HB := n4_
    clear n0_ n1_ n2_ n3_ n4_
    refine start_ (n := 10) (S := fun w' => w'.cell? ⟨gb822, 0, none⟩ = some (.int .i64 x823000_1) ∧ w'.cell? ⟨gb822, 1, none⟩ = some (.int .i64 x823001_1) ∧ w'.cell? ⟨gb814, 0, none⟩ = some (.slice A0_0 l0_0.length c0_0)) (ds := []) #[fy, fy, fy, fy, fy, fy, fy, fy, fy, fy] (by kernel_rfl) rfl rfl ⟨(blk_cell BK822.out 0).trans rfl, (blk_cell BK822.out 1).trans rfl, (blk_cell BK814.out 0).trans rfl⟩ (fun hHeld => ?_); refine with_tabW spec_l9Mean.tab6 spec_l9Mean.bits6 (fun HT_ HW_ => ?_)
    generalize wr.drew = w29 at HO_6 BK814 BK815 BK822 HB hHeld ⊢
    refine pure_ (i := 0) (N := some 30) (v := ?_) (a' := ?_) #[ty, fy, fy, fy, fy, fy, fy, fy, fy, fy] rfl rfl (any_of HT_.out (by kernel_rfl)) (fun _ _ _ h => h) (Or.inl ⟨by rfl, ?_⟩) ?_ ?_; rotate_left; (intro w'; go_simp; with_reducible rfl); rotate_left; (simp only [Act.put, sA_, sB_, sC_, i64_w, i32_w]; rfl)
    refine pure_ (i := 2) (N := some 32) (v := ?_) (a' := ?_) #[ty, fy, ty, fy, fy, fy, fy, fy, fy, fy] rfl rfl (any_of HT_.out (by kernel_rfl)) (fun _ _ _ h => h) (Or.inl ⟨by rfl, ?_⟩) ?_ ?_; rotate_left; (intro w'; go_simp; with_reducible rfl); rotate_left; (simp only [Act.put, sA_, sB_, sC_, i64_w, i32_w]; rfl)
    refine pure_ (i := 5) (N := some 35) (v := ?_) (a' := ?_) #[ty, fy, ty, fy, fy, ty, fy, fy, fy, fy] rfl rfl (any_of HT_.out (by kernel_rfl)) (fun _ _ _ h => h) (Or.inl ⟨by rfl, ?_⟩) ?_ ?_; rotate_left; (intro w'; go_simp; with_reducible rfl); rotate_left; (simp only [Act.put, sA_, sB_, sC_, i64_w, i32_w]; rfl)
    refine take_ (i := 1) (N := some 31) (v := ?_) (a' := ?_) #[ty, ty, ty, fy, fy, ty, fy, fy, fy, fy] rfl rfl (take_ofW HT_.out HW_.out (by kernel_rfl)) (fun _ _ _ h => h) (Or.inl ⟨by rfl, ?_⟩) hHeld ?_ ?_; rotate_left; (rintro w' ⟨s0, s1, s2⟩; go_simp; with_reducible rfl); rotate_left; (simp only [Act.put, sA_, sB_, sC_, i64_w, i32_w]; rfl)
    refine take_ (i := 3) (N := some 33) (v := ?_) (a' := ?_) #[ty, ty, ty, ty, fy, ty, fy, fy, fy, fy] rfl rfl (take_ofW HT_.out HW_.out (by kernel_rfl)) (fun _ _ _ h => h) (Or.inl ⟨by rfl, ?_⟩) hHeld ?_ ?_; rotate_left; (rintro w' ⟨s0, s1, s2⟩; go_simp; with_reducible rfl); rotate_left; (simp only [Act.put, sA_, sB_, sC_, i64_w, i32_w]; rfl)
    refine take_ (i := 4) (N := some 34) (v := ?_) (a' := ?_) #[ty, ty, ty, ty, ty, ty, fy, fy, fy, fy] rfl rfl (take_ofW HT_.out HW_.out (by kernel_rfl)) (fun _ _ _ h => h) (Or.inl ⟨by rfl, ?_⟩) hHeld ?_ ?_; rotate_left; (rintro w' ⟨s0, s1, s2⟩; go_simp; with_reducible rfl); rotate_left; (simp only [Act.put, sA_, sB_, sC_, i64_w, i32_w]; rfl)
    refine one_ (i := 6) (N := some 36) #[ty, ty, ty, ty, ty, ty, ty, fy, fy, fy] rfl rfl (one_of HT_.out (by kernel_rfl)) (by decide) (fun K hK => ?_)
    refine goes_ Try.func99 (by kernel_rfl) rfl #[.agg #[.slice A0_0 l0_0.length c0_0], .int .i64 a1] (by rfl) rfl rfl (by (try simp only [sD_, sE_, sF_]); first | done | rfl | (simp only [sG_, sH_]; rfl)) ?_
    with_reducible refine (spec_l9Choices.calls k1 _ _ l0_0 a1 t828 _ ?side1 ?side2 A26.out).mono ?_
    (case side1 => repeat (first | exact (Kd.C_below HR0_0.out HB.out) | (with_reducible refine Kd.C_alloc ?_ _) | (with_reducible refine Kd.C_drewN ?_ _) | (with_reducible refine Kd.C_drew ?_)))
    (case side2 => exact HC0_0.out)
    rintro e w30 ⟨rfl, hb⟩
    refine ⟨_, rfl, ?_⟩
    have n0_ := aM_ (Kd.R_below HO_6.out hb)
    have n1_ := aM_ (blk_below BK814.out hb)
    have n2_ := aM_ (blk_below BK815.out hb)
    have n3_ := aM_ (blk_below BK822.out hb)
    have n4_ := aM_ (below_step HB.out hb)
    clear HO_6
    clear BK814
    clear BK815
    clear BK822
    clear HB
    have HO_6 := n0_
    have BK814 := n1_
    have BK815 := n2_
    have BK822 := n3_
    have HB := n4_
    clear n0_ n1_ n2_ n3_ n4_
    (try clear hb)
    (try clear hb2)
    (try clear hk)
    (try clear hi)
    refine hK.out _ _ ⟨(blk_cell BK822.out 0).trans rfl, (blk_cell BK822.out 1).trans rfl, (blk_cell BK814.out 0).trans rfl⟩ (fun hHeld => ?_)
    clear hK K
    refine norm_ (a' := ?_) ?_ ?_; rotate_left; (show Act.put _ (some 36) _ = _; simp only [Act.put, sA_, sB_, sC_, i64_w, i32_w]; rfl)
    refine pure_ (i := 7) (N := some 37) (v := ?_) (a' := ?_) #[ty, ty, ty, ty, ty, ty, ty, ty, fy, fy] rfl rfl (any_of HT_.out (by kernel_rfl)) (fun _ _ _ h => h) (Or.inl ⟨by rfl, ?_⟩) ?_ ?_; rotate_left; (intro w'; go_simp; with_reducible rfl); rotate_left; (simp only [Act.put, sA_, sB_, sC_, i64_w, i32_w]; rfl)
    refine one_ (i := 8) (N := some 38) #[ty, ty, ty, ty, ty, ty, ty, ty, ty, fy] rfl rfl (one_of HT_.out (by kernel_rfl)) (by decide) (fun K hK => ?_)
    refine goes_ Try.func40 (by kernel_rfl) rfl #[.int .i64 x823000_1, .int .i64 (wrap64 (x823001_1 * t828))] (by rfl) rfl rfl (by (try simp only [sD_, sE_, sF_]); first | done | rfl | (simp only [sG_, sH_]; rfl)) ?_
    with_reducible refine (spec_l9Cut.calls k1 x823000_1 (wrap64 (x823001_1 * t828)) t829 t830 _ A27.out).mono ?_
    rintro e w31 ⟨rfl, hb⟩
    refine ⟨_, rfl, ?_⟩
    have n0_ := aM_ (Kd.R_below HO_6.out hb)
    have n1_ := aM_ (blk_below BK814.out hb)
    have n2_ := aM_ (blk_below BK815.out hb)
    have n3_ := aM_ (blk_below BK822.out hb)
    have n4_ := aM_ (below_step HB.out hb)
    clear HO_6
    clear BK814
    clear BK815
    clear BK822
    clear HB
    have HO_6 := n0_
    have BK814 := n1_
    have BK815 := n2_
    have BK822 := n3_
    have HB := n4_
    clear n0_ n1_ n2_ n3_ n4_
    (try clear hb)
    (try clear hb2)
    (try clear hk)
    (try clear hi)
    refine hK.out _ _ ⟨(blk_cell BK822.out 0).trans rfl, (blk_cell BK822.out 1).trans rfl, (blk_cell BK814.out 0).trans rfl⟩ (fun hHeld => ?_)
    clear hK K
    refine norm_ (a' := ?_) ?_ ?_; rotate_left; (show Act.put _ (some 38) _ = _; simp only [Act.put, sA_, sB_, sC_, i64_w, i32_w]; rfl)
    refine one_ (i := 9) (N := none) #[ty, ty, ty, ty, ty, ty, ty, ty, ty, ty] rfl rfl (one_of HT_.out (by kernel_rfl)) (by decide) (fun K hK => ?_)
    have hs32 : w31.cell? ⟨gb815, 0, none⟩ = some (.int .i64 0) := (blk_cell BK815.out 0).trans rfl
    have hfs32 := blk_frozen BK815.out 0
    have hns32_0 := NB814_815.out
    have hns32_2 := NB822_815.out
    have hms32_0 := NB815_814.out
    have hms32_2 := NB815_822.out
    have hs33 : w31.cell? ⟨gb815, 1, none⟩ = some (.int .i64 0) := (blk_cell BK815.out 1).trans rfl
    have hfs33 := blk_frozen BK815.out 1
    have hns33_0 := NB814_815.out
    have hns33_2 := NB822_815.out
    have hms33_0 := NB815_814.out
    have hms33_2 := NB815_822.out
    refine skip_ (w1 := ?_) (by rfl) rfl ?_ ?_
    rotate_left
    ·
     go_simp
     rfl
    refine hK.out _ _ ⟨((cell_far (p := ⟨gb815, _, none⟩) NB822_815.out _).trans (((cell_far (p := ⟨gb815, _, none⟩) NB822_815.out _).trans (hHeld.1)))), ((cell_far (p := ⟨gb815, _, none⟩) NB822_815.out _).trans (((cell_far (p := ⟨gb815, _, none⟩) NB822_815.out _).trans (hHeld.2.1)))), ((cell_far (p := ⟨gb815, _, none⟩) NB814_815.out _).trans (((cell_far (p := ⟨gb815, _, none⟩) NB814_815.out _).trans (hHeld.2.2))))⟩ (fun hHeld => ?_)
    clear hK K
    refine done_ (done_of HT_.out (by kernel_rfl)) ?_
    try go_wp2
    refine bodyPost_ret (results_cell_row rfl _ _ gb815 26 #[.int .i64 t829, .int .i64 t830] (0, 0) _ rfl (by refine blk_put (cs := #[.int .i64 t829, .int .i64 0]) ?_ 1 _ rfl; refine blk_put (cs := #[.int .i64 0, .int .i64 0]) ?_ 0 _ rfl; exact BK815.out) Try.underlying26 rfl (by kernel_rfl)) rfl ?_
    exact ⟨by first | rfl | (simp [errW_none, errW_some] <;> rfl) | (simp [*, errW_none, errW_some] <;> rfl), by repeat (first | (with_reducible first | exact HB.out | apply below_alloc | apply pw_below_drewN | apply below_drew1 | refine below_set ?_ GE814.out | refine below_set ?_ GE815.out | refine below_set ?_ GE822.out) | exact HB.out)⟩
def spec_MeanDescent.f (k : Nat) (l0_0 : List (S80)) : Option (Int × Int × Bool) := (spec_l9Drawn.f k l0_0).bind fun t833 => (if t833 = true then ((spec_l9Mean.f k l0_0 0).bind fun bt834 => (some (bt834.1, bt834.2, true))) else (some (0, 0, false)))
theorem spec_MeanDescent.mono : ∀ a0 k, LeO (spec_MeanDescent.f k a0) (spec_MeanDescent.f (k + 1) a0) := by
 intro a0 k
 unfold spec_MeanDescent.f
 repeat' first
   | (with_reducible exact spec_l9Drawn.mono _ _)
   | (with_reducible exact spec_l9Mean.mono _ _ _)
   | (with_reducible exact LeO.refl _)
   | (with_reducible exact LeO.none _)
   | (with_reducible refine LeO.ite ?_ ?_)
   | (with_reducible refine LeO.bind ?_ (fun _ => ?_))
   | exact spec_l9Drawn.mono _ _
   | exact spec_l9Mean.mono _ _ _
   | exact LeO.none _
   | refine LeO.ite ?_ ?_
   | refine LeO.bind ?_ (fun _ => ?_)
set_option maxHeartbeats 8000000 in
set_option maxRecDepth 100000 in
theorem spec_MeanDescent.calls (k : Nat) (A0_0 : Option Addr) (c0_0 : Nat) (l0_0 : List (S80)) (r1 : Int) (r2 : Int) (r3 : Bool) (w : World) (hr0_0 : Kd.C k80 w A0_0 l0_0.length l0_0) (hc0_0 : l0_0.length ≤ c0_0) (h : spec_MeanDescent.f k l0_0 = some (r1, r2, r3)) :
  Calls Try.prog 33 #[.agg #[.slice A0_0 l0_0.length c0_0]] w fun e w' => e = .returned (.tuple #[.agg #[.int .i64 r1, .int .i64 r2], .bool r3]) ∧ Below w.heap.size w w' := by
 have hu31 := Try.underlying31
 have hu26 := Try.underlying26
 have HR0_0 := aM_ hr0_0
 have HC0_0 := aM_ hc0_0
 clear hr0_0 hc0_0
 have HB := aM_ (Below.refl w.heap.size w)
 have H : ((spec_l9Drawn.f k l0_0).bind fun t833 => (if t833 = true then ((spec_l9Mean.f k l0_0 0).bind fun bt834 => (some (bt834.1, bt834.2, true))) else (some (0, 0, false)))) = some (r1, r2, r3) := h
 clear h
 replace H := Option.bind_eq_some_iff.mp H
 obtain ⟨t833, A20, H⟩ := H
 try dsimp only at H
 have A2 := aM_ A20
 clear A20
 by_cases c3 : t833 = true
 ·
  subst c3
  rw [if_pos rfl] at H
  replace H := Option.bind_eq_some_iff.mp H
  obtain ⟨⟨t834, t835⟩, A40, H⟩ := H
  try dsimp only at H
  have A4 := aM_ A40
  clear A40
  simp only [Option.some.injEq, Prod.mk.injEq] at H
  obtain ⟨rfl, rfl, rfl⟩ := H
  go_enter Try.func33, Try.ntmps33
  go_wp2_with (first | ((with_reducible refine gate_dst (N := 1) rfl ?_); refine box_event ?hg (N := 1) ?hd (cs := #[.slice A0_0 l0_0.length c0_0]) (t := 31) ?hr ?_; (case hd => rfl); (case hg => rfl); (case hr => first | (go_simp; done) | (go_simp; rfl)); intro gb831 hg w5 hbox hb; have BK831 := aM_ (hbox); have GW831 := aM_ ((by rw [hg]; exact (below_size HB.out) : w.heap.size ≤ gb831)); have GE831 := GW831; replace HB := aM_ (below_step HB.out hb); clear hb hbox hg) | ((with_reducible refine gate_dst (N := 2) rfl ?_); refine box_event ?hg (N := 2) ?hd (cs := #[.int .i64 0, .int .i64 0]) (t := 26) ?hr ?_; (case hd => rfl); (case hg => rfl); (case hr => first | (go_simp; done) | (go_simp; rfl)); intro gb832 hg w6 hbox hb; have BK832 := aM_ (hbox); have GW832 := aM_ ((by rw [hg]; exact (below_size HB.out) : w.heap.size ≤ gb832)); have GE832 := GW832; replace HB := aM_ (below_step HB.out hb); have NB831_832 := aM_ ((by rw [hg]; exact Nat.ne_of_lt (blk_lt BK831.out) : gb831 ≠ gb832)); have NB832_831 := aM_ NB831_832.out.symm; replace BK831 := aM_ (blk_below BK831.out hb); clear hb hbox hg; have hnb7 := NB831_832.out; have hnc7 := NB832_831.out; have hcz8_0 : w6.cell? ⟨gb831, 0, none⟩ = some (.slice A0_0 l0_0.length c0_0) := (blk_cell BK831.out 0).trans rfl; have hfz8_0 := blk_frozen BK831.out 0) | ((with_reducible refine gate_callee (f := 38) rfl ?_); refine goesL_ (some 5) rfl rfl Try.func38 (by kernel_rfl) rfl #[.agg #[.slice A0_0 l0_0.length c0_0]] rfl (by (try simp only [sD_, sE_, sF_]); first | done | rfl | (simp only [sG_, sH_]; rfl)) ?_; (with_reducible refine (spec_l9Drawn.calls k _ _ l0_0 true _ ?side1 ?side2 A2.out).mono ?_); (case side1 => repeat (first | exact (Kd.C_below HR0_0.out HB.out) | (with_reducible refine Kd.C_alloc ?_ _) | (with_reducible refine Kd.C_drewN ?_ _) | (with_reducible refine Kd.C_drew ?_))); (case side2 => exact HC0_0.out); rintro e w9 ⟨rfl, hb⟩; refine ⟨_, rfl, ?_⟩; replace BK831 := aM_ (blk_below BK831.out hb); replace BK832 := aM_ (blk_below BK832.out hb); replace HB := aM_ (below_step HB.out hb); (try clear hb); (try clear hb2); (try clear hk); (try clear hi); have hcz10_0 : w9.cell? ⟨gb831, 0, none⟩ = some (.slice A0_0 l0_0.length c0_0) := (blk_cell BK831.out 0).trans rfl; have hfz10_0 := blk_frozen BK831.out 0) | ((with_reducible refine gate_callee (f := 74) rfl ?_); refine goesL_ (some 9) rfl rfl Try.func74 (by kernel_rfl) rfl #[.agg #[.slice A0_0 l0_0.length c0_0], .int .i64 0] rfl (by (try simp only [sD_, sE_, sF_]); first | done | rfl | (simp only [sG_, sH_]; rfl)) ?_; (with_reducible refine (spec_l9Mean.calls k _ _ l0_0 0 t834 t835 _ ?side1 ?side2 A4.out).mono ?_); (case side1 => repeat (first | exact (Kd.C_below HR0_0.out HB.out) | (with_reducible refine Kd.C_alloc ?_ _) | (with_reducible refine Kd.C_drewN ?_ _) | (with_reducible refine Kd.C_drew ?_))); (case side2 => exact HC0_0.out); rintro e w11 ⟨rfl, hb⟩; refine ⟨_, rfl, ?_⟩; replace BK831 := aM_ (blk_below BK831.out hb); replace BK832 := aM_ (blk_below BK832.out hb); replace HB := aM_ (below_step HB.out hb); (try clear hb); (try clear hb2); (try clear hk); (try clear hi); have hcz12_0 : w11.cell? ⟨gb832, 0, none⟩ = some (.int .i64 0) := (blk_cell BK832.out 0).trans rfl; have hcz12_1 : w11.cell? ⟨gb832, 1, none⟩ = some (.int .i64 0) := (blk_cell BK832.out 1).trans rfl; have hfz12_0 := blk_frozen BK832.out 0; have hfz12_1 := blk_frozen BK832.out 1))
  refine bodyPost_ret (results_ct rfl _ _ gb832 26 #[.int .i64 t834, .int .i64 t835] (0, 0) _ rfl (by refine blk_put (cs := #[.int .i64 t834, .int .i64 0]) ?_ 1 _ rfl; refine blk_put (cs := #[.int .i64 0, .int .i64 0]) ?_ 0 _ rfl; exact BK832.out) Try.underlying26 rfl (by kernel_rfl)) rfl ?_
  exact ⟨by first | rfl | (simp [errW_none, errW_some] <;> rfl) | (simp [*, errW_none, errW_some] <;> rfl), by repeat (first | (with_reducible first | exact HB.out | apply below_alloc | apply pw_below_drewN | apply below_drew1 | refine below_set ?_ GE831.out | refine below_set ?_ GE832.out) | exact HB.out)⟩
 ·
  replace c3 := Bool.eq_false_iff.mpr c3
  subst c3
  have H1 : (some (0, 0, false)) = some (r1, r2, r3) := by rw [if_neg (show ¬ (false = true) by decide)] at H; exact H
  clear H
  have H := H1
  clear H1
  simp only [Option.some.injEq, Prod.mk.injEq] at H
  obtain ⟨rfl, rfl, rfl⟩ := H
  go_enter Try.func33, Try.ntmps33
  go_wp2_with (first | ((with_reducible refine gate_dst (N := 1) rfl ?_); refine box_event ?hg (N := 1) ?hd (cs := #[.slice A0_0 l0_0.length c0_0]) (t := 31) ?hr ?_; (case hd => rfl); (case hg => rfl); (case hr => first | (go_simp; done) | (go_simp; rfl)); intro gb831 hg w13 hbox hb; have BK831 := aM_ (hbox); have GW831 := aM_ ((by rw [hg]; exact (below_size HB.out) : w.heap.size ≤ gb831)); have GE831 := GW831; replace HB := aM_ (below_step HB.out hb); clear hb hbox hg) | ((with_reducible refine gate_dst (N := 2) rfl ?_); refine box_event ?hg (N := 2) ?hd (cs := #[.int .i64 0, .int .i64 0]) (t := 26) ?hr ?_; (case hd => rfl); (case hg => rfl); (case hr => first | (go_simp; done) | (go_simp; rfl)); intro gb832 hg w14 hbox hb; have BK832 := aM_ (hbox); have GW832 := aM_ ((by rw [hg]; exact (below_size HB.out) : w.heap.size ≤ gb832)); have GE832 := GW832; replace HB := aM_ (below_step HB.out hb); have NB831_832 := aM_ ((by rw [hg]; exact Nat.ne_of_lt (blk_lt BK831.out) : gb831 ≠ gb832)); have NB832_831 := aM_ NB831_832.out.symm; replace BK831 := aM_ (blk_below BK831.out hb); clear hb hbox hg; have hnb15 := NB831_832.out; have hnc15 := NB832_831.out; have hcz16_0 : w14.cell? ⟨gb831, 0, none⟩ = some (.slice A0_0 l0_0.length c0_0) := (blk_cell BK831.out 0).trans rfl; have hfz16_0 := blk_frozen BK831.out 0) | ((with_reducible refine gate_callee (f := 38) rfl ?_); refine goesL_ (some 5) rfl rfl Try.func38 (by kernel_rfl) rfl #[.agg #[.slice A0_0 l0_0.length c0_0]] rfl (by (try simp only [sD_, sE_, sF_]); first | done | rfl | (simp only [sG_, sH_]; rfl)) ?_; (with_reducible refine (spec_l9Drawn.calls k _ _ l0_0 false _ ?side1 ?side2 A2.out).mono ?_); (case side1 => repeat (first | exact (Kd.C_below HR0_0.out HB.out) | (with_reducible refine Kd.C_alloc ?_ _) | (with_reducible refine Kd.C_drewN ?_ _) | (with_reducible refine Kd.C_drew ?_))); (case side2 => exact HC0_0.out); rintro e w17 ⟨rfl, hb⟩; refine ⟨_, rfl, ?_⟩; replace BK831 := aM_ (blk_below BK831.out hb); replace BK832 := aM_ (blk_below BK832.out hb); replace HB := aM_ (below_step HB.out hb); (try clear hb); (try clear hb2); (try clear hk); (try clear hi); have hcz18_0 : w17.cell? ⟨gb832, 0, none⟩ = some (.int .i64 0) := (blk_cell BK832.out 0).trans rfl; have hcz18_1 : w17.cell? ⟨gb832, 1, none⟩ = some (.int .i64 0) := (blk_cell BK832.out 1).trans rfl; have hfz18_0 := blk_frozen BK832.out 0; have hfz18_1 := blk_frozen BK832.out 1))
  refine bodyPost_ret (results_ct rfl _ _ gb832 26 #[.int .i64 0, .int .i64 0] (0, 0) _ rfl (by refine blk_put (cs := #[.int .i64 0, .int .i64 0]) ?_ 1 _ rfl; refine blk_put (cs := #[.int .i64 0, .int .i64 0]) ?_ 0 _ rfl; exact BK832.out) Try.underlying26 rfl (by kernel_rfl)) rfl ?_
  exact ⟨by first | rfl | (simp [errW_none, errW_some] <;> rfl) | (simp [*, errW_none, errW_some] <;> rfl), by repeat (first | (with_reducible first | exact HB.out | apply below_alloc | apply pw_below_drewN | apply below_drew1 | refine below_set ?_ GE831.out | refine below_set ?_ GE832.out) | exact HB.out)⟩
def impl_divisor.l0 : Nat → Int → Int → Option (Int)
 | 0, _, _ => none
 | k + 1, x0, x1 => if x1 = 0 then (some x0) else (impl_divisor.l0 k x1 (Int.tmod x0 x1))
def impl_divisor.f (k : Nat) (a0 : Int) (a1 : Int) : Option (Int) := impl_divisor.l0 k a0 a1
theorem impl_divisor.mono_l : ∀ k, (∀ y0 y1, LeO (impl_divisor.l0 k y0 y1) (impl_divisor.l0 (k + 1) y0 y1))
 | 0 => fun _ _ r h => by simp [impl_divisor.l0] at h
 | k + 1 => by
  have ih0 := impl_divisor.mono_l k
  ·
   intro y0 y1
   unfold impl_divisor.l0
   repeat' first
   | (with_reducible exact ih0 _ _)
   | (with_reducible exact LeO.refl _)
   | (with_reducible exact LeO.none _)
   | (with_reducible refine LeO.ite ?_ ?_)
   | (with_reducible refine LeO.bind ?_ (fun _ => ?_))
   | exact ih0 _ _
   | exact LeO.none _
   | refine LeO.ite ?_ ?_
   | refine LeO.bind ?_ (fun _ => ?_)
theorem impl_divisor.mono : ∀ a0 a1 k, LeO (impl_divisor.f k a0 a1) (impl_divisor.f (k + 1) a0 a1) := by
 intro a0 a1 k
 have ih0 := impl_divisor.mono_l k
 unfold impl_divisor.f
 repeat' first
   | (with_reducible exact ih0 _ _)
   | (with_reducible exact LeO.refl _)
   | (with_reducible exact LeO.none _)
   | (with_reducible refine LeO.ite ?_ ?_)
   | (with_reducible refine LeO.bind ?_ (fun _ => ?_))
   | exact ih0 _ _
   | exact LeO.none _
   | refine LeO.ite ?_ ?_
   | refine LeO.bind ?_ (fun _ => ?_)
set_option maxHeartbeats 8000000 in
set_option maxRecDepth 100000 in
theorem impl_divisor.calls (k : Nat) (a0 : Int) (a1 : Int) (r : Int) (w : World) (h : impl_divisor.f k a0 a1 = some r) :
  Calls Try.prog 90 #[.int .i64 a0, .int .i64 a1] w fun e w' => e = .returned (.int .i64 r) ∧ Drawn0 w w' := by
 have H : (impl_divisor.l0 k a0 a1) = some r := h
 clear h
 have H' := aM_ H
 clear H
 go_enter Try.func90, Try.ntmps90
 go_wp2
 repeat (go_quiet (fail); try go_wp2)
 go_loopg [0, 1] k (fun kq v0 v1 w' => ∃ (x0_1 : Int) (x1_1 : Int), v0 = .int .i64 x0_1 ∧ v1 = .int .i64 x1_1 ∧ Aside0 (impl_divisor.l0 kq x0_1 x1_1 = some r) ∧ Aside0 (kq ≤ k) ∧ Drawn0 w w')
 case atStart => exact ⟨(a0), (a1), (by first | rfl | (simp; done) | (simp [*]; done)), (by first | rfl | (simp; done) | (simp [*]; done)), H', ⟨Nat.le_refl _⟩, by repeat (first | exact Drawn0.refl _ | apply Drawn0.step)⟩
 case round =>
  clear H'
  try clear p2
  obtain ⟨x0_1, x1_1, rfl, rfl, HA, HK1, ⟨m1, rfl⟩⟩ := hrel
  cases gk with
  | zero => exact absurd HA.out (by simp [impl_divisor.l0])
  | succ k1 =>
   have H := HA.out
   clear HA
   simp only [impl_divisor.l0] at H
   by_cases c3 : x1_1 = 0
   ·
    rw [if_pos c3] at H
    have c3b0 : (x1_1 == 0) = true := beq_iff_eq.mpr c3
    have c3b1 : (x1_1 != 0) = false := bne_eq_false_iff_eq.mpr c3
    clear c3
    obtain rfl := Option.some.inj H
    go_wp2
    repeat (go_quiet (fail); try go_wp2)
    go_ret
    exact ⟨by first | rfl | (simp; done) | (simp [*]; done), by repeat (first | exact Drawn0.refl _ | apply Drawn0.step)⟩
   ·
    rw [if_neg c3] at H
    have c3b0 : (x1_1 == 0) = false := beq_eq_false_iff_ne.mpr c3
    have c3b1 : (x1_1 != 0) = true := bne_iff_ne.mpr c3
    have H' := aM_ H
    clear H
    go_wp2
    repeat (go_quiet (fail); try go_wp2)
    go_roundg k1
    case measure => have := HK1.out; omega
    case rel => exact ⟨(x1_1), (Int.tmod x0_1 x1_1), (by first | rfl | (simp; done) | (simp [*]; done)), (by first | rfl | (simp; done) | (simp [*]; done)), H', ⟨by have := HK1.out; omega⟩, by repeat (first | exact Drawn0.refl _ | apply Drawn0.step)⟩
def impl_fraction.f (k : Nat) (a0 : Int) (a1 : Int) : Option (Int × Int) := (impl_divisor.f k a0 a1).bind fun t337 => (if t337 = 0 then (none) else (some (wrap64 (Int.tdiv a0 t337), wrap64 (Int.tdiv a1 t337))))
theorem impl_fraction.mono : ∀ a0 a1 k, LeO (impl_fraction.f k a0 a1) (impl_fraction.f (k + 1) a0 a1) := by
 intro a0 a1 k
 unfold impl_fraction.f
 repeat' first
   | (with_reducible exact impl_divisor.mono _ _ _)
   | (with_reducible exact LeO.refl _)
   | (with_reducible exact LeO.none _)
   | (with_reducible refine LeO.ite ?_ ?_)
   | (with_reducible refine LeO.bind ?_ (fun _ => ?_))
   | exact impl_divisor.mono _ _ _
   | exact LeO.none _
   | refine LeO.ite ?_ ?_
   | refine LeO.bind ?_ (fun _ => ?_)
def impl_fraction.T2 : Bool × List (List Nat × List Nat) := (true, [([], []), ([], []), ([0, 1], [0, 1]), ([], []), ([], []), ([3, 4], [3, 4]), ([2, 5], [2, 5]), ([6, 0, 1, 2, 3, 4, 5, 6], [6])])
def impl_fraction.B2 : List Nat := [0, 0, 3, 0, 0, 24, 63, 127]
theorem impl_fraction.tab2 : rtab .any (opsOf Try.f51 2) = impl_fraction.T2 := by kernel_rfl
theorem impl_fraction.bits2 : waitsOk impl_fraction.T2.2 impl_fraction.B2 = true := by kernel_rfl
set_option maxHeartbeats 8000000 in
set_option maxRecDepth 100000 in
theorem impl_fraction.calls (k : Nat) (a0 : Int) (a1 : Int) (r1 : Int) (r2 : Int) (w : World) (h : impl_fraction.f k a0 a1 = some (r1, r2)) :
  Calls Try.prog 51 #[.int .i64 a0, .int .i64 a1] w fun e w' => e = .returned (.agg #[.int .i64 r1, .int .i64 r2]) ∧ Below w.heap.size w w' := by
 have hu26 := Try.underlying26
 have HB := aM_ (Below.refl w.heap.size w)
 have H : ((impl_divisor.f k a0 a1).bind fun t337 => (if t337 = 0 then (none) else (some (wrap64 (Int.tdiv a0 t337), wrap64 (Int.tdiv a1 t337))))) = some (r1, r2) := h
 clear h
 replace H := Option.bind_eq_some_iff.mp H
 obtain ⟨t337, A30, H⟩ := H
 try dsimp only at H
 have A3 := aM_ A30
 clear A30
 by_cases c4 : t337 = 0
 ·
  rw [if_pos c4] at H
  exact absurd H (by simp)
 ·
  rw [if_neg c4] at H
  have c4b0 : (t337 == 0) = false := beq_eq_false_iff_ne.mpr c4
  have c4b1 : (t337 != 0) = true := bne_iff_ne.mpr c4
  simp only [Option.some.injEq, Prod.mk.injEq] at H
  obtain ⟨rfl, rfl⟩ := H
  go_enter Try.func51, Try.ntmps51
  try go_wp2_with (first | ((with_reducible refine gate_dst (N := 4) rfl ?_); refine box_event ?hg (N := 4) ?hd (cs := #[.int .i64 0, .int .i64 0]) (t := 26) ?hr ?_; (case hd => rfl); (case hg => rfl); (case hr => first | (go_simp; done) | (go_simp; rfl)); intro gb336 hg w5 hbox hb; have BK336 := aM_ (hbox); have GW336 := aM_ ((by rw [hg]; exact (below_size HB.out) : w.heap.size ≤ gb336)); have GE336 := GW336; replace HB := aM_ (below_step HB.out hb); clear hb hbox hg) | ((with_reducible refine gate_callee (f := 90) rfl ?_); refine goesL_ (some 8) rfl rfl Try.func90 (by kernel_rfl) rfl #[.int .i64 a0, .int .i64 a1] rfl (by (try simp only [sD_, sE_, sF_]); first | done | rfl | (simp only [sG_, sH_]; rfl)) ?_; (with_reducible refine (impl_divisor.calls k a0 a1 t337 _ A3.out).mono ?_); rintro e w' ⟨rfl, ⟨nd, rfl⟩⟩; refine ⟨_, rfl, ?_⟩; (try (rw [drewN_self w5]; generalize hq_ : World.drewN w5 _ = w5; have n0_ : Aside0 (w5.heap[gb336]? = some (.cells #[.int .i64 0, .int .i64 0] 26 (0, 0))) := ⟨by rw [← hq_]; exact (by (with_reducible repeat (first | refine blk_drewN ?_ _ | refine blk_drew ?_ | refine blk_alloc ?_ _)); exact BK336.out)⟩; have n1_ : Aside0 (Below w.heap.size w w5) := ⟨by rw [← hq_]; exact (by repeat (first | (with_reducible first | exact HB.out | apply below_alloc | apply pw_below_drewN | apply below_drew1 | refine below_set ?_ GE336.out) | exact HB.out))⟩; clear BK336 HB hq_; have BK336 := n0_; have HB := n1_; clear n0_ n1_))))
  have n0_ := aM_ (blk_drew BK336.out)
  have n1_ := aM_ (below_drew1 HB.out)
  clear BK336
  clear HB
  have BK336 := n0_
  have HB := n1_
  clear n0_ n1_
  refine start_ (n := 8) (S := fun w' => True) (ds := []) #[fy, fy, fy, fy, fy, fy, fy, fy] (by kernel_rfl) rfl rfl trivial (fun hHeld => ?_); refine with_tabW impl_fraction.tab2 impl_fraction.bits2 (fun HT_ HW_ => ?_)
  generalize w5.drew = w6 at BK336 HB hHeld ⊢
  refine pure_ (i := 0) (N := some 9) (v := ?_) (a' := ?_) #[ty, fy, fy, fy, fy, fy, fy, fy] rfl rfl (any_of HT_.out (by kernel_rfl)) (fun _ _ _ h => h) (Or.inl ⟨by rfl, ?_⟩) ?_ ?_; rotate_left; (intro w'; go_simp; with_reducible rfl); rotate_left; (simp only [Act.put, sA_, sB_, sC_, i64_w, i32_w]; rfl)
  refine pure_ (i := 1) (N := some 10) (v := ?_) (a' := ?_) #[ty, ty, fy, fy, fy, fy, fy, fy] rfl rfl (any_of HT_.out (by kernel_rfl)) (fun _ _ _ h => h) (Or.inl ⟨by rfl, ?_⟩) ?_ ?_; rotate_left; (intro w'; go_simp; with_reducible rfl); rotate_left; (simp only [Act.put, sA_, sB_, sC_, i64_w, i32_w]; rfl)
  refine pure_ (i := 2) (N := some 11) (v := ?_) (a' := ?_) #[ty, ty, ty, fy, fy, fy, fy, fy] rfl rfl (any_of HT_.out (by kernel_rfl)) (fun _ _ _ h => h) (Or.inl ⟨by rfl, ?_⟩) ?_ ?_; rotate_left; (intro w'; go_simp; with_reducible rfl); rotate_left; (simp only [Act.put, sA_, sB_, sC_, i64_w, i32_w]; rfl)
  refine pure_ (i := 3) (N := some 12) (v := ?_) (a' := ?_) #[ty, ty, ty, ty, fy, fy, fy, fy] rfl rfl (any_of HT_.out (by kernel_rfl)) (fun _ _ _ h => h) (Or.inl ⟨by rfl, ?_⟩) ?_ ?_; rotate_left; (intro w'; go_simp; with_reducible rfl); rotate_left; (simp only [Act.put, sA_, sB_, sC_, i64_w, i32_w]; rfl)
  refine pure_ (i := 4) (N := some 13) (v := ?_) (a' := ?_) #[ty, ty, ty, ty, ty, fy, fy, fy] rfl rfl (any_of HT_.out (by kernel_rfl)) (fun _ _ _ h => h) (Or.inl ⟨by rfl, ?_⟩) ?_ ?_; rotate_left; (intro w'; go_simp; with_reducible rfl); rotate_left; (simp only [Act.put, sA_, sB_, sC_, i64_w, i32_w]; rfl)
  refine pure_ (i := 5) (N := some 14) (v := ?_) (a' := ?_) #[ty, ty, ty, ty, ty, ty, fy, fy] rfl rfl (any_of HT_.out (by kernel_rfl)) (fun _ _ _ h => h) (Or.inl ⟨by rfl, ?_⟩) ?_ ?_; rotate_left; (intro w'; go_simp; with_reducible rfl); rotate_left; (simp only [Act.put, sA_, sB_, sC_, i64_w, i32_w]; rfl)
  refine pure_ (i := 6) (N := some 15) (v := ?_) (a' := ?_) #[ty, ty, ty, ty, ty, ty, ty, fy] rfl rfl (any_of HT_.out (by kernel_rfl)) (fun _ _ _ h => h) (Or.inl ⟨by rfl, ?_⟩) ?_ ?_; rotate_left; (intro w'; go_simp; with_reducible rfl); rotate_left; (simp only [Act.put, sA_, sB_, sC_, i64_w, i32_w]; rfl)
  refine one_ (i := 7) (N := none) #[ty, ty, ty, ty, ty, ty, ty, ty] rfl rfl (one_of HT_.out (by kernel_rfl)) (by decide) (fun K hK => ?_)
  have hs7 : w6.cell? ⟨gb336, 0, none⟩ = some (.int .i64 0) := (blk_cell BK336.out 0).trans rfl
  have hfs7 := blk_frozen BK336.out 0
  have hs8 : w6.cell? ⟨gb336, 1, none⟩ = some (.int .i64 0) := (blk_cell BK336.out 1).trans rfl
  have hfs8 := blk_frozen BK336.out 1
  refine skip_ (w1 := ?_) (by rfl) rfl ?_ ?_
  rotate_left
  ·
   go_simp
   rfl
  refine hK.out _ _ trivial (fun hHeld => ?_)
  clear hK K
  refine done_ (done_of HT_.out (by kernel_rfl)) ?_
  try go_wp2
  refine bodyPost_ret (results_cell_row rfl _ _ gb336 26 #[.int .i64 (wrap64 (Int.tdiv a0 t337)), .int .i64 (wrap64 (Int.tdiv a1 t337))] (0, 0) _ rfl (by refine blk_put (cs := #[.int .i64 (wrap64 (Int.tdiv a0 t337)), .int .i64 0]) ?_ 1 _ rfl; refine blk_put (cs := #[.int .i64 0, .int .i64 0]) ?_ 0 _ rfl; exact BK336.out) Try.underlying26 rfl (by kernel_rfl)) rfl ?_
  exact ⟨by first | rfl | (simp [errW_none, errW_some] <;> rfl) | (simp [*, errW_none, errW_some] <;> rfl), by repeat (first | (with_reducible first | exact HB.out | apply below_alloc | apply pw_below_drewN | apply below_drew1 | refine below_set ?_ GE336.out) | exact HB.out)⟩
def impl_plus.f (k : Nat) (a0_0 : Int) (a0_1 : Int) (a1_0 : Int) (a1_1 : Int) : Option (Int × Int) := (impl_divisor.f k a0_1 a1_1).bind fun t839 => (if t839 = 0 then (none) else ((impl_fraction.f k (wrap64 ((wrap64 (a0_0 * (wrap64 (Int.tdiv a1_1 t839)))) + (wrap64 (a1_0 * (wrap64 (Int.tdiv a0_1 t839)))))) (wrap64 ((wrap64 (Int.tdiv a0_1 t839)) * a1_1))).bind fun bt840 => (some (bt840.1, bt840.2))))
theorem impl_plus.mono : ∀ a0 a1 a2 a3 k, LeO (impl_plus.f k a0 a1 a2 a3) (impl_plus.f (k + 1) a0 a1 a2 a3) := by
 intro a0 a1 a2 a3 k
 unfold impl_plus.f
 repeat' first
   | (with_reducible exact impl_divisor.mono _ _ _)
   | (with_reducible exact impl_fraction.mono _ _ _)
   | (with_reducible exact LeO.refl _)
   | (with_reducible exact LeO.none _)
   | (with_reducible refine LeO.ite ?_ ?_)
   | (with_reducible refine LeO.bind ?_ (fun _ => ?_))
   | exact impl_divisor.mono _ _ _
   | exact impl_fraction.mono _ _ _
   | exact LeO.none _
   | refine LeO.ite ?_ ?_
   | refine LeO.bind ?_ (fun _ => ?_)
def impl_plus.T2 : Bool × List (List Nat × List Nat) := (true, [([], []), ([0], [0]), ([], []), ([2], [2]), ([], []), ([3, 4], [3, 4]), ([1, 5], [1, 5]), ([], []), ([7], [7]), ([], []), ([9], [9]), ([], []), ([10, 11], [10, 11]), ([8, 12], [8, 12]), ([6, 13], [6, 13]), ([], []), ([15], [15]), ([], []), ([16, 17], [16, 17]), ([], []), ([19], [19]), ([18, 20], [18, 20]), ([14, 21], [14, 21]), ([22, 22, 0, 1, 2, 3, 4, 5, 6, 7, 8, 9, 10, 11, 12, 13, 14, 15, 16, 17, 18, 19, 20, 21, 22], [22])])
def impl_plus.B2 : List Nat := [0, 1, 0, 4, 0, 28, 63, 0, 128, 0, 512, 0, 3584, 8064, 16383, 0, 32768, 0, 229376, 0, 524288, 2064384, 4194303, 8388607]
theorem impl_plus.tab2 : rtab .any (opsOf Try.f75 2) = impl_plus.T2 := by kernel_rfl
theorem impl_plus.bits2 : waitsOk impl_plus.T2.2 impl_plus.B2 = true := by kernel_rfl
set_option maxHeartbeats 8000000 in
set_option maxRecDepth 100000 in
theorem impl_plus.calls (k : Nat) (a0_0 : Int) (a0_1 : Int) (a1_0 : Int) (a1_1 : Int) (r1 : Int) (r2 : Int) (w : World) (h : impl_plus.f k a0_0 a0_1 a1_0 a1_1 = some (r1, r2)) :
  Calls Try.prog 75 #[.agg #[.int .i64 a0_0, .int .i64 a0_1], .agg #[.int .i64 a1_0, .int .i64 a1_1]] w fun e w' => e = .returned (.agg #[.int .i64 r1, .int .i64 r2]) ∧ Below w.heap.size w w' := by
 have hu26 := Try.underlying26
 have HB := aM_ (Below.refl w.heap.size w)
 have H : ((impl_divisor.f k a0_1 a1_1).bind fun t839 => (if t839 = 0 then (none) else ((impl_fraction.f k (wrap64 ((wrap64 (a0_0 * (wrap64 (Int.tdiv a1_1 t839)))) + (wrap64 (a1_0 * (wrap64 (Int.tdiv a0_1 t839)))))) (wrap64 ((wrap64 (Int.tdiv a0_1 t839)) * a1_1))).bind fun bt840 => (some (bt840.1, bt840.2))))) = some (r1, r2) := h
 clear h
 replace H := Option.bind_eq_some_iff.mp H
 obtain ⟨t839, A30, H⟩ := H
 try dsimp only at H
 have A3 := aM_ A30
 clear A30
 by_cases c4 : t839 = 0
 ·
  rw [if_pos c4] at H
  exact absurd H (by simp)
 ·
  rw [if_neg c4] at H
  have c4b0 : (t839 == 0) = false := beq_eq_false_iff_ne.mpr c4
  have c4b1 : (t839 != 0) = true := bne_iff_ne.mpr c4
  replace H := Option.bind_eq_some_iff.mp H
  obtain ⟨⟨t840, t841⟩, A50, H⟩ := H
  try dsimp only at H
  have A5 := aM_ A50
  clear A50
  simp only [Option.some.injEq, Prod.mk.injEq] at H
  obtain ⟨rfl, rfl⟩ := H
  go_enter Try.func75, Try.ntmps75
  try go_wp2_with (first | ((with_reducible refine gate_dst (N := 2) rfl ?_); refine box_event ?hg (N := 2) ?hd (cs := #[.int .i64 a0_0, .int .i64 a0_1]) (t := 26) ?hr ?_; (case hd => rfl); (case hg => rfl); (case hr => first | (go_simp; done) | (go_simp; rfl)); intro gb836 hg w6 hbox hb; have BK836 := aM_ (hbox); have GW836 := aM_ ((by rw [hg]; exact (below_size HB.out) : w.heap.size ≤ gb836)); have GE836 := GW836; replace HB := aM_ (below_step HB.out hb); clear hb hbox hg) | ((with_reducible refine gate_dst (N := 3) rfl ?_); refine box_event ?hg (N := 3) ?hd (cs := #[.int .i64 a1_0, .int .i64 a1_1]) (t := 26) ?hr ?_; (case hd => rfl); (case hg => rfl); (case hr => first | (go_simp; done) | (go_simp; rfl)); intro gb837 hg w7 hbox hb; have BK837 := aM_ (hbox); have GW837 := aM_ ((by rw [hg]; exact (below_size HB.out) : w.heap.size ≤ gb837)); have GE837 := GW837; replace HB := aM_ (below_step HB.out hb); have NB836_837 := aM_ ((by rw [hg]; exact Nat.ne_of_lt (blk_lt BK836.out) : gb836 ≠ gb837)); have NB837_836 := aM_ NB836_837.out.symm; replace BK836 := aM_ (blk_below BK836.out hb); clear hb hbox hg) | ((with_reducible refine gate_dst (N := 4) rfl ?_); refine box_event ?hg (N := 4) ?hd (cs := #[.int .i64 0, .int .i64 0]) (t := 26) ?hr ?_; (case hd => rfl); (case hg => rfl); (case hr => first | (go_simp; done) | (go_simp; rfl)); intro gb838 hg w8 hbox hb; have BK838 := aM_ (hbox); have GW838 := aM_ ((by rw [hg]; exact (below_size HB.out) : w.heap.size ≤ gb838)); have GE838 := GW838; replace HB := aM_ (below_step HB.out hb); have NB836_838 := aM_ ((by rw [hg]; exact Nat.ne_of_lt (blk_lt BK836.out) : gb836 ≠ gb838)); have NB838_836 := aM_ NB836_838.out.symm; replace BK836 := aM_ (blk_below BK836.out hb); have NB837_838 := aM_ ((by rw [hg]; exact Nat.ne_of_lt (blk_lt BK837.out) : gb837 ≠ gb838)); have NB838_837 := aM_ NB837_838.out.symm; replace BK837 := aM_ (blk_below BK837.out hb); clear hb hbox hg; have hnb9 := NB836_837.out; have hnc9 := NB837_836.out; have hnb10 := NB836_838.out; have hnc10 := NB838_836.out; have hcz11_0 : w8.cell? ⟨gb836, 0, none⟩ = some (.int .i64 a0_0) := (blk_cell BK836.out 0).trans rfl; have hcz11_1 : w8.cell? ⟨gb836, 1, none⟩ = some (.int .i64 a0_1) := (blk_cell BK836.out 1).trans rfl; have hfz11_0 := blk_frozen BK836.out 0; have hfz11_1 := blk_frozen BK836.out 1; have hnb12 := NB837_838.out; have hnc12 := NB838_837.out; have hcz13_0 : w8.cell? ⟨gb837, 0, none⟩ = some (.int .i64 a1_0) := (blk_cell BK837.out 0).trans rfl; have hcz13_1 : w8.cell? ⟨gb837, 1, none⟩ = some (.int .i64 a1_1) := (blk_cell BK837.out 1).trans rfl; have hfz13_0 := blk_frozen BK837.out 0; have hfz13_1 := blk_frozen BK837.out 1) | ((with_reducible refine gate_callee (f := 90) rfl ?_); refine goesL_ (some 10) rfl rfl Try.func90 (by kernel_rfl) rfl #[.int .i64 a0_1, .int .i64 a1_1] rfl (by (try simp only [sD_, sE_, sF_]); first | done | rfl | (simp only [sG_, sH_]; rfl)) ?_; (with_reducible refine (impl_divisor.calls k a0_1 a1_1 t839 _ A3.out).mono ?_); rintro e w' ⟨rfl, ⟨nd, rfl⟩⟩; refine ⟨_, rfl, ?_⟩; (try (rw [drewN_self w8]; generalize hq_ : World.drewN w8 _ = w8; have n0_ : Aside0 (w8.heap[gb836]? = some (.cells #[.int .i64 a0_0, .int .i64 a0_1] 26 (0, 0))) := ⟨by rw [← hq_]; exact (by (with_reducible repeat (first | refine blk_drewN ?_ _ | refine blk_drew ?_ | refine blk_alloc ?_ _)); exact BK836.out)⟩; have n1_ : Aside0 (w8.heap[gb837]? = some (.cells #[.int .i64 a1_0, .int .i64 a1_1] 26 (0, 0))) := ⟨by rw [← hq_]; exact (by (with_reducible repeat (first | refine blk_drewN ?_ _ | refine blk_drew ?_ | refine blk_alloc ?_ _)); exact BK837.out)⟩; have n2_ : Aside0 (w8.heap[gb838]? = some (.cells #[.int .i64 0, .int .i64 0] 26 (0, 0))) := ⟨by rw [← hq_]; exact (by (with_reducible repeat (first | refine blk_drewN ?_ _ | refine blk_drew ?_ | refine blk_alloc ?_ _)); exact BK838.out)⟩; have n3_ : Aside0 (Below w.heap.size w w8) := ⟨by rw [← hq_]; exact (by repeat (first | (with_reducible first | exact HB.out | apply below_alloc | apply pw_below_drewN | apply below_drew1 | refine below_set ?_ GE836.out | refine below_set ?_ GE837.out | refine below_set ?_ GE838.out) | exact HB.out))⟩; clear BK836 BK837 BK838 HB hq_; have BK836 := n0_; have BK837 := n1_; have BK838 := n2_; have HB := n3_; clear n0_ n1_ n2_ n3_))))
  have n0_ := aM_ (blk_drew BK836.out)
  have n1_ := aM_ (blk_drew BK837.out)
  have n2_ := aM_ (blk_drew BK838.out)
  have n3_ := aM_ (below_drew1 HB.out)
  clear BK836
  clear BK837
  clear BK838
  clear HB
  have BK836 := n0_
  have BK837 := n1_
  have BK838 := n2_
  have HB := n3_
  clear n0_ n1_ n2_ n3_
  refine start_ (n := 24) (S := fun w' => w'.cell? ⟨gb836, 0, none⟩ = some (.int .i64 a0_0) ∧ w'.cell? ⟨gb836, 1, none⟩ = some (.int .i64 a0_1) ∧ w'.cell? ⟨gb837, 0, none⟩ = some (.int .i64 a1_0) ∧ w'.cell? ⟨gb837, 1, none⟩ = some (.int .i64 a1_1)) (ds := []) #[fy, fy, fy, fy, fy, fy, fy, fy, fy, fy, fy, fy, fy, fy, fy, fy, fy, fy, fy, fy, fy, fy, fy, fy] (by kernel_rfl) rfl rfl ⟨(blk_cell BK836.out 0).trans rfl, (blk_cell BK836.out 1).trans rfl, (blk_cell BK837.out 0).trans rfl, (blk_cell BK837.out 1).trans rfl⟩ (fun hHeld => ?_); refine with_tabW impl_plus.tab2 impl_plus.bits2 (fun HT_ HW_ => ?_)
  generalize w8.drew = w14 at BK836 BK837 BK838 HB hHeld ⊢
  refine pure_ (i := 0) (N := some 11) (v := ?_) (a' := ?_) #[ty, fy, fy, fy, fy, fy, fy, fy, fy, fy, fy, fy, fy, fy, fy, fy, fy, fy, fy, fy, fy, fy, fy, fy] rfl rfl (any_of HT_.out (by kernel_rfl)) (fun _ _ _ h => h) (Or.inl ⟨by rfl, ?_⟩) ?_ ?_; rotate_left; (intro w'; go_simp; with_reducible rfl); rotate_left; (simp only [Act.put, sA_, sB_, sC_, i64_w, i32_w]; rfl)
  refine pure_ (i := 2) (N := some 13) (v := ?_) (a' := ?_) #[ty, fy, ty, fy, fy, fy, fy, fy, fy, fy, fy, fy, fy, fy, fy, fy, fy, fy, fy, fy, fy, fy, fy, fy] rfl rfl (any_of HT_.out (by kernel_rfl)) (fun _ _ _ h => h) (Or.inl ⟨by rfl, ?_⟩) ?_ ?_; rotate_left; (intro w'; go_simp; with_reducible rfl); rotate_left; (simp only [Act.put, sA_, sB_, sC_, i64_w, i32_w]; rfl)
  refine pure_ (i := 4) (N := some 15) (v := ?_) (a' := ?_) #[ty, fy, ty, fy, ty, fy, fy, fy, fy, fy, fy, fy, fy, fy, fy, fy, fy, fy, fy, fy, fy, fy, fy, fy] rfl rfl (any_of HT_.out (by kernel_rfl)) (fun _ _ _ h => h) (Or.inl ⟨by rfl, ?_⟩) ?_ ?_; rotate_left; (intro w'; go_simp; with_reducible rfl); rotate_left; (simp only [Act.put, sA_, sB_, sC_, i64_w, i32_w]; rfl)
  refine pure_ (i := 7) (N := some 18) (v := ?_) (a' := ?_) #[ty, fy, ty, fy, ty, fy, fy, ty, fy, fy, fy, fy, fy, fy, fy, fy, fy, fy, fy, fy, fy, fy, fy, fy] rfl rfl (any_of HT_.out (by kernel_rfl)) (fun _ _ _ h => h) (Or.inl ⟨by rfl, ?_⟩) ?_ ?_; rotate_left; (intro w'; go_simp; with_reducible rfl); rotate_left; (simp only [Act.put, sA_, sB_, sC_, i64_w, i32_w]; rfl)
  refine pure_ (i := 9) (N := some 20) (v := ?_) (a' := ?_) #[ty, fy, ty, fy, ty, fy, fy, ty, fy, ty, fy, fy, fy, fy, fy, fy, fy, fy, fy, fy, fy, fy, fy, fy] rfl rfl (any_of HT_.out (by kernel_rfl)) (fun _ _ _ h => h) (Or.inl ⟨by rfl, ?_⟩) ?_ ?_; rotate_left; (intro w'; go_simp; with_reducible rfl); rotate_left; (simp only [Act.put, sA_, sB_, sC_, i64_w, i32_w]; rfl)
  refine pure_ (i := 11) (N := some 22) (v := ?_) (a' := ?_) #[ty, fy, ty, fy, ty, fy, fy, ty, fy, ty, fy, ty, fy, fy, fy, fy, fy, fy, fy, fy, fy, fy, fy, fy] rfl rfl (any_of HT_.out (by kernel_rfl)) (fun _ _ _ h => h) (Or.inl ⟨by rfl, ?_⟩) ?_ ?_; rotate_left; (intro w'; go_simp; with_reducible rfl); rotate_left; (simp only [Act.put, sA_, sB_, sC_, i64_w, i32_w]; rfl)
  refine pure_ (i := 15) (N := some 26) (v := ?_) (a' := ?_) #[ty, fy, ty, fy, ty, fy, fy, ty, fy, ty, fy, ty, fy, fy, fy, ty, fy, fy, fy, fy, fy, fy, fy, fy] rfl rfl (any_of HT_.out (by kernel_rfl)) (fun _ _ _ h => h) (Or.inl ⟨by rfl, ?_⟩) ?_ ?_; rotate_left; (intro w'; go_simp; with_reducible rfl); rotate_left; (simp only [Act.put, sA_, sB_, sC_, i64_w, i32_w]; rfl)
  refine pure_ (i := 17) (N := some 28) (v := ?_) (a' := ?_) #[ty, fy, ty, fy, ty, fy, fy, ty, fy, ty, fy, ty, fy, fy, fy, ty, fy, ty, fy, fy, fy, fy, fy, fy] rfl rfl (any_of HT_.out (by kernel_rfl)) (fun _ _ _ h => h) (Or.inl ⟨by rfl, ?_⟩) ?_ ?_; rotate_left; (intro w'; go_simp; with_reducible rfl); rotate_left; (simp only [Act.put, sA_, sB_, sC_, i64_w, i32_w]; rfl)
  refine pure_ (i := 19) (N := some 30) (v := ?_) (a' := ?_) #[ty, fy, ty, fy, ty, fy, fy, ty, fy, ty, fy, ty, fy, fy, fy, ty, fy, ty, fy, ty, fy, fy, fy, fy] rfl rfl (any_of HT_.out (by kernel_rfl)) (fun _ _ _ h => h) (Or.inl ⟨by rfl, ?_⟩) ?_ ?_; rotate_left; (intro w'; go_simp; with_reducible rfl); rotate_left; (simp only [Act.put, sA_, sB_, sC_, i64_w, i32_w]; rfl)
  refine take_ (i := 1) (N := some 12) (v := ?_) (a' := ?_) #[ty, ty, ty, fy, ty, fy, fy, ty, fy, ty, fy, ty, fy, fy, fy, ty, fy, ty, fy, ty, fy, fy, fy, fy] rfl rfl (take_ofW HT_.out HW_.out (by kernel_rfl)) (fun _ _ _ h => h) (Or.inl ⟨by rfl, ?_⟩) hHeld ?_ ?_; rotate_left; (rintro w' ⟨s0, s1, s2, s3⟩; go_simp; with_reducible rfl); rotate_left; (simp only [Act.put, sA_, sB_, sC_, i64_w, i32_w]; rfl)
  refine take_ (i := 3) (N := some 14) (v := ?_) (a' := ?_) #[ty, ty, ty, ty, ty, fy, fy, ty, fy, ty, fy, ty, fy, fy, fy, ty, fy, ty, fy, ty, fy, fy, fy, fy] rfl rfl (take_ofW HT_.out HW_.out (by kernel_rfl)) (fun _ _ _ h => h) (Or.inl ⟨by rfl, ?_⟩) hHeld ?_ ?_; rotate_left; (rintro w' ⟨s0, s1, s2, s3⟩; go_simp; with_reducible rfl); rotate_left; (simp only [Act.put, sA_, sB_, sC_, i64_w, i32_w]; rfl)
  refine pure_ (i := 5) (N := some 16) (v := ?_) (a' := ?_) #[ty, ty, ty, ty, ty, ty, fy, ty, fy, ty, fy, ty, fy, fy, fy, ty, fy, ty, fy, ty, fy, fy, fy, fy] rfl rfl (any_of HT_.out (by kernel_rfl)) (fun _ _ _ h => h) (Or.inl ⟨by rfl, ?_⟩) ?_ ?_; rotate_left; (intro w'; go_simp; with_reducible rfl); rotate_left; (simp only [Act.put, sA_, sB_, sC_, i64_w, i32_w]; rfl)
  refine pure_ (i := 6) (N := some 17) (v := ?_) (a' := ?_) #[ty, ty, ty, ty, ty, ty, ty, ty, fy, ty, fy, ty, fy, fy, fy, ty, fy, ty, fy, ty, fy, fy, fy, fy] rfl rfl (any_of HT_.out (by kernel_rfl)) (fun _ _ _ h => h) (Or.inl ⟨by rfl, ?_⟩) ?_ ?_; rotate_left; (intro w'; go_simp; with_reducible rfl); rotate_left; (simp only [Act.put, sA_, sB_, sC_, i64_w, i32_w]; rfl)
  refine take_ (i := 8) (N := some 19) (v := ?_) (a' := ?_) #[ty, ty, ty, ty, ty, ty, ty, ty, ty, ty, fy, ty, fy, fy, fy, ty, fy, ty, fy, ty, fy, fy, fy, fy] rfl rfl (take_ofW HT_.out HW_.out (by kernel_rfl)) (fun _ _ _ h => h) (Or.inl ⟨by rfl, ?_⟩) hHeld ?_ ?_; rotate_left; (rintro w' ⟨s0, s1, s2, s3⟩; go_simp; with_reducible rfl); rotate_left; (simp only [Act.put, sA_, sB_, sC_, i64_w, i32_w]; rfl)
  refine take_ (i := 10) (N := some 21) (v := ?_) (a' := ?_) #[ty, ty, ty, ty, ty, ty, ty, ty, ty, ty, ty, ty, fy, fy, fy, ty, fy, ty, fy, ty, fy, fy, fy, fy] rfl rfl (take_ofW HT_.out HW_.out (by kernel_rfl)) (fun _ _ _ h => h) (Or.inl ⟨by rfl, ?_⟩) hHeld ?_ ?_; rotate_left; (rintro w' ⟨s0, s1, s2, s3⟩; go_simp; with_reducible rfl); rotate_left; (simp only [Act.put, sA_, sB_, sC_, i64_w, i32_w]; rfl)
  refine pure_ (i := 12) (N := some 23) (v := ?_) (a' := ?_) #[ty, ty, ty, ty, ty, ty, ty, ty, ty, ty, ty, ty, ty, fy, fy, ty, fy, ty, fy, ty, fy, fy, fy, fy] rfl rfl (any_of HT_.out (by kernel_rfl)) (fun _ _ _ h => h) (Or.inl ⟨by rfl, ?_⟩) ?_ ?_; rotate_left; (intro w'; go_simp; with_reducible rfl); rotate_left; (simp only [Act.put, sA_, sB_, sC_, i64_w, i32_w]; rfl)
  refine pure_ (i := 13) (N := some 24) (v := ?_) (a' := ?_) #[ty, ty, ty, ty, ty, ty, ty, ty, ty, ty, ty, ty, ty, ty, fy, ty, fy, ty, fy, ty, fy, fy, fy, fy] rfl rfl (any_of HT_.out (by kernel_rfl)) (fun _ _ _ h => h) (Or.inl ⟨by rfl, ?_⟩) ?_ ?_; rotate_left; (intro w'; go_simp; with_reducible rfl); rotate_left; (simp only [Act.put, sA_, sB_, sC_, i64_w, i32_w]; rfl)
  refine pure_ (i := 14) (N := some 25) (v := ?_) (a' := ?_) #[ty, ty, ty, ty, ty, ty, ty, ty, ty, ty, ty, ty, ty, ty, ty, ty, fy, ty, fy, ty, fy, fy, fy, fy] rfl rfl (any_of HT_.out (by kernel_rfl)) (fun _ _ _ h => h) (Or.inl ⟨by rfl, ?_⟩) ?_ ?_; rotate_left; (intro w'; go_simp; with_reducible rfl); rotate_left; (simp only [Act.put, sA_, sB_, sC_, i64_w, i32_w]; rfl)
  refine take_ (i := 16) (N := some 27) (v := ?_) (a' := ?_) #[ty, ty, ty, ty, ty, ty, ty, ty, ty, ty, ty, ty, ty, ty, ty, ty, ty, ty, fy, ty, fy, fy, fy, fy] rfl rfl (take_ofW HT_.out HW_.out (by kernel_rfl)) (fun _ _ _ h => h) (Or.inl ⟨by rfl, ?_⟩) hHeld ?_ ?_; rotate_left; (rintro w' ⟨s0, s1, s2, s3⟩; go_simp; with_reducible rfl); rotate_left; (simp only [Act.put, sA_, sB_, sC_, i64_w, i32_w]; rfl)
  refine pure_ (i := 18) (N := some 29) (v := ?_) (a' := ?_) #[ty, ty, ty, ty, ty, ty, ty, ty, ty, ty, ty, ty, ty, ty, ty, ty, ty, ty, ty, ty, fy, fy, fy, fy] rfl rfl (any_of HT_.out (by kernel_rfl)) (fun _ _ _ h => h) (Or.inl ⟨by rfl, ?_⟩) ?_ ?_; rotate_left; (intro w'; go_simp; with_reducible rfl); rotate_left; (simp only [Act.put, sA_, sB_, sC_, i64_w, i32_w]; rfl)
  refine take_ (i := 20) (N := some 31) (v := ?_) (a' := ?_) #[ty, ty, ty, ty, ty, ty, ty, ty, ty, ty, ty, ty, ty, ty, ty, ty, ty, ty, ty, ty, ty, fy, fy, fy] rfl rfl (take_ofW HT_.out HW_.out (by kernel_rfl)) (fun _ _ _ h => h) (Or.inl ⟨by rfl, ?_⟩) hHeld ?_ ?_; rotate_left; (rintro w' ⟨s0, s1, s2, s3⟩; go_simp; with_reducible rfl); rotate_left; (simp only [Act.put, sA_, sB_, sC_, i64_w, i32_w]; rfl)
  refine pure_ (i := 21) (N := some 32) (v := ?_) (a' := ?_) #[ty, ty, ty, ty, ty, ty, ty, ty, ty, ty, ty, ty, ty, ty, ty, ty, ty, ty, ty, ty, ty, ty, fy, fy] rfl rfl (any_of HT_.out (by kernel_rfl)) (fun _ _ _ h => h) (Or.inl ⟨by rfl, ?_⟩) ?_ ?_; rotate_left; (intro w'; go_simp; with_reducible rfl); rotate_left; (simp only [Act.put, sA_, sB_, sC_, i64_w, i32_w]; rfl)
  refine one_ (i := 22) (N := some 33) #[ty, ty, ty, ty, ty, ty, ty, ty, ty, ty, ty, ty, ty, ty, ty, ty, ty, ty, ty, ty, ty, ty, ty, fy] rfl rfl (one_of HT_.out (by kernel_rfl)) (by decide) (fun K hK => ?_)
  refine goes_ Try.func51 (by kernel_rfl) rfl #[.int .i64 (wrap64 ((wrap64 (a0_0 * (wrap64 (Int.tdiv a1_1 t839)))) + (wrap64 (a1_0 * (wrap64 (Int.tdiv a0_1 t839)))))), .int .i64 (wrap64 ((wrap64 (Int.tdiv a0_1 t839)) * a1_1))] (by rfl) rfl rfl (by (try simp only [sD_, sE_, sF_]); first | done | rfl | (simp only [sG_, sH_]; rfl)) ?_
  with_reducible refine (impl_fraction.calls k (wrap64 ((wrap64 (a0_0 * (wrap64 (Int.tdiv a1_1 t839)))) + (wrap64 (a1_0 * (wrap64 (Int.tdiv a0_1 t839)))))) (wrap64 ((wrap64 (Int.tdiv a0_1 t839)) * a1_1)) t840 t841 _ A5.out).mono ?_
  rintro e w15 ⟨rfl, hb⟩
  refine ⟨_, rfl, ?_⟩
  have n0_ := aM_ (blk_below BK836.out hb)
  have n1_ := aM_ (blk_below BK837.out hb)
  have n2_ := aM_ (blk_below BK838.out hb)
  have n3_ := aM_ (below_step HB.out hb)
  clear BK836
  clear BK837
  clear BK838
  clear HB
  have BK836 := n0_
  have BK837 := n1_
  have BK838 := n2_
  have HB := n3_
  clear n0_ n1_ n2_ n3_
  (try clear hb)
  (try clear hb2)
  (try clear hk)
  (try clear hi)
  refine hK.out _ _ ⟨(blk_cell BK836.out 0).trans rfl, (blk_cell BK836.out 1).trans rfl, (blk_cell BK837.out 0).trans rfl, (blk_cell BK837.out 1).trans rfl⟩ (fun hHeld => ?_)
  clear hK K
  refine norm_ (a' := ?_) ?_ ?_; rotate_left; (show Act.put _ (some 33) _ = _; simp only [Act.put, sA_, sB_, sC_, i64_w, i32_w]; rfl)
  refine one_ (i := 23) (N := none) #[ty, ty, ty, ty, ty, ty, ty, ty, ty, ty, ty, ty, ty, ty, ty, ty, ty, ty, ty, ty, ty, ty, ty, ty] rfl rfl (one_of HT_.out (by kernel_rfl)) (by decide) (fun K hK => ?_)
  have hs16 : w15.cell? ⟨gb838, 0, none⟩ = some (.int .i64 0) := (blk_cell BK838.out 0).trans rfl
  have hfs16 := blk_frozen BK838.out 0
  have hns16_0 := NB836_838.out
  have hns16_1 := NB837_838.out
  have hms16_0 := NB838_836.out
  have hms16_1 := NB838_837.out
  have hs17 : w15.cell? ⟨gb838, 1, none⟩ = some (.int .i64 0) := (blk_cell BK838.out 1).trans rfl
  have hfs17 := blk_frozen BK838.out 1
  have hns17_0 := NB836_838.out
  have hns17_1 := NB837_838.out
  have hms17_0 := NB838_836.out
  have hms17_1 := NB838_837.out
  refine skip_ (w1 := ?_) (by rfl) rfl ?_ ?_
  rotate_left
  ·
   go_simp
   rfl
  refine hK.out _ _ ⟨((cell_far (p := ⟨gb838, _, none⟩) NB836_838.out _).trans (((cell_far (p := ⟨gb838, _, none⟩) NB836_838.out _).trans (hHeld.1)))), ((cell_far (p := ⟨gb838, _, none⟩) NB836_838.out _).trans (((cell_far (p := ⟨gb838, _, none⟩) NB836_838.out _).trans (hHeld.2.1)))), ((cell_far (p := ⟨gb838, _, none⟩) NB837_838.out _).trans (((cell_far (p := ⟨gb838, _, none⟩) NB837_838.out _).trans (hHeld.2.2.1)))), ((cell_far (p := ⟨gb838, _, none⟩) NB837_838.out _).trans (((cell_far (p := ⟨gb838, _, none⟩) NB837_838.out _).trans (hHeld.2.2.2))))⟩ (fun hHeld => ?_)
  clear hK K
  refine done_ (done_of HT_.out (by kernel_rfl)) ?_
  try go_wp2
  refine bodyPost_ret (results_cell_row rfl _ _ gb838 26 #[.int .i64 t840, .int .i64 t841] (0, 0) _ rfl (by refine blk_put (cs := #[.int .i64 t840, .int .i64 0]) ?_ 1 _ rfl; refine blk_put (cs := #[.int .i64 0, .int .i64 0]) ?_ 0 _ rfl; exact BK838.out) Try.underlying26 rfl (by kernel_rfl)) rfl ?_
  exact ⟨by first | rfl | (simp [errW_none, errW_some] <;> rfl) | (simp [*, errW_none, errW_some] <;> rfl), by repeat (first | (with_reducible first | exact HB.out | apply below_alloc | apply pw_below_drewN | apply below_drew1 | refine below_set ?_ GE836.out | refine below_set ?_ GE837.out | refine below_set ?_ GE838.out) | exact HB.out)⟩
def impl_MeanDescent.l0 : Nat → List Int → List ByteArray → Int → Int → Int → Int → Option (Int × Int × Bool)
 | 0, _, _, _, _, _, _ => none
 | k + 1, x5, x16, x17, x18, x849000, x849001 => if x18 < x17 then (if 0 ≤ x18 then (if x18 < (x16.length : Int) then (if x18 < (x5.length : Int) then ((impl_fraction.f k ((rdOf ByteArray.empty x16 x18).size : Int) (rd x5 x18)).bind fun bt854 => ((impl_plus.f k x849000 x849001 bt854.1 bt854.2).bind fun bt856 => (impl_MeanDescent.l0 k x5 x16 x17 (wrap64 (x18 + 1)) bt856.1 bt856.2))) else (none)) else (none)) else (none)) else (some (x849000, x849001, true))
def impl_MeanDescent.f (k : Nat) (l0_0 : List (S80)) : Option (Int × Int × Bool) := (impl_isDrawn.f k l0_0).bind fun t844 => (if t844 = true then ((impl_Trie_chances.f k l0_0).bind fun t845 => ((impl_Trie_words.f k l0_0).bind fun t849 => (impl_MeanDescent.l0 k t845 t849 (t849.length : Int) 0 0 1))) else (some (0, 0, false)))
theorem impl_MeanDescent.mono_l : ∀ k, (∀ y0 y1 y2 y3 y4 y5, LeO (impl_MeanDescent.l0 k y0 y1 y2 y3 y4 y5) (impl_MeanDescent.l0 (k + 1) y0 y1 y2 y3 y4 y5))
 | 0 => fun _ _ _ _ _ _ r h => by simp [impl_MeanDescent.l0] at h
 | k + 1 => by
  have ih0 := impl_MeanDescent.mono_l k
  ·
   intro y0 y1 y2 y3 y4 y5
   unfold impl_MeanDescent.l0
   repeat' first
   | (with_reducible exact ih0 _ _ _ _ _ _)
   | (with_reducible exact impl_Trie_chances.mono _ _)
   | (with_reducible exact impl_Trie_words.mono _ _)
   | (with_reducible exact impl_fraction.mono _ _ _)
   | (with_reducible exact impl_isDrawn.mono _ _)
   | (with_reducible exact impl_plus.mono _ _ _ _ _)
   | (with_reducible exact LeO.refl _)
   | (with_reducible exact LeO.none _)
   | (with_reducible refine LeO.ite ?_ ?_)
   | (with_reducible refine LeO.bind ?_ (fun _ => ?_))
   | exact ih0 _ _ _ _ _ _
   | exact impl_Trie_chances.mono _ _
   | exact impl_Trie_words.mono _ _
   | exact impl_fraction.mono _ _ _
   | exact impl_isDrawn.mono _ _
   | exact impl_plus.mono _ _ _ _ _
   | exact LeO.none _
   | refine LeO.ite ?_ ?_
   | refine LeO.bind ?_ (fun _ => ?_)
theorem impl_MeanDescent.mono : ∀ a0 k, LeO (impl_MeanDescent.f k a0) (impl_MeanDescent.f (k + 1) a0) := by
 intro a0 k
 have ih0 := impl_MeanDescent.mono_l k
 unfold impl_MeanDescent.f
 repeat' first
   | (with_reducible exact ih0 _ _ _ _ _ _)
   | (with_reducible exact impl_Trie_chances.mono _ _)
   | (with_reducible exact impl_Trie_words.mono _ _)
   | (with_reducible exact impl_fraction.mono _ _ _)
   | (with_reducible exact impl_isDrawn.mono _ _)
   | (with_reducible exact impl_plus.mono _ _ _ _ _)
   | (with_reducible exact LeO.refl _)
   | (with_reducible exact LeO.none _)
   | (with_reducible refine LeO.ite ?_ ?_)
   | (with_reducible refine LeO.bind ?_ (fun _ => ?_))
   | exact ih0 _ _ _ _ _ _
   | exact impl_Trie_chances.mono _ _
   | exact impl_Trie_words.mono _ _
   | exact impl_fraction.mono _ _ _
   | exact impl_isDrawn.mono _ _
   | exact impl_plus.mono _ _ _ _ _
   | exact LeO.none _
   | refine LeO.ite ?_ ?_
   | refine LeO.bind ?_ (fun _ => ?_)
def impl_MeanDescent.T7 : Bool × List (List Nat × List Nat) := (true, [([], []), ([], []), ([1], [1]), ([], []), ([], []), ([3, 4], [3, 4]), ([5], [5]), ([2, 6], [2, 6]), ([0, 7, 7], [0, 7]), ([8, 8, 0, 1, 2, 3, 4, 5, 6, 7, 8], [8])])
def impl_MeanDescent.B7 : List Nat := [0, 0, 2, 0, 0, 24, 56, 126, 255, 511]
theorem impl_MeanDescent.tab7 : rtab .any (opsOf Try.f34 7) = impl_MeanDescent.T7 := by kernel_rfl
theorem impl_MeanDescent.bits7 : waitsOk impl_MeanDescent.T7.2 impl_MeanDescent.B7 = true := by kernel_rfl
set_option maxHeartbeats 8000000 in
set_option maxRecDepth 100000 in
theorem impl_MeanDescent.calls (k : Nat) (A0_0 : Option Addr) (c0_0 : Nat) (l0_0 : List (S80)) (r1 : Int) (r2 : Int) (r3 : Bool) (w : World) (hr0_0 : Kd.C k80 w A0_0 l0_0.length l0_0) (hc0_0 : l0_0.length ≤ c0_0) (h : impl_MeanDescent.f k l0_0 = some (r1, r2, r3)) :
  Calls Try.prog 34 #[.agg #[.slice A0_0 l0_0.length c0_0]] w fun e w' => e = .returned (.tuple #[.agg #[.int .i64 r1, .int .i64 r2], .bool r3]) ∧ Below w.heap.size w w' := by
 have hu31 := Try.underlying31
 have hu26 := Try.underlying26
 have HR0_0 := aM_ hr0_0
 have HC0_0 := aM_ hc0_0
 clear hr0_0 hc0_0
 have HB := aM_ (Below.refl w.heap.size w)
 have H : ((impl_isDrawn.f k l0_0).bind fun t844 => (if t844 = true then ((impl_Trie_chances.f k l0_0).bind fun t845 => ((impl_Trie_words.f k l0_0).bind fun t849 => (impl_MeanDescent.l0 k t845 t849 (t849.length : Int) 0 0 1))) else (some (0, 0, false)))) = some (r1, r2, r3) := h
 clear h
 replace H := Option.bind_eq_some_iff.mp H
 obtain ⟨t844, A20, H⟩ := H
 try dsimp only at H
 have A2 := aM_ A20
 clear A20
 by_cases c3 : t844 = true
 ·
  subst c3
  rw [if_pos rfl] at H
  replace H := Option.bind_eq_some_iff.mp H
  obtain ⟨t845, A40, H⟩ := H
  try dsimp only at H
  have A4 := aM_ A40
  clear A40
  replace H := Option.bind_eq_some_iff.mp H
  obtain ⟨t849, A50, H⟩ := H
  try dsimp only at H
  have A5 := aM_ A50
  clear A50
  have H' := aM_ H
  clear H
  go_enter Try.func34, Try.ntmps34
  go_wp2_with (first | ((with_reducible refine gate_dst (N := 1) rfl ?_); refine box_event ?hg (N := 1) ?hd (cs := #[.slice A0_0 l0_0.length c0_0]) (t := 31) ?hr ?_; (case hd => rfl); (case hg => rfl); (case hr => first | (go_simp; done) | (go_simp; rfl)); intro gb842 hg w6 hbox hb; have BK842 := aM_ (hbox); have GW842 := aM_ ((by rw [hg]; exact (below_size HB.out) : w.heap.size ≤ gb842)); have GE842 := GW842; replace HB := aM_ (below_step HB.out hb); clear hb hbox hg) | ((with_reducible refine gate_dst (N := 2) rfl ?_); refine box_event ?hg (N := 2) ?hd (cs := #[.int .i64 0, .int .i64 0]) (t := 26) ?hr ?_; (case hd => rfl); (case hg => rfl); (case hr => first | (go_simp; done) | (go_simp; rfl)); intro gb843 hg w7 hbox hb; have BK843 := aM_ (hbox); have GW843 := aM_ ((by rw [hg]; exact (below_size HB.out) : w.heap.size ≤ gb843)); have GE843 := GW843; replace HB := aM_ (below_step HB.out hb); have NB842_843 := aM_ ((by rw [hg]; exact Nat.ne_of_lt (blk_lt BK842.out) : gb842 ≠ gb843)); have NB843_842 := aM_ NB842_843.out.symm; replace BK842 := aM_ (blk_below BK842.out hb); clear hb hbox hg; have hnb8 := NB842_843.out; have hnc8 := NB843_842.out; have hcz9_0 : w7.cell? ⟨gb842, 0, none⟩ = some (.slice A0_0 l0_0.length c0_0) := (blk_cell BK842.out 0).trans rfl; have hfz9_0 := blk_frozen BK842.out 0) | ((with_reducible refine gate_callee (f := 42) rfl ?_); refine goesL_ (some 9) rfl rfl Try.func42 (by kernel_rfl) rfl #[.agg #[.slice A0_0 l0_0.length c0_0]] rfl (by (try simp only [sD_, sE_, sF_]); first | done | rfl | (simp only [sG_, sH_]; rfl)) ?_; (with_reducible refine (impl_isDrawn.calls k _ _ l0_0 true _ ?side1 ?side2 A2.out).mono ?_); (case side1 => repeat (first | exact (Kd.C_below HR0_0.out HB.out) | (with_reducible refine Kd.C_alloc ?_ _) | (with_reducible refine Kd.C_drewN ?_ _) | (with_reducible refine Kd.C_drew ?_))); (case side2 => exact HC0_0.out); rintro e w10 ⟨rfl, hb⟩; refine ⟨_, rfl, ?_⟩; replace BK842 := aM_ (blk_below BK842.out hb); replace BK843 := aM_ (blk_below BK843.out hb); replace HB := aM_ (below_step HB.out hb); (try clear hb); (try clear hb2); (try clear hk); (try clear hi); have hcz11_0 : w10.cell? ⟨gb842, 0, none⟩ = some (.slice A0_0 l0_0.length c0_0) := (blk_cell BK842.out 0).trans rfl; have hfz11_0 := blk_frozen BK842.out 0) | ((with_reducible refine gate_callee (f := 71) rfl ?_); refine goesL_ (some 14) rfl rfl Try.func71 (by kernel_rfl) rfl #[.agg #[.slice A0_0 l0_0.length c0_0]] rfl (by (try simp only [sD_, sE_, sF_]); first | done | rfl | (simp only [sG_, sH_]; rfl)) ?_; (with_reducible refine (impl_Trie_chances.calls k _ _ l0_0 t845 _ ?side1 ?side2 A4.out).mono ?_); (case side1 => repeat (first | exact (Kd.C_below HR0_0.out HB.out) | (with_reducible refine Kd.C_alloc ?_ _) | (with_reducible refine Kd.C_drewN ?_ _) | (with_reducible refine Kd.C_drew ?_))); (case side2 => exact HC0_0.out); rintro e w12 ⟨v846, rfl, ho0, hb⟩; refine ⟨_, rfl, ?_⟩; have HO847 := aM_ (Kd.R_lower ho0 (below_size HB.out)); replace BK842 := aM_ (blk_below BK842.out hb); replace BK843 := aM_ (blk_below BK843.out hb); replace HB := aM_ (below_step HB.out hb); (try clear hb); (try clear hb2); (try clear hk); (try clear hi); (try clear ho0)) | ((with_reducible refine gate_dst (N := 4) rfl ?_); refine box_event ?hg (N := 4) ?hd (cs := #[.int .i64 0, .int .i64 0]) (t := 26) ?hr ?_; (case hd => rfl); (case hg => rfl); (case hr => first | (go_simp; done) | (go_simp; rfl)); intro gb848 hg w13 hbox hb; replace HO847 := aM_ (Kd.R_below HO847.out hb); have BK848 := aM_ (hbox); have GW848 := aM_ ((by rw [hg]; exact (below_size HB.out) : w.heap.size ≤ gb848)); have GE848 := GW848; replace HB := aM_ (below_step HB.out hb); have NB842_848 := aM_ ((by rw [hg]; exact Nat.ne_of_lt (blk_lt BK842.out) : gb842 ≠ gb848)); have NB848_842 := aM_ NB842_848.out.symm; replace BK842 := aM_ (blk_below BK842.out hb); have NB843_848 := aM_ ((by rw [hg]; exact Nat.ne_of_lt (blk_lt BK843.out) : gb843 ≠ gb848)); have NB848_843 := aM_ NB843_848.out.symm; replace BK843 := aM_ (blk_below BK843.out hb); clear hb hbox hg; have hnb14 := NB848_842.out; have hnc14 := NB842_848.out; have hnb15 := NB848_843.out; have hnc15 := NB843_848.out; have hcz16_0 : w13.cell? ⟨gb848, 0, none⟩ = some (.int .i64 0) := (blk_cell BK848.out 0).trans rfl; have hcz16_1 : w13.cell? ⟨gb848, 1, none⟩ = some (.int .i64 0) := (blk_cell BK848.out 1).trans rfl; have hfz16_0 := blk_frozen BK848.out 0; have hfz16_1 := blk_frozen BK848.out 1; have hcz17_0 : w13.cell? ⟨gb842, 0, none⟩ = some (.slice A0_0 l0_0.length c0_0) := (blk_cell BK842.out 0).trans rfl; have hfz17_0 := blk_frozen BK842.out 0) | ((with_reducible refine gate_callee (f := 49) rfl ?_); refine goesL_ (some 16) rfl rfl Try.func49 (by kernel_rfl) rfl #[.agg #[.slice A0_0 l0_0.length c0_0]] rfl (by (try simp only [sD_, sE_, sF_]); first | done | rfl | (simp only [sG_, sH_]; rfl)) ?_; (with_reducible refine (impl_Trie_words.calls k _ _ l0_0 t849 _ ?side1 ?side2 A5.out).mono ?_); (case side1 => exact Kd.C_below HR0_0.out (by repeat (first | (with_reducible first | exact HB.out | apply below_alloc | apply pw_below_drewN | apply below_drew1 | refine below_set ?_ GE842.out | refine below_set ?_ GE843.out | refine below_set ?_ GE848.out) | exact HB.out))); (case side2 => exact HC0_0.out); rintro e w18 ⟨v850, rfl, ho0, hb⟩; refine ⟨_, rfl, ?_⟩; replace HO847 := aM_ (Kd.R_below (by exact (Kd.R_mono (Kd.R_far (p := ⟨gb848, 1, none⟩) (Kd.R_far (p := ⟨gb848, 0, none⟩) (Kd.R_types HO847.out BK848.out (by decide)) (fun _ hk => hk.2) (.int .i64 0)) (fun _ hk => hk.2) (.int .i64 1)) (fun _ h_ => h_.1))) hb); have HO851 := aM_ (Kd.R_lower ho0 (below_size (by repeat (first | (with_reducible first | exact HB.out | apply below_alloc | apply pw_below_drewN | apply below_drew1 | refine below_set ?_ GE842.out | refine below_set ?_ GE843.out | refine below_set ?_ GE848.out) | exact HB.out)))); replace BK842 := aM_ (blk_below (g := gb842) (o := .cells #[.slice A0_0 l0_0.length c0_0] 31 (0, 0)) (by refine blk_far ?_ NB842_848.out _; refine blk_far ?_ NB842_848.out _; exact BK842.out) hb); replace BK843 := aM_ (blk_below (g := gb843) (o := .cells #[.int .i64 0, .int .i64 0] 26 (0, 0)) (by refine blk_far ?_ NB843_848.out _; refine blk_far ?_ NB843_848.out _; exact BK843.out) hb); replace BK848 := aM_ (blk_below (g := gb848) (o := .cells #[.int .i64 0, .int .i64 1] 26 (0, 0)) (by refine blk_put (cs := #[.int .i64 0, .int .i64 0]) ?_ 1 _ rfl; refine blk_put (cs := #[.int .i64 0, .int .i64 0]) ?_ 0 _ rfl; exact BK848.out) hb); replace HB := aM_ (below_step (by repeat (first | (with_reducible first | exact HB.out | apply below_alloc | apply pw_below_drewN | apply below_drew1 | refine below_set ?_ GE842.out | refine below_set ?_ GE843.out | refine below_set ?_ GE848.out) | exact HB.out)) hb); (try clear hb); (try clear hb2); (try clear hk); (try clear hi); (try clear ho0); obtain ⟨Ao19, co19, eo19⟩ := Kd.R_slice HO851.out; subst eo19))
  go_loopg [18] k (fun kq v18 w' => ∃ (x18_1 : Int) (x849000_1 : Int) (x849001_1 : Int), v18 = .int .i64 x18_1 ∧ Aside0 (impl_MeanDescent.l0 kq t845 t849 (t849.length : Int) x18_1 x849000_1 x849001_1 = some (r1, r2, r3)) ∧ Aside0 (kq ≤ k) ∧ Aside0 (Kd.R (Kd.int .i64) 3 w' w.heap.size (fun _ => True) v846 t845) ∧ Aside0 (Kd.R Kd.string 9 w' w.heap.size (fun _ => True) (.slice Ao19 t849.length co19) t849) ∧ Aside0 (w'.heap[gb842]? = some (.cells #[(.slice A0_0 l0_0.length c0_0)] 31 (0, 0))) ∧ Aside0 (w'.heap[gb843]? = some (.cells #[.int .i64 0, .int .i64 0] 26 (0, 0))) ∧ Aside0 (w'.heap[gb848]? = some (.cells #[.int .i64 x849000_1, .int .i64 x849001_1] 26 (0, 0))) ∧ Aside0 (Below w.heap.size w w'))
  case atStart => exact ⟨(0), (0), (1), (by first | rfl | (simp; done) | (simp [*]; done)), H', ⟨Nat.le_refl _⟩, ⟨HO847.out⟩, ⟨HO851.out⟩, ⟨BK842.out⟩, ⟨BK843.out⟩, ⟨BK848.out⟩, ⟨HB.out⟩⟩
  case round =>
   clear H'
   try clear c1
   try clear p2
   try clear c3
   try clear c4
   try clear c7
   try clear c8
   try clear c14
   try clear c15
   try clear hcz11_0
   try clear hcz16_0
   try clear hcz16_1
   try clear hcz17_0
   try clear hcz9_0
   try clear hfz11_0
   try clear hfz16_0
   try clear hfz16_1
   try clear hfz17_0
   try clear hfz9_0
   obtain ⟨x18_1, x849000_1, x849001_1, rfl, HA, HK1, HO_5, HO_16, BK842, BK843, BK848, HB⟩ := hrel
   cases gk with
   | zero => exact absurd HA.out (by simp [impl_MeanDescent.l0])
   | succ k1 =>
    have H := HA.out
    clear HA
    simp only [impl_MeanDescent.l0] at H
    by_cases c20 : x18_1 < (t849.length : Int)
    ·
     rw [if_pos c20] at H
     have c20b0 := decide_eq_true c20
     clear c20
     by_cases c21 : 0 ≤ x18_1
     ·
      rw [if_pos c21] at H
      have c21b0 := decide_eq_true c21
      clear c21
      by_cases c22 : x18_1 < (t849.length : Int)
      ·
       rw [if_pos c22] at H
       have c22b0 := decide_eq_true c22
       clear c22
       by_cases c23 : x18_1 < (t845.length : Int)
       ·
        rw [if_pos c23] at H
        have c23b0 := decide_eq_true c23
        clear c23
        replace H := Option.bind_eq_some_iff.mp H
        obtain ⟨⟨t854, t855⟩, A240, H⟩ := H
        try dsimp only at H
        have A24 := aM_ A240
        clear A240
        replace H := Option.bind_eq_some_iff.mp H
        obtain ⟨⟨t856, t857⟩, A250, H⟩ := H
        try dsimp only at H
        have A25 := aM_ A250
        clear A250
        have H' := aM_ H
        clear H
        have p852 : 0 ≤ (x18_1 : Int) := of_decide_eq_true (by first | (with_reducible assumption) | assumption)
        have q852 : x18_1 < (t849.length : Int) := of_decide_eq_true (by first | (with_reducible assumption) | assumption)
        obtain ⟨ad852, e852, hx852_0⟩ := Kd.at_string (Kd.R_reads' HO_16.out).2.2 x18_1 p852 q852
        cases e852
        replace p852 := eq_true p852
        replace q852 := eq_true q852
        try go_wp2
        have n0_ := aM_ (Kd.R_drew HO_5.out)
        have n1_ := aM_ (Kd.R_drew HO_16.out)
        have n2_ := aM_ (blk_drew BK842.out)
        have n3_ := aM_ (blk_drew BK843.out)
        have n4_ := aM_ (blk_drew BK848.out)
        have n5_ := aM_ (below_drew1 HB.out)
        clear HO_5
        clear HO_16
        clear BK842
        clear BK843
        clear BK848
        clear HB
        have HO_5 := n0_
        have HO_16 := n1_
        have BK842 := n2_
        have BK843 := n3_
        have BK848 := n4_
        have HB := n5_
        clear n0_ n1_ n2_ n3_ n4_ n5_
        obtain ⟨Ao27, co27, eo27⟩ := Kd.R_slice HO_5.out
        (first | subst eo27 | (injection eo27 with f1_ f2_ f3_; have f4_ := f1_.symm; have f5_ := f3_.symm; clear f1_ f2_ f3_; subst f4_; subst f5_))
        have p853 : 0 ≤ (x18_1 : Int) := of_decide_eq_true (by first | (with_reducible assumption) | assumption)
        have q853 : x18_1 < (t845.length : Int) := of_decide_eq_true (by first | (with_reducible assumption) | assumption)
        obtain ⟨ad853, e853, hx853_0⟩ := Kd.at_int (Kd.R_reads' HO_5.out).2.2 x18_1 p853 q853
        cases e853
        replace p853 := eq_true p853
        replace q853 := eq_true q853
        refine start_ (n := 10) (S := fun w' => w'.cell? ⟨gb848, 0, none⟩ = some (.int .i64 x849000_1) ∧ w'.cell? ⟨gb848, 1, none⟩ = some (.int .i64 x849001_1) ∧ w'.cell? (ad853.add (x18_1).toNat) = some (.int .i64 (rd t845 x18_1))) (ds := [9]) #[fy, fy, fy, fy, fy, fy, fy, fy, fy, fy] (by kernel_rfl) rfl rfl ⟨(blk_cell BK848.out 0).trans rfl, (blk_cell BK848.out 1).trans rfl, hx853_0⟩ (fun hHeld => ?_); refine with_tabW impl_MeanDescent.tab7 impl_MeanDescent.bits7 (fun HT_ HW_ => ?_)
        generalize wr.drew = w26 at HO_5 HO_16 BK842 BK843 BK848 HB hx853_0 hHeld ⊢
        refine pure_ (i := 1) (N := some 24) (v := ?_) (a' := ?_) #[fy, ty, fy, fy, fy, fy, fy, fy, fy, fy] rfl rfl (any_of HT_.out (by kernel_rfl)) (fun _ _ _ h => h) (Or.inl ⟨by rfl, ?_⟩) ?_ ?_; rotate_left; (intro w'; go_simp; with_reducible rfl); rotate_left; (simp only [Act.put, sA_, sB_, sC_, i64_w, i32_w]; rfl)
        refine pure_ (i := 2) (N := some 25) (v := ?_) (a' := ?_) #[fy, ty, ty, fy, fy, fy, fy, fy, fy, fy] rfl rfl (any_of HT_.out (by kernel_rfl)) (fun _ _ _ h => h) (Or.inl ⟨by rfl, ?_⟩) ?_ ?_; rotate_left; (intro w'; go_simp; with_reducible rfl); rotate_left; (simp only [Act.put, sA_, sB_, sC_, i64_w, i32_w]; rfl)
        refine pure_ (i := 3) (N := some 26) (v := ?_) (a' := ?_) #[fy, ty, ty, ty, fy, fy, fy, fy, fy, fy] rfl rfl (any_of HT_.out (by kernel_rfl)) (fun _ _ _ h => h) (Or.inl ⟨by rfl, ?_⟩) ?_ ?_; rotate_left; (intro w'; go_simp; with_reducible rfl); rotate_left; (simp only [Act.put, sA_, sB_, sC_, i64_w, i32_w]; rfl)
        refine pure_ (i := 4) (N := some 27) (v := ?_) (a' := ?_) #[fy, ty, ty, ty, ty, fy, fy, fy, fy, fy] rfl rfl (any_of HT_.out (by kernel_rfl)) (fun _ _ _ h => h) (Or.inl ⟨by rfl, ?_⟩) ?_ ?_; rotate_left; (intro w'; go_simp; with_reducible rfl); rotate_left; (simp only [Act.put, sA_, sB_, sC_, i64_w, i32_w]; rfl)
        refine pure_ (i := 5) (N := some 28) (v := ?_) (a' := ?_) #[fy, ty, ty, ty, ty, ty, fy, fy, fy, fy] rfl rfl (any_of HT_.out (by kernel_rfl)) (fun _ _ _ h => h) (Or.inl ⟨by rfl, ?_⟩) ?_ ?_; rotate_left; (intro w'; go_simp; with_reducible rfl); rotate_left; (simp only [Act.put, sA_, sB_, sC_, i64_w, i32_w]; rfl)
        refine take_ (i := 0) (N := some 23) (v := ?_) (a' := ?_) #[ty, ty, ty, ty, ty, ty, fy, fy, fy, fy] rfl rfl (take_ofW HT_.out HW_.out (by kernel_rfl)) (fun _ _ _ h => h) (Or.inl ⟨by rfl, ?_⟩) hHeld ?_ ?_; rotate_left; (rintro w' ⟨s0, s1, s2⟩; go_simp; with_reducible rfl); rotate_left; (simp only [Act.put, sA_, sB_, sC_, i64_w, i32_w]; rfl)
        refine take_ (i := 6) (N := some 29) (v := ?_) (a' := ?_) #[ty, ty, ty, ty, ty, ty, ty, fy, fy, fy] rfl rfl (take_ofW HT_.out HW_.out (by kernel_rfl)) (fun _ _ _ h => h) (Or.inl ⟨by rfl, ?_⟩) hHeld ?_ ?_; rotate_left; (rintro w' ⟨s0, s1, s2⟩; go_simp; with_reducible rfl); rotate_left; (simp only [Act.put, sA_, sB_, sC_, i64_w, i32_w]; rfl)
        refine one_ (i := 7) (N := some 30) #[ty, ty, ty, ty, ty, ty, ty, ty, fy, fy] rfl rfl (one_of HT_.out (by kernel_rfl)) (by decide) (fun K hK => ?_)
        refine goes_ Try.func51 (by kernel_rfl) rfl #[.int .i64 ((rdOf ByteArray.empty t849 x18_1).size : Int), .int .i64 (rd t845 x18_1)] (by rfl) rfl rfl (by (try simp only [sD_, sE_, sF_]); first | done | rfl | (simp only [sG_, sH_]; rfl)) ?_
        with_reducible refine (impl_fraction.calls k1 ((rdOf ByteArray.empty t849 x18_1).size : Int) (rd t845 x18_1) t854 t855 _ A24.out).mono ?_
        rintro e w28 ⟨rfl, hb⟩
        have HS2_ := (hb.cell (World.block_lt_of_cell? _ _ (hHeld.2.2))).trans (hHeld.2.2)
        refine ⟨_, rfl, ?_⟩
        have n0_ := aM_ (Kd.R_below HO_5.out hb)
        have n1_ := aM_ (Kd.R_below HO_16.out hb)
        have n2_ := aM_ (blk_below BK842.out hb)
        have n3_ := aM_ (blk_below BK843.out hb)
        have n4_ := aM_ (blk_below BK848.out hb)
        have n5_ := aM_ (below_step HB.out hb)
        clear HO_5
        clear HO_16
        clear BK842
        clear BK843
        clear BK848
        clear HB
        have HO_5 := n0_
        have HO_16 := n1_
        have BK842 := n2_
        have BK843 := n3_
        have BK848 := n4_
        have HB := n5_
        clear n0_ n1_ n2_ n3_ n4_ n5_
        (try clear hb)
        (try clear hb2)
        (try clear hk)
        (try clear hi)
        refine hK.out _ _ ⟨(blk_cell BK848.out 0).trans rfl, (blk_cell BK848.out 1).trans rfl, HS2_⟩ (fun hHeld => ?_)
        clear hK K
        refine norm_ (a' := ?_) ?_ ?_; rotate_left; (show Act.put _ (some 30) _ = _; simp only [Act.put, sA_, sB_, sC_, i64_w, i32_w]; rfl)
        refine one_ (i := 8) (N := some 31) #[ty, ty, ty, ty, ty, ty, ty, ty, ty, fy] rfl rfl (one_of HT_.out (by kernel_rfl)) (by decide) (fun K hK => ?_)
        refine goes_ Try.func75 (by kernel_rfl) rfl #[.agg #[.int .i64 x849000_1, .int .i64 x849001_1], .agg #[.int .i64 t854, .int .i64 t855]] (by rfl) rfl rfl (by (try simp only [sD_, sE_, sF_]); first | done | rfl | (simp only [sG_, sH_]; rfl)) ?_
        with_reducible refine (impl_plus.calls k1 x849000_1 x849001_1 t854 t855 t856 t857 _ A25.out).mono ?_
        rintro e w29 ⟨rfl, hb⟩
        have HS2_ := (hb.cell (World.block_lt_of_cell? _ _ (hHeld.2.2))).trans (hHeld.2.2)
        refine ⟨_, rfl, ?_⟩
        have n0_ := aM_ (Kd.R_below HO_5.out hb)
        have n1_ := aM_ (Kd.R_below HO_16.out hb)
        have n2_ := aM_ (blk_below BK842.out hb)
        have n3_ := aM_ (blk_below BK843.out hb)
        have n4_ := aM_ (blk_below BK848.out hb)
        have n5_ := aM_ (below_step HB.out hb)
        clear HO_5
        clear HO_16
        clear BK842
        clear BK843
        clear BK848
        clear HB
        have HO_5 := n0_
        have HO_16 := n1_
        have BK842 := n2_
        have BK843 := n3_
        have BK848 := n4_
        have HB := n5_
        clear n0_ n1_ n2_ n3_ n4_ n5_
        (try clear hb)
        (try clear hb2)
        (try clear hk)
        (try clear hi)
        refine hK.out _ _ ⟨(blk_cell BK848.out 0).trans rfl, (blk_cell BK848.out 1).trans rfl, HS2_⟩ (fun hHeld => ?_)
        clear hK K
        refine norm_ (a' := ?_) ?_ ?_; rotate_left; (show Act.put _ (some 31) _ = _; simp only [Act.put, sA_, sB_, sC_, i64_w, i32_w]; rfl)
        refine last_ (i := 9) (N := none) #[ty, ty, ty, ty, ty, ty, ty, ty, ty, ty] rfl rfl (one_of HT_.out (by kernel_rfl)) (by decide) (fun K hK => ?_)
        have hs30 : w29.cell? ⟨gb848, 0, none⟩ = some (.int .i64 x849000_1) := (blk_cell BK848.out 0).trans rfl
        have hfs30 := blk_frozen BK848.out 0
        have hns30_0 := NB842_848.out
        have hns30_1 := NB843_848.out
        have hms30_0 := NB848_842.out
        have hms30_1 := NB848_843.out
        have hs31 : w29.cell? ⟨gb848, 1, none⟩ = some (.int .i64 x849001_1) := (blk_cell BK848.out 1).trans rfl
        have hfs31 := blk_frozen BK848.out 1
        have hns31_0 := NB842_848.out
        have hns31_1 := NB843_848.out
        have hms31_0 := NB848_842.out
        have hms31_1 := NB848_843.out
        refine skip_ (w1 := ?_) (by rfl) rfl ?_ ?_
        rotate_left
        ·
         go_simp
         rfl
        refine hK.out _ _ ?_
        clear hK K
        refine done_ (done_of HT_.out (by kernel_rfl)) ?_
        try go_wp2
        go_roundg k1
        case measure => have := HK1.out; omega
        case rel => exact ⟨(wrap64 (x18_1 + 1)), (t856), (t857), (by first | rfl | (simp; done) | (simp [*]; done)), H', ⟨by have := HK1.out; omega⟩, ⟨by exact Kd.R_mono (Kd.R_far (p := ⟨gb848, 1, none⟩) (Kd.R_far (p := ⟨gb848, 0, none⟩) (Kd.R_types HO_5.out BK848.out (by decide)) (fun _ hk => hk.2) (.int .i64 t856)) (fun _ hk => hk.2) (.int .i64 t857)) (fun _ hk => trivial)⟩, ⟨by exact Kd.R_mono (Kd.R_far (p := ⟨gb848, 1, none⟩) (Kd.R_far (p := ⟨gb848, 0, none⟩) (Kd.R_types HO_16.out BK848.out (by decide)) (fun _ hk => hk.2) (.int .i64 t856)) (fun _ hk => hk.2) (.int .i64 t857)) (fun _ hk => trivial)⟩, ⟨by refine blk_far ?_ NB842_848.out _; refine blk_far ?_ NB842_848.out _; exact BK842.out⟩, ⟨by refine blk_far ?_ NB843_848.out _; refine blk_far ?_ NB843_848.out _; exact BK843.out⟩, ⟨by refine blk_put (cs := #[.int .i64 t856, .int .i64 x849001_1]) ?_ 1 _ rfl; refine blk_put (cs := #[.int .i64 x849000_1, .int .i64 x849001_1]) ?_ 0 _ rfl; exact BK848.out⟩, ⟨by repeat (first | (with_reducible first | exact HB.out | apply below_alloc | apply pw_below_drewN | apply below_drew1 | refine below_set ?_ GE842.out | refine below_set ?_ GE843.out | refine below_set ?_ GE848.out) | exact HB.out)⟩⟩
       ·
        rw [if_neg c23] at H
        exact absurd H (by simp)
      ·
       rw [if_neg c22] at H
       exact absurd H (by simp)
     ·
      rw [if_neg c21] at H
      exact absurd H (by simp)
    ·
     rw [if_neg c20] at H
     have c20b0 := decide_eq_false c20
     clear c20
     simp only [Option.some.injEq, Prod.mk.injEq] at H
     obtain ⟨rfl, rfl, rfl⟩ := H
     have hnb32 := NB848_842.out
     have hnc32 := NB842_848.out
     have hnb33 := NB848_843.out
     have hnc33 := NB843_848.out
     have hcz34_0 : wr.cell? ⟨gb848, 0, none⟩ = some (.int .i64 x849000_1) := (blk_cell BK848.out 0).trans rfl
     have hcz34_1 : wr.cell? ⟨gb848, 1, none⟩ = some (.int .i64 x849001_1) := (blk_cell BK848.out 1).trans rfl
     have hfz34_0 := blk_frozen BK848.out 0
     have hfz34_1 := blk_frozen BK848.out 1
     have hnb35 := NB843_842.out
     have hnc35 := NB842_843.out
     have hcz36_0 : wr.cell? ⟨gb843, 0, none⟩ = some (.int .i64 0) := (blk_cell BK843.out 0).trans rfl
     have hcz36_1 : wr.cell? ⟨gb843, 1, none⟩ = some (.int .i64 0) := (blk_cell BK843.out 1).trans rfl
     have hfz36_0 := blk_frozen BK843.out 0
     have hfz36_1 := blk_frozen BK843.out 1
     go_wp2
     refine bodyPost_ret (results_ct rfl _ _ gb843 26 #[.int .i64 x849000_1, .int .i64 x849001_1] (0, 0) _ rfl (by refine blk_put (cs := #[.int .i64 x849000_1, .int .i64 0]) ?_ 1 _ rfl; refine blk_put (cs := #[.int .i64 0, .int .i64 0]) ?_ 0 _ rfl; exact BK843.out) Try.underlying26 rfl (by kernel_rfl)) rfl ?_
     exact ⟨by first | rfl | (simp [errW_none, errW_some] <;> rfl) | (simp [*, errW_none, errW_some] <;> rfl), by repeat (first | (with_reducible first | exact HB.out | apply below_alloc | apply pw_below_drewN | apply below_drew1 | refine below_set ?_ GE842.out | refine below_set ?_ GE843.out | refine below_set ?_ GE848.out) | exact HB.out)⟩
 ·
  replace c3 := Bool.eq_false_iff.mpr c3
  subst c3
  have H1 : (some (0, 0, false)) = some (r1, r2, r3) := by rw [if_neg (show ¬ (false = true) by decide)] at H; exact H
  clear H
  have H := H1
  clear H1
  simp only [Option.some.injEq, Prod.mk.injEq] at H
  obtain ⟨rfl, rfl, rfl⟩ := H
  go_enter Try.func34, Try.ntmps34
  go_wp2_with (first | ((with_reducible refine gate_dst (N := 1) rfl ?_); refine box_event ?hg (N := 1) ?hd (cs := #[.slice A0_0 l0_0.length c0_0]) (t := 31) ?hr ?_; (case hd => rfl); (case hg => rfl); (case hr => first | (go_simp; done) | (go_simp; rfl)); intro gb842 hg w37 hbox hb; have BK842 := aM_ (hbox); have GW842 := aM_ ((by rw [hg]; exact (below_size HB.out) : w.heap.size ≤ gb842)); have GE842 := GW842; replace HB := aM_ (below_step HB.out hb); clear hb hbox hg) | ((with_reducible refine gate_dst (N := 2) rfl ?_); refine box_event ?hg (N := 2) ?hd (cs := #[.int .i64 0, .int .i64 0]) (t := 26) ?hr ?_; (case hd => rfl); (case hg => rfl); (case hr => first | (go_simp; done) | (go_simp; rfl)); intro gb843 hg w38 hbox hb; have BK843 := aM_ (hbox); have GW843 := aM_ ((by rw [hg]; exact (below_size HB.out) : w.heap.size ≤ gb843)); have GE843 := GW843; replace HB := aM_ (below_step HB.out hb); have NB842_843 := aM_ ((by rw [hg]; exact Nat.ne_of_lt (blk_lt BK842.out) : gb842 ≠ gb843)); have NB843_842 := aM_ NB842_843.out.symm; replace BK842 := aM_ (blk_below BK842.out hb); clear hb hbox hg; have hnb39 := NB842_843.out; have hnc39 := NB843_842.out; have hcz40_0 : w38.cell? ⟨gb842, 0, none⟩ = some (.slice A0_0 l0_0.length c0_0) := (blk_cell BK842.out 0).trans rfl; have hfz40_0 := blk_frozen BK842.out 0) | ((with_reducible refine gate_callee (f := 42) rfl ?_); refine goesL_ (some 9) rfl rfl Try.func42 (by kernel_rfl) rfl #[.agg #[.slice A0_0 l0_0.length c0_0]] rfl (by (try simp only [sD_, sE_, sF_]); first | done | rfl | (simp only [sG_, sH_]; rfl)) ?_; (with_reducible refine (impl_isDrawn.calls k _ _ l0_0 false _ ?side1 ?side2 A2.out).mono ?_); (case side1 => repeat (first | exact (Kd.C_below HR0_0.out HB.out) | (with_reducible refine Kd.C_alloc ?_ _) | (with_reducible refine Kd.C_drewN ?_ _) | (with_reducible refine Kd.C_drew ?_))); (case side2 => exact HC0_0.out); rintro e w41 ⟨rfl, hb⟩; refine ⟨_, rfl, ?_⟩; replace BK842 := aM_ (blk_below BK842.out hb); replace BK843 := aM_ (blk_below BK843.out hb); replace HB := aM_ (below_step HB.out hb); (try clear hb); (try clear hb2); (try clear hk); (try clear hi); have hcz42_0 : w41.cell? ⟨gb843, 0, none⟩ = some (.int .i64 0) := (blk_cell BK843.out 0).trans rfl; have hcz42_1 : w41.cell? ⟨gb843, 1, none⟩ = some (.int .i64 0) := (blk_cell BK843.out 1).trans rfl; have hfz42_0 := blk_frozen BK843.out 0; have hfz42_1 := blk_frozen BK843.out 1))
  refine bodyPost_ret (results_ct rfl _ _ gb843 26 #[.int .i64 0, .int .i64 0] (0, 0) _ rfl (by refine blk_put (cs := #[.int .i64 0, .int .i64 0]) ?_ 1 _ rfl; refine blk_put (cs := #[.int .i64 0, .int .i64 0]) ?_ 0 _ rfl; exact BK843.out) Try.underlying26 rfl (by kernel_rfl)) rfl ?_
  exact ⟨by first | rfl | (simp [errW_none, errW_some] <;> rfl) | (simp [*, errW_none, errW_some] <;> rfl), by repeat (first | (with_reducible first | exact HB.out | apply below_alloc | apply pw_below_drewN | apply below_drew1 | refine below_set ?_ GE842.out | refine below_set ?_ GE843.out) | exact HB.out)⟩
def laws_FnExactMeanDescent.j0 : Nat → Bool → List (S82) → List (S80) → Option (Bool)
 | 0, _, _, _ => none
 | k + 1, x35, x859000, x871000 => if x35 = true then (some false) else ((laws_toTrie.f k x859000).bind fun t876 => ((laws_eqTrie.f k x871000 t876).bind fun t879 => (if t879 = true then (some true) else (some false))))
def laws_FnExactMeanDescent.f (k : Nat) (l0_0 : List (S82)) : Option (Bool) := (laws_szTrie.f l0_0 1048576).bind fun t859 => (if t859 < 0 then (some true) else ((laws_toTrie.f k l0_0).bind fun t860 => ((spec_MeanDescent.f k t860).bind fun bt863 => ((laws_toTrie.f k l0_0).bind fun t867 => ((impl_MeanDescent.f k t867).bind fun bt871 => ((laws_eqIntA2.f bt871.1 bt871.2.1 bt863.1 bt863.2.1).bind fun t875 => (if t875 = true then (laws_FnExactMeanDescent.j0 k (bt871.2.2 != bt863.2.2) l0_0 t867) else (laws_FnExactMeanDescent.j0 k true l0_0 t867))))))))
theorem laws_FnExactMeanDescent.mono_l : ∀ k, (∀ y0 y1 y2, LeO (laws_FnExactMeanDescent.j0 k y0 y1 y2) (laws_FnExactMeanDescent.j0 (k + 1) y0 y1 y2))
 | 0 => fun _ _ _ r h => by simp [laws_FnExactMeanDescent.j0] at h
 | k + 1 => by
  have ih0 := laws_FnExactMeanDescent.mono_l k
  ·
   intro y0 y1 y2
   unfold laws_FnExactMeanDescent.j0
   repeat' first
   | (with_reducible exact ih0 _ _ _)
   | (with_reducible exact impl_MeanDescent.mono _ _)
   | (with_reducible exact laws_eqTrie.mono _ _ _)
   | (with_reducible exact laws_toTrie.mono _ _)
   | (with_reducible exact spec_MeanDescent.mono _ _)
   | (with_reducible exact LeO.refl _)
   | (with_reducible exact LeO.none _)
   | (with_reducible refine LeO.ite ?_ ?_)
   | (with_reducible refine LeO.bind ?_ (fun _ => ?_))
   | exact ih0 _ _ _
   | exact impl_MeanDescent.mono _ _
   | exact laws_eqTrie.mono _ _ _
   | exact laws_toTrie.mono _ _
   | exact spec_MeanDescent.mono _ _
   | exact LeO.none _
   | refine LeO.ite ?_ ?_
   | refine LeO.bind ?_ (fun _ => ?_)
theorem laws_FnExactMeanDescent.mono : ∀ a0 k, LeO (laws_FnExactMeanDescent.f k a0) (laws_FnExactMeanDescent.f (k + 1) a0) := by
 intro a0 k
 have ih0 := laws_FnExactMeanDescent.mono_l k
 unfold laws_FnExactMeanDescent.f
 repeat' first
   | (with_reducible exact ih0 _ _ _)
   | (with_reducible exact impl_MeanDescent.mono _ _)
   | (with_reducible exact laws_eqTrie.mono _ _ _)
   | (with_reducible exact laws_toTrie.mono _ _)
   | (with_reducible exact spec_MeanDescent.mono _ _)
   | (with_reducible exact LeO.refl _)
   | (with_reducible exact LeO.none _)
   | (with_reducible refine LeO.ite ?_ ?_)
   | (with_reducible refine LeO.bind ?_ (fun _ => ?_))
   | exact ih0 _ _ _
   | exact impl_MeanDescent.mono _ _
   | exact laws_eqTrie.mono _ _ _
   | exact laws_toTrie.mono _ _
   | exact spec_MeanDescent.mono _ _
   | exact LeO.none _
   | refine LeO.ite ?_ ?_
   | refine LeO.bind ?_ (fun _ => ?_)
set_option maxHeartbeats 8000000 in
set_option maxRecDepth 100000 in
theorem laws_FnExactMeanDescent.calls (k : Nat) (A0_0 : Option Addr) (c0_0 : Nat) (l0_0 : List (S82)) (r : Bool) (w : World) (hr0_0 : Kd.C k82 w A0_0 l0_0.length l0_0) (hc0_0 : l0_0.length ≤ c0_0) (h : laws_FnExactMeanDescent.f k l0_0 = some r) :
  Calls Try.prog 11 #[.agg #[.slice A0_0 l0_0.length c0_0]] w fun e w' => e = .returned (.bool r) ∧ Below w.heap.size w w' := by
 have hu24 := Try.underlying24
 have hu26 := Try.underlying26
 have hu31 := Try.underlying31
 have HR0_0 := aM_ hr0_0
 have HC0_0 := aM_ hc0_0
 clear hr0_0 hc0_0
 have HB := aM_ (Below.refl w.heap.size w)
 have H : ((laws_szTrie.f l0_0 1048576).bind fun t859 => (if t859 < 0 then (some true) else ((laws_toTrie.f k l0_0).bind fun t860 => ((spec_MeanDescent.f k t860).bind fun bt863 => ((laws_toTrie.f k l0_0).bind fun t867 => ((impl_MeanDescent.f k t867).bind fun bt871 => ((laws_eqIntA2.f bt871.1 bt871.2.1 bt863.1 bt863.2.1).bind fun t875 => (if t875 = true then (laws_FnExactMeanDescent.j0 k (bt871.2.2 != bt863.2.2) l0_0 t867) else (laws_FnExactMeanDescent.j0 k true l0_0 t867))))))))) = some r := h
 clear h
 replace H := Option.bind_eq_some_iff.mp H
 obtain ⟨t859, A20, H⟩ := H
 try dsimp only at H
 have A2 := aM_ A20
 clear A20
 by_cases c3 : t859 < 0
 ·
  rw [if_pos c3] at H
  have c3b0 := decide_eq_true c3
  clear c3
  obtain rfl := Option.some.inj H
  go_enter Try.func11, Try.ntmps11
  go_wp2_with (first | ((with_reducible refine gate_dst (N := 1) rfl ?_); refine box_event ?hg (N := 1) ?hd (cs := #[.slice A0_0 l0_0.length c0_0]) (t := 24) ?hr ?_; (case hd => rfl); (case hg => rfl); (case hr => first | (go_simp; done) | (go_simp; rfl)); intro gb858 hg w4 hbox hb; have BK858 := aM_ (hbox); have GW858 := aM_ ((by rw [hg]; exact (below_size HB.out) : w.heap.size ≤ gb858)); have GE858 := GW858; replace HB := aM_ (below_step HB.out hb); clear hb hbox hg; have hcz5_0 : w4.cell? ⟨gb858, 0, none⟩ = some (.slice A0_0 l0_0.length c0_0) := (blk_cell BK858.out 0).trans rfl; have hfz5_0 := blk_frozen BK858.out 0) | ((with_reducible refine gate_callee (f := 13) rfl ?_); refine goesL_ (some 11) rfl rfl Try.func13 (by kernel_rfl) rfl #[.agg #[.slice A0_0 l0_0.length c0_0], .int .i64 1048576] rfl (by (try simp only [sD_, sE_, sF_]); first | done | rfl | (simp only [sG_, sH_]; rfl)) ?_; (with_reducible refine (laws_szTrie.calls _ _ l0_0 1048576 t859 _ ?side1 ?side2 A2.out).mono ?_); (case side1 => repeat (first | exact (Kd.C_below HR0_0.out HB.out) | (with_reducible refine Kd.C_alloc ?_ _) | (with_reducible refine Kd.C_drewN ?_ _) | (with_reducible refine Kd.C_drew ?_))); (case side2 => exact HC0_0.out); rintro e w6 ⟨rfl, hb⟩; refine ⟨_, rfl, ?_⟩; replace BK858 := aM_ (blk_below BK858.out hb); replace HB := aM_ (below_step HB.out hb); (try clear hb); (try clear hb2); (try clear hk); (try clear hi)))
  go_ret
  exact ⟨by first | rfl | (simp [errW_none, errW_some] <;> rfl) | (simp [*, errW_none, errW_some] <;> rfl), by exact HB.out⟩
 ·
  rw [if_neg c3] at H
  have c3b0 := decide_eq_false c3
  clear c3
  replace H := Option.bind_eq_some_iff.mp H
  obtain ⟨t860, A70, H⟩ := H
  try dsimp only at H
  have A7 := aM_ A70
  clear A70
  replace H := Option.bind_eq_some_iff.mp H
  obtain ⟨⟨t863, t864, t865⟩, A80, H⟩ := H
  try dsimp only at H
  have A8 := aM_ A80
  clear A80
  replace H := Option.bind_eq_some_iff.mp H
  obtain ⟨t867, A90, H⟩ := H
  try dsimp only at H
  have A9 := aM_ A90
  clear A90
  replace H := Option.bind_eq_some_iff.mp H
  obtain ⟨⟨t871, t872, t873⟩, A100, H⟩ := H
  try dsimp only at H
  have A10 := aM_ A100
  clear A100
  have HC11 := aM_ H
  clear H
  go_enter Try.func11, Try.ntmps11
  go_upto_region 8 with (first | ((with_reducible refine gate_dst (N := 1) rfl ?_); refine box_event ?hg (N := 1) ?hd (cs := #[.slice A0_0 l0_0.length c0_0]) (t := 24) ?hr ?_; (case hd => rfl); (case hg => rfl); (case hr => first | (go_simp; done) | (go_simp; rfl)); intro gb858 hg w12 hbox hb; have BK858 := aM_ (hbox); have GW858 := aM_ ((by rw [hg]; exact (below_size HB.out) : w.heap.size ≤ gb858)); have GE858 := GW858; replace HB := aM_ (below_step HB.out hb); clear hb hbox hg; have hcz13_0 : w12.cell? ⟨gb858, 0, none⟩ = some (.slice A0_0 l0_0.length c0_0) := (blk_cell BK858.out 0).trans rfl; have hfz13_0 := blk_frozen BK858.out 0) | ((with_reducible refine gate_callee (f := 13) rfl ?_); refine goesL_ (some 11) rfl rfl Try.func13 (by kernel_rfl) rfl #[.agg #[.slice A0_0 l0_0.length c0_0], .int .i64 1048576] rfl (by (try simp only [sD_, sE_, sF_]); first | done | rfl | (simp only [sG_, sH_]; rfl)) ?_; (with_reducible refine (laws_szTrie.calls _ _ l0_0 1048576 t859 _ ?side1 ?side2 A2.out).mono ?_); (case side1 => repeat (first | exact (Kd.C_below HR0_0.out HB.out) | (with_reducible refine Kd.C_alloc ?_ _) | (with_reducible refine Kd.C_drewN ?_ _) | (with_reducible refine Kd.C_drew ?_))); (case side2 => exact HC0_0.out); rintro e w14 ⟨rfl, hb⟩; refine ⟨_, rfl, ?_⟩; replace BK858 := aM_ (blk_below BK858.out hb); replace HB := aM_ (below_step HB.out hb); (try clear hb); (try clear hb2); (try clear hk); (try clear hi); have hcz15_0 : w14.cell? ⟨gb858, 0, none⟩ = some (.slice A0_0 l0_0.length c0_0) := (blk_cell BK858.out 0).trans rfl; have hfz15_0 := blk_frozen BK858.out 0) | ((with_reducible refine gate_callee (f := 15) rfl ?_); refine goesL_ (some 16) rfl rfl Try.func15 (by kernel_rfl) rfl #[.agg #[.slice A0_0 l0_0.length c0_0]] rfl (by (try simp only [sD_, sE_, sF_]); first | done | rfl | (simp only [sG_, sH_]; rfl)) ?_; (with_reducible refine (laws_toTrie.calls k _ _ l0_0 t860 _ ?side1 ?side2 A7.out).mono ?_); (case side1 => repeat (first | exact (Kd.C_below HR0_0.out HB.out) | (with_reducible refine Kd.C_alloc ?_ _) | (with_reducible refine Kd.C_drewN ?_ _) | (with_reducible refine Kd.C_drew ?_))); (case side2 => exact HC0_0.out); rintro e w16 ⟨v861, rfl, ho0, hb⟩; refine ⟨_, rfl, ?_⟩; have HO862 := aM_ (Kd.R_lower ho0 (below_size HB.out)); replace BK858 := aM_ (blk_below BK858.out hb); replace HB := aM_ (below_step HB.out hb); (try clear hb); (try clear hb2); (try clear hk); (try clear hi); (try clear ho0); obtain ⟨Ao17, co17, eo17⟩ := Kd.R_slice HO862.out; subst eo17) | ((with_reducible refine gate_callee (f := 33) rfl ?_); refine goesL_ (some 17) rfl rfl Try.func33 (by kernel_rfl) rfl #[.agg #[.slice Ao17 t860.length co17]] rfl (by (try simp only [sD_, sE_, sF_]); first | done | rfl | (simp only [sG_, sH_]; rfl)) ?_; (with_reducible refine (spec_MeanDescent.calls k _ _ t860 t863 t864 t865 _ ?side1 ?side2 A8.out).mono ?_); (case side1 => repeat (first | exact (Kd.R_reads' HO862.out).2.2 | (with_reducible refine Kd.C_alloc ?_ _) | (with_reducible refine Kd.C_drewN ?_ _) | (with_reducible refine Kd.C_drew ?_))); (case side2 => exact (Kd.R_reads' HO862.out).2.1); rintro e w18 ⟨rfl, hb⟩; refine ⟨_, rfl, ?_⟩; replace HO862 := aM_ (Kd.R_below HO862.out hb); replace BK858 := aM_ (blk_below BK858.out hb); replace HB := aM_ (below_step HB.out hb); (try clear hb); (try clear hb2); (try clear hk); (try clear hi)) | ((with_reducible refine gate_dst (N := 4) rfl ?_); refine box_event ?hg (N := 4) ?hd (cs := #[.int .i64 0, .int .i64 0]) (t := 26) ?hr ?_; (case hd => rfl); (case hg => rfl); (case hr => first | (go_simp; done) | (go_simp; rfl)); intro gb866 hg w19 hbox hb; replace HO862 := aM_ (Kd.R_below HO862.out hb); have BK866 := aM_ (hbox); have GW866 := aM_ ((by rw [hg]; exact (below_size HB.out) : w.heap.size ≤ gb866)); have GE866 := GW866; replace HB := aM_ (below_step HB.out hb); have NB858_866 := aM_ ((by rw [hg]; exact Nat.ne_of_lt (blk_lt BK858.out) : gb858 ≠ gb866)); have NB866_858 := aM_ NB858_866.out.symm; replace BK858 := aM_ (blk_below BK858.out hb); clear hb hbox hg; have hnb20 := NB866_858.out; have hnc20 := NB858_866.out; have hcz21_0 : w19.cell? ⟨gb866, 0, none⟩ = some (.int .i64 0) := (blk_cell BK866.out 0).trans rfl; have hcz21_1 : w19.cell? ⟨gb866, 1, none⟩ = some (.int .i64 0) := (blk_cell BK866.out 1).trans rfl; have hfz21_0 := blk_frozen BK866.out 0; have hfz21_1 := blk_frozen BK866.out 1; have hcz22_0 : w19.cell? ⟨gb858, 0, none⟩ = some (.slice A0_0 l0_0.length c0_0) := (blk_cell BK858.out 0).trans rfl; have hfz22_0 := blk_frozen BK858.out 0) | ((with_reducible refine gate_callee (f := 15) rfl ?_); refine goesL_ (some 21) rfl rfl Try.func15 (by kernel_rfl) rfl #[.agg #[.slice A0_0 l0_0.length c0_0]] rfl (by (try simp only [sD_, sE_, sF_]); first | done | rfl | (simp only [sG_, sH_]; rfl)) ?_; (with_reducible refine (laws_toTrie.calls k _ _ l0_0 t867 _ ?side1 ?side2 A9.out).mono ?_); (case side1 => exact Kd.C_below HR0_0.out (by repeat (first | (with_reducible first | exact HB.out | apply below_alloc | apply pw_below_drewN | apply below_drew1 | refine below_set ?_ GE858.out | refine below_set ?_ GE866.out) | exact HB.out))); (case side2 => exact HC0_0.out); rintro e w23 ⟨v868, rfl, ho0, hb⟩; refine ⟨_, rfl, ?_⟩; have HO869 := aM_ (Kd.R_lower (Kd.R_new' ho0 (Kd.R_lt (by exact (Kd.R_mono (Kd.R_far (p := ⟨gb866, 1, none⟩) (Kd.R_far (p := ⟨gb866, 0, none⟩) (Kd.R_types HO862.out BK866.out (by decide)) (fun _ hk => hk.2) (.int .i64 t863)) (fun _ hk => hk.2) (.int .i64 t864)) (fun _ h_ => h_.1))))) (below_size (by repeat (first | (with_reducible first | exact HB.out | apply below_alloc | apply pw_below_drewN | apply below_drew1 | refine below_set ?_ GE858.out | refine below_set ?_ GE866.out) | exact HB.out)))); replace HO862 := aM_ (Kd.R_elder' (by exact (Kd.R_mono (Kd.R_far (p := ⟨gb866, 1, none⟩) (Kd.R_far (p := ⟨gb866, 0, none⟩) (Kd.R_types HO862.out BK866.out (by decide)) (fun _ hk => hk.2) (.int .i64 t863)) (fun _ hk => hk.2) (.int .i64 t864)) (fun _ h_ => h_.1))) (Kd.R_base ho0) hb); replace BK858 := aM_ (blk_below (g := gb858) (o := .cells #[.slice A0_0 l0_0.length c0_0] 24 (0, 0)) (by refine blk_far ?_ NB858_866.out _; refine blk_far ?_ NB858_866.out _; exact BK858.out) hb); replace BK866 := aM_ (blk_below (g := gb866) (o := .cells #[.int .i64 t863, .int .i64 t864] 26 (0, 0)) (by refine blk_put (cs := #[.int .i64 t863, .int .i64 0]) ?_ 1 _ rfl; refine blk_put (cs := #[.int .i64 0, .int .i64 0]) ?_ 0 _ rfl; exact BK866.out) hb); replace HB := aM_ (below_step (by repeat (first | (with_reducible first | exact HB.out | apply below_alloc | apply pw_below_drewN | apply below_drew1 | refine below_set ?_ GE858.out | refine below_set ?_ GE866.out) | exact HB.out)) hb); (try clear hb); (try clear hb2); (try clear hk); (try clear hi); (try clear ho0)) | ((with_reducible refine gate_dst (N := 6) rfl ?_); refine box_event ?hg (N := 6) ?hd (cs := #[.slice none 0 0]) (t := 31) ?hr ?_; (case hd => rfl); (case hg => rfl); (case hr => first | (go_simp; done) | (go_simp; rfl)); intro gb870 hg w24 hbox hb; replace HO862 := aM_ (Kd.R_below HO862.out hb); replace HO869 := aM_ (Kd.R_below HO869.out hb); have BK870 := aM_ (hbox); have GW870 := aM_ ((by rw [hg]; exact (below_size HB.out) : w.heap.size ≤ gb870)); have GE870 := GW870; replace HB := aM_ (below_step HB.out hb); have NB858_870 := aM_ ((by rw [hg]; exact Nat.ne_of_lt (blk_lt BK858.out) : gb858 ≠ gb870)); have NB870_858 := aM_ NB858_870.out.symm; replace BK858 := aM_ (blk_below BK858.out hb); have NB866_870 := aM_ ((by rw [hg]; exact Nat.ne_of_lt (blk_lt BK866.out) : gb866 ≠ gb870)); have NB870_866 := aM_ NB866_870.out.symm; replace BK866 := aM_ (blk_below BK866.out hb); clear hb hbox hg; obtain ⟨Ao25, co25, eo25⟩ := Kd.R_slice HO869.out; subst eo25; have hnb26 := NB870_858.out; have hnc26 := NB858_870.out; have hnb27 := NB870_866.out; have hnc27 := NB866_870.out; have hcz28_0 : w24.cell? ⟨gb870, 0, none⟩ = some (.slice none 0 0) := (blk_cell BK870.out 0).trans rfl; have hfz28_0 := blk_frozen BK870.out 0) | ((with_reducible refine gate_callee (f := 34) rfl ?_); refine goesL_ (some 24) rfl rfl Try.func34 (by kernel_rfl) rfl #[.agg #[.slice Ao25 t867.length co25]] rfl (by (try simp only [sD_, sE_, sF_]); first | done | rfl | (simp only [sG_, sH_]; rfl)) ?_; (with_reducible refine (impl_MeanDescent.calls k _ _ t867 t871 t872 t873 _ ?side1 ?side2 A10.out).mono ?_); (case side1 => refine (Kd.R_reads' (e := 80) (base := w.heap.size) (ok := fun k_ => (True ∧ some k_ ≠ (.slice Ao17 t860.length co17 : Value).ownBlock)) (n := t867.length) (c := co25) ?_).2.2; exact (by exact (Kd.R_mono (Kd.R_far (p := ⟨gb870, 0, none⟩) (Kd.R_types HO869.out BK870.out (by decide)) (fun _ hk => hk.2) (.slice Ao25 t867.length co25)) (fun _ h_ => h_.1)))); (case side2 => exact (Kd.R_reads' HO869.out).2.1); rintro e w29 ⟨rfl, hb⟩; refine ⟨_, rfl, ?_⟩; replace HO862 := aM_ (Kd.R_below (by exact (Kd.R_mono (Kd.R_far (p := ⟨gb870, 0, none⟩) (Kd.R_types HO862.out BK870.out (by decide)) (fun _ hk => hk.2) (.slice Ao25 t867.length co25)) (fun _ h_ => h_.1))) hb); replace HO869 := aM_ (Kd.R_below (by exact (Kd.R_mono (Kd.R_far (p := ⟨gb870, 0, none⟩) (Kd.R_types HO869.out BK870.out (by decide)) (fun _ hk => hk.2) (.slice Ao25 t867.length co25)) (fun _ h_ => h_.1))) hb); replace BK858 := aM_ (blk_below (g := gb858) (o := .cells #[.slice A0_0 l0_0.length c0_0] 24 (0, 0)) (by refine blk_far ?_ NB858_870.out _; exact BK858.out) hb); replace BK866 := aM_ (blk_below (g := gb866) (o := .cells #[.int .i64 t863, .int .i64 t864] 26 (0, 0)) (by refine blk_far ?_ NB866_870.out _; exact BK866.out) hb); replace BK870 := aM_ (blk_below (g := gb870) (o := .cells #[.slice Ao25 t867.length co25] 31 (0, 0)) (by refine blk_put (cs := #[.slice none 0 0]) ?_ 0 _ rfl; exact BK870.out) hb); replace HB := aM_ (below_step (by repeat (first | (with_reducible first | exact HB.out | apply below_alloc | apply pw_below_drewN | apply below_drew1 | refine below_set ?_ GE858.out | refine below_set ?_ GE866.out | refine below_set ?_ GE870.out) | exact HB.out)) hb); (try clear hb); (try clear hb2); (try clear hk); (try clear hi)) | ((with_reducible refine gate_dst (N := 7) rfl ?_); refine box_event ?hg (N := 7) ?hd (cs := #[.int .i64 0, .int .i64 0]) (t := 26) ?hr ?_; (case hd => rfl); (case hg => rfl); (case hr => first | (go_simp; done) | (go_simp; rfl)); intro gb874 hg w30 hbox hb; replace HO862 := aM_ (Kd.R_below HO862.out hb); replace HO869 := aM_ (Kd.R_below HO869.out hb); have BK874 := aM_ (hbox); have GW874 := aM_ ((by rw [hg]; exact (below_size HB.out) : w.heap.size ≤ gb874)); have GE874 := GW874; replace HB := aM_ (below_step HB.out hb); have NB858_874 := aM_ ((by rw [hg]; exact Nat.ne_of_lt (blk_lt BK858.out) : gb858 ≠ gb874)); have NB874_858 := aM_ NB858_874.out.symm; replace BK858 := aM_ (blk_below BK858.out hb); have NB866_874 := aM_ ((by rw [hg]; exact Nat.ne_of_lt (blk_lt BK866.out) : gb866 ≠ gb874)); have NB874_866 := aM_ NB866_874.out.symm; replace BK866 := aM_ (blk_below BK866.out hb); have NB870_874 := aM_ ((by rw [hg]; exact Nat.ne_of_lt (blk_lt BK870.out) : gb870 ≠ gb874)); have NB874_870 := aM_ NB870_874.out.symm; replace BK870 := aM_ (blk_below BK870.out hb); clear hb hbox hg; have hnb31 := NB874_858.out; have hnc31 := NB858_874.out; have hnb32 := NB874_866.out; have hnc32 := NB866_874.out; have hnb33 := NB874_870.out; have hnc33 := NB870_874.out; have hcz34_0 : w30.cell? ⟨gb874, 0, none⟩ = some (.int .i64 0) := (blk_cell BK874.out 0).trans rfl; have hcz34_1 : w30.cell? ⟨gb874, 1, none⟩ = some (.int .i64 0) := (blk_cell BK874.out 1).trans rfl; have hfz34_0 := blk_frozen BK874.out 0; have hfz34_1 := blk_frozen BK874.out 1))
  (try simp only [Act.put, sA_, sB_, sC_])
  go_cut [35] (fun v35 wc => ∃ (kq : Nat) (x35_10 : Bool), v35 = .bool x35_10 ∧ Aside0 (laws_FnExactMeanDescent.j0 kq x35_10 l0_0 t867 = some r) ∧ Aside0 (kq ≤ k) ∧ Aside0 (Kd.R k80 80 wc w.heap.size (fun _ => True) (.slice Ao25 t867.length co25) t867) ∧ Aside0 (wc.heap[gb858]? = some (.cells #[(.slice A0_0 l0_0.length c0_0)] 24 (0, 0))) ∧ Aside0 (wc.heap[gb866]? = some (.cells #[.int .i64 t863, .int .i64 t864] 26 (0, 0))) ∧ Aside0 (wc.heap[gb870]? = some (.cells #[(.slice Ao25 t867.length co25)] 31 (0, 0))) ∧ Aside0 (wc.heap[gb874]? = some (.cells #[.int .i64 t871, .int .i64 t872] 26 (0, 0))) ∧ Aside0 (Below w.heap.size w wc))
  case first =>
   have H := HC11.out
   clear HC11
   replace H := Option.bind_eq_some_iff.mp H
   obtain ⟨t875, A350, H⟩ := H
   try dsimp only at H
   have A35 := aM_ A350
   clear A350
   by_cases c36 : t875 = true
   ·
    subst c36
    rw [if_pos rfl] at H
    have H' := aM_ H
    clear H
    have hnb37 := NB874_858.out
    have hnc37 := NB858_874.out
    have hnb38 := NB874_866.out
    have hnc38 := NB866_874.out
    have hnb39 := NB874_870.out
    have hnc39 := NB870_874.out
    have hcz40_0 : w30.cell? ⟨gb874, 0, none⟩ = some (.int .i64 0) := (blk_cell BK874.out 0).trans rfl
    have hcz40_1 : w30.cell? ⟨gb874, 1, none⟩ = some (.int .i64 0) := (blk_cell BK874.out 1).trans rfl
    have hfz40_0 := blk_frozen BK874.out 0
    have hfz40_1 := blk_frozen BK874.out 1
    have hnb41 := NB866_858.out
    have hnc41 := NB858_866.out
    have hnb42 := NB866_870.out
    have hnc42 := NB870_866.out
    have hcz43_0 : w30.cell? ⟨gb866, 0, none⟩ = some (.int .i64 t863) := (blk_cell BK866.out 0).trans rfl
    have hcz43_1 : w30.cell? ⟨gb866, 1, none⟩ = some (.int .i64 t864) := (blk_cell BK866.out 1).trans rfl
    have hfz43_0 := blk_frozen BK866.out 0
    have hfz43_1 := blk_frozen BK866.out 1
    go_wp2_with (first | ((with_reducible refine gate_callee (f := 17) rfl ?_); refine goesL_ (some 29) rfl rfl Try.func17 (by kernel_rfl) rfl #[.agg #[.int .i64 t871, .int .i64 t872], .agg #[.int .i64 t863, .int .i64 t864]] rfl (by (try simp only [sD_, sE_, sF_]); first | done | rfl | (simp only [sG_, sH_]; rfl)) ?_; (with_reducible refine (laws_eqIntA2.calls t871 t872 t863 t864 true _ A35.out).mono ?_); rintro e w44 ⟨rfl, hb⟩; refine ⟨_, rfl, ?_⟩; replace HO862 := aM_ (Kd.R_below (by exact (Kd.R_mono (Kd.R_far (p := ⟨gb874, 1, none⟩) (Kd.R_far (p := ⟨gb874, 0, none⟩) (Kd.R_types HO862.out BK874.out (by decide)) (fun _ hk => hk.2) (.int .i64 t871)) (fun _ hk => hk.2) (.int .i64 t872)) (fun _ h_ => h_.1))) hb); replace HO869 := aM_ (Kd.R_below (by exact (Kd.R_mono (Kd.R_far (p := ⟨gb874, 1, none⟩) (Kd.R_far (p := ⟨gb874, 0, none⟩) (Kd.R_types HO869.out BK874.out (by decide)) (fun _ hk => hk.2) (.int .i64 t871)) (fun _ hk => hk.2) (.int .i64 t872)) (fun _ h_ => h_.1))) hb); replace BK858 := aM_ (blk_below (g := gb858) (o := .cells #[.slice A0_0 l0_0.length c0_0] 24 (0, 0)) (by refine blk_far ?_ NB858_874.out _; refine blk_far ?_ NB858_874.out _; exact BK858.out) hb); replace BK866 := aM_ (blk_below (g := gb866) (o := .cells #[.int .i64 t863, .int .i64 t864] 26 (0, 0)) (by refine blk_far ?_ NB866_874.out _; refine blk_far ?_ NB866_874.out _; exact BK866.out) hb); replace BK870 := aM_ (blk_below (g := gb870) (o := .cells #[.slice Ao25 t867.length co25] 31 (0, 0)) (by refine blk_far ?_ NB870_874.out _; refine blk_far ?_ NB870_874.out _; exact BK870.out) hb); replace BK874 := aM_ (blk_below (g := gb874) (o := .cells #[.int .i64 t871, .int .i64 t872] 26 (0, 0)) (by refine blk_put (cs := #[.int .i64 t871, .int .i64 0]) ?_ 1 _ rfl; refine blk_put (cs := #[.int .i64 0, .int .i64 0]) ?_ 0 _ rfl; exact BK874.out) hb); replace HB := aM_ (below_step (by repeat (first | (with_reducible first | exact HB.out | apply below_alloc | apply pw_below_drewN | apply below_drew1 | refine below_set ?_ GE858.out | refine below_set ?_ GE866.out | refine below_set ?_ GE870.out | refine below_set ?_ GE874.out) | exact HB.out)) hb); (try clear hb); (try clear hb2); (try clear hk); (try clear hi)))
    go_meet
    case rel => exact ⟨_, ((t873 != t865)), (by first | rfl | (simp; done) | (simp [*]; done)), H', ⟨by first | omega | exact Nat.le_refl _⟩, ⟨by exact Kd.R_mono HO869.out (fun _ hk => trivial)⟩, ⟨BK858.out⟩, ⟨BK866.out⟩, ⟨BK870.out⟩, ⟨BK874.out⟩, ⟨HB.out⟩⟩
   ·
    replace c36 := Bool.eq_false_iff.mpr c36
    subst c36
    have H1 : (laws_FnExactMeanDescent.j0 k true l0_0 t867) = some r := by rw [if_neg (show ¬ (false = true) by decide)] at H; exact H
    clear H
    have H := H1
    clear H1
    have H' := aM_ H
    clear H
    have hnb45 := NB874_858.out
    have hnc45 := NB858_874.out
    have hnb46 := NB874_866.out
    have hnc46 := NB866_874.out
    have hnb47 := NB874_870.out
    have hnc47 := NB870_874.out
    have hcz48_0 : w30.cell? ⟨gb874, 0, none⟩ = some (.int .i64 0) := (blk_cell BK874.out 0).trans rfl
    have hcz48_1 : w30.cell? ⟨gb874, 1, none⟩ = some (.int .i64 0) := (blk_cell BK874.out 1).trans rfl
    have hfz48_0 := blk_frozen BK874.out 0
    have hfz48_1 := blk_frozen BK874.out 1
    have hnb49 := NB866_858.out
    have hnc49 := NB858_866.out
    have hnb50 := NB866_870.out
    have hnc50 := NB870_866.out
    have hcz51_0 : w30.cell? ⟨gb866, 0, none⟩ = some (.int .i64 t863) := (blk_cell BK866.out 0).trans rfl
    have hcz51_1 : w30.cell? ⟨gb866, 1, none⟩ = some (.int .i64 t864) := (blk_cell BK866.out 1).trans rfl
    have hfz51_0 := blk_frozen BK866.out 0
    have hfz51_1 := blk_frozen BK866.out 1
    go_wp2_with (first | ((with_reducible refine gate_callee (f := 17) rfl ?_); refine goesL_ (some 29) rfl rfl Try.func17 (by kernel_rfl) rfl #[.agg #[.int .i64 t871, .int .i64 t872], .agg #[.int .i64 t863, .int .i64 t864]] rfl (by (try simp only [sD_, sE_, sF_]); first | done | rfl | (simp only [sG_, sH_]; rfl)) ?_; (with_reducible refine (laws_eqIntA2.calls t871 t872 t863 t864 false _ A35.out).mono ?_); rintro e w52 ⟨rfl, hb⟩; refine ⟨_, rfl, ?_⟩; replace HO862 := aM_ (Kd.R_below (by exact (Kd.R_mono (Kd.R_far (p := ⟨gb874, 1, none⟩) (Kd.R_far (p := ⟨gb874, 0, none⟩) (Kd.R_types HO862.out BK874.out (by decide)) (fun _ hk => hk.2) (.int .i64 t871)) (fun _ hk => hk.2) (.int .i64 t872)) (fun _ h_ => h_.1))) hb); replace HO869 := aM_ (Kd.R_below (by exact (Kd.R_mono (Kd.R_far (p := ⟨gb874, 1, none⟩) (Kd.R_far (p := ⟨gb874, 0, none⟩) (Kd.R_types HO869.out BK874.out (by decide)) (fun _ hk => hk.2) (.int .i64 t871)) (fun _ hk => hk.2) (.int .i64 t872)) (fun _ h_ => h_.1))) hb); replace BK858 := aM_ (blk_below (g := gb858) (o := .cells #[.slice A0_0 l0_0.length c0_0] 24 (0, 0)) (by refine blk_far ?_ NB858_874.out _; refine blk_far ?_ NB858_874.out _; exact BK858.out) hb); replace BK866 := aM_ (blk_below (g := gb866) (o := .cells #[.int .i64 t863, .int .i64 t864] 26 (0, 0)) (by refine blk_far ?_ NB866_874.out _; refine blk_far ?_ NB866_874.out _; exact BK866.out) hb); replace BK870 := aM_ (blk_below (g := gb870) (o := .cells #[.slice Ao25 t867.length co25] 31 (0, 0)) (by refine blk_far ?_ NB870_874.out _; refine blk_far ?_ NB870_874.out _; exact BK870.out) hb); replace BK874 := aM_ (blk_below (g := gb874) (o := .cells #[.int .i64 t871, .int .i64 t872] 26 (0, 0)) (by refine blk_put (cs := #[.int .i64 t871, .int .i64 0]) ?_ 1 _ rfl; refine blk_put (cs := #[.int .i64 0, .int .i64 0]) ?_ 0 _ rfl; exact BK874.out) hb); replace HB := aM_ (below_step (by repeat (first | (with_reducible first | exact HB.out | apply below_alloc | apply pw_below_drewN | apply below_drew1 | refine below_set ?_ GE858.out | refine below_set ?_ GE866.out | refine below_set ?_ GE870.out | refine below_set ?_ GE874.out) | exact HB.out)) hb); (try clear hb); (try clear hb2); (try clear hk); (try clear hi)))
    go_meet
    case rel => exact ⟨_, (true), (by first | rfl | (simp; done) | (simp [*]; done)), H', ⟨by first | omega | exact Nat.le_refl _⟩, ⟨by exact Kd.R_mono HO869.out (fun _ hk => trivial)⟩, ⟨BK858.out⟩, ⟨BK866.out⟩, ⟨BK870.out⟩, ⟨BK874.out⟩, ⟨HB.out⟩⟩
  case rest =>
   clear HC11
   try clear c1
   try clear c2
   try clear p2
   try clear c3
   try clear c3b0
   try clear c4
   try clear c5
   try clear c11
   try clear c13
   try clear c15
   try clear c17
   try clear c20
   try clear c26
   try clear c27
   try clear c31
   try clear c32
   try clear c33
   try clear c34
   try clear c36
   try clear c37
   try clear c38
   try clear c39
   try clear c41
   try clear c42
   try clear c45
   try clear c46
   try clear c47
   try clear c49
   try clear c50
   try clear hcz13_0
   try clear hcz15_0
   try clear hcz21_0
   try clear hcz21_1
   try clear hcz22_0
   try clear hcz28_0
   try clear hcz34_0
   try clear hcz34_1
   try clear hcz40_0
   try clear hcz40_1
   try clear hcz43_0
   try clear hcz43_1
   try clear hcz48_0
   try clear hcz48_1
   try clear hcz51_0
   try clear hcz51_1
   try clear hcz5_0
   try clear hfz13_0
   try clear hfz15_0
   try clear hfz21_0
   try clear hfz21_1
   try clear hfz22_0
   try clear hfz28_0
   try clear hfz34_0
   try clear hfz34_1
   try clear hfz40_0
   try clear hfz40_1
   try clear hfz43_0
   try clear hfz43_1
   try clear hfz48_0
   try clear hfz48_1
   try clear hfz51_0
   try clear hfz51_1
   try clear hfz5_0
   obtain ⟨kq, x35_10, rfl, HA, HJ10, HO_871000, BK858, BK866, BK870, BK874, HB⟩ := hcut
   cases kq with
   | zero => exact absurd HA.out (by simp [laws_FnExactMeanDescent.j0])
   | succ kj10 =>
    have H := HA.out
    clear HA
    simp only [laws_FnExactMeanDescent.j0] at H
    by_cases c53 : x35_10 = true
    ·
     subst c53
     rw [if_pos rfl] at H
     obtain rfl := Option.some.inj H
     go_wp2
     go_ret
     exact ⟨by first | rfl | (simp [errW_none, errW_some] <;> rfl) | (simp [*, errW_none, errW_some] <;> rfl), by exact HB.out⟩
    ·
     replace c53 := Bool.eq_false_iff.mpr c53
     subst c53
     have H1 : ((laws_toTrie.f kj10 l0_0).bind fun t876 => ((laws_eqTrie.f kj10 t867 t876).bind fun t879 => (if t879 = true then (some true) else (some false)))) = some r := by rw [if_neg (show ¬ (false = true) by decide)] at H; exact H
     clear H
     have H := H1
     clear H1
     replace H := Option.bind_eq_some_iff.mp H
     obtain ⟨t876, A540, H⟩ := H
     try dsimp only at H
     have A54 := aM_ A540
     clear A540
     replace H := Option.bind_eq_some_iff.mp H
     obtain ⟨t879, A550, H⟩ := H
     try dsimp only at H
     have A55 := aM_ A550
     clear A550
     by_cases c56 : t879 = true
     ·
      subst c56
      rw [if_pos rfl] at H
      obtain rfl := Option.some.inj H
      try go_wp2
      have n0_ := aM_ (Kd.R_drew HO_871000.out)
      have n1_ := aM_ (blk_drew BK858.out)
      have n2_ := aM_ (blk_drew BK866.out)
      have n3_ := aM_ (blk_drew BK870.out)
      have n4_ := aM_ (blk_drew BK874.out)
      have n5_ := aM_ (below_drew1 HB.out)
      clear HO_871000
      clear BK858
      clear BK866
      clear BK870
      clear BK874
      clear HB
      have HO_871000 := n0_
      have BK858 := n1_
      have BK866 := n2_
      have BK870 := n3_
      have BK874 := n4_
      have HB := n5_
      clear n0_ n1_ n2_ n3_ n4_ n5_
      refine start_ (n := 5) (S := fun w' => w'.cell? ⟨gb870, 0, none⟩ = some (.slice Ao25 t867.length co25) ∧ w'.cell? ⟨gb858, 0, none⟩ = some (.slice A0_0 l0_0.length c0_0)) (ds := []) #[fy, fy, fy, fy, fy] (by kernel_rfl) rfl rfl ⟨(blk_cell BK870.out 0).trans rfl, (blk_cell BK858.out 0).trans rfl⟩ (fun hHeld => ?_)
      generalize wc.drew = w57 at HO_871000 BK858 BK866 BK870 BK874 HB hHeld ⊢
      refine take_ (i := 0) (N := some 36) (v := ?_) (a' := ?_) #[ty, fy, fy, fy, fy] rfl rfl (by kernel_rfl) (fun _ _ _ h => h) (Or.inl ⟨by rfl, ?_⟩) hHeld ?_ ?_; rotate_left; (rintro w' ⟨s0, s1⟩; go_simp; with_reducible rfl); rotate_left; (simp only [Act.put, sA_, sB_, sC_, i64_w, i32_w]; rfl)
      refine take_ (i := 1) (N := some 37) (v := ?_) (a' := ?_) #[ty, ty, fy, fy, fy] rfl rfl (by kernel_rfl) (fun _ _ _ h => h) (Or.inl ⟨by rfl, ?_⟩) hHeld ?_ ?_; rotate_left; (rintro w' ⟨s0, s1⟩; go_simp; with_reducible rfl); rotate_left; (simp only [Act.put, sA_, sB_, sC_, i64_w, i32_w]; rfl)
      refine one_ (i := 2) (N := some 38) #[ty, ty, ty, fy, fy] rfl rfl (by kernel_rfl) (by decide) (fun K hK => ?_)
      refine goes_ Try.func15 (by kernel_rfl) rfl #[.agg #[.slice A0_0 l0_0.length c0_0]] (by rfl) rfl rfl (by (try simp only [sD_, sE_, sF_]); first | done | rfl | (simp only [sG_, sH_]; rfl)) ?_
      with_reducible refine (laws_toTrie.calls kj10 _ _ l0_0 t876 _ ?side1 ?side2 A54.out).mono ?_
      (case side1 => repeat (first | exact (Kd.C_below HR0_0.out HB.out) | (with_reducible refine Kd.C_alloc ?_ _) | (with_reducible refine Kd.C_drewN ?_ _) | (with_reducible refine Kd.C_drew ?_)))
      (case side2 => exact HC0_0.out)
      rintro e w58 ⟨v877, rfl, ho0, hb⟩
      refine ⟨_, rfl, ?_⟩
      have n0_ := aM_ (Kd.R_elder' HO_871000.out (Kd.R_base ho0) hb)
      have n1_ := aM_ (Kd.R_lower (Kd.R_new' ho0 (Kd.R_lt HO_871000.out)) (below_size HB.out))
      have n2_ := aM_ (blk_below BK858.out hb)
      have n3_ := aM_ (blk_below BK866.out hb)
      have n4_ := aM_ (blk_below BK870.out hb)
      have n5_ := aM_ (blk_below BK874.out hb)
      have n6_ := aM_ (below_step HB.out hb)
      clear HO_871000
      clear BK858
      clear BK866
      clear BK870
      clear BK874
      clear HB
      have HO_871000 := n0_
      have HO878 := n1_
      have BK858 := n2_
      have BK866 := n3_
      have BK870 := n4_
      have BK874 := n5_
      have HB := n6_
      clear n0_ n1_ n2_ n3_ n4_ n5_ n6_
      (try clear hb)
      (try clear hb2)
      (try clear hk)
      (try clear hi)
      (try clear ho0)
      obtain ⟨Ao59, co59, eo59⟩ := Kd.R_slice HO878.out
      (first | subst eo59 | (injection eo59 with f1_ f2_ f3_; have f4_ := f1_.symm; have f5_ := f3_.symm; clear f1_ f2_ f3_; subst f4_; subst f5_))
      refine hK.out _ _ ⟨(blk_cell BK870.out 0).trans rfl, (blk_cell BK858.out 0).trans rfl⟩ (fun hHeld => ?_)
      clear hK K
      refine norm_ (a' := ?_) ?_ ?_; rotate_left; (show Act.put _ (some 38) _ = _; simp only [Act.put, sA_, sB_, sC_, i64_w, i32_w]; rfl)
      refine one_ (i := 3) (N := some 39) #[ty, ty, ty, ty, fy] rfl rfl (by kernel_rfl) (by decide) (fun K hK => ?_)
      refine goes_ Try.func18 (by kernel_rfl) rfl #[.agg #[.slice Ao25 t867.length co25], .agg #[.slice Ao59 t876.length co59]] (by rfl) rfl rfl (by (try simp only [sD_, sE_, sF_]); first | done | rfl | (simp only [sG_, sH_]; rfl)) ?_
      with_reducible refine (laws_eqTrie.calls kj10 _ _ t867 _ _ t876 true _ ?side1 ?side2 ?side3 ?side4 A55.out).mono ?_
      (case side1 => repeat (first | exact (Kd.R_reads' HO_871000.out).2.2 | (with_reducible refine Kd.C_alloc ?_ _) | (with_reducible refine Kd.C_drewN ?_ _) | (with_reducible refine Kd.C_drew ?_)))
      (case side2 => exact (Kd.R_reads' HO_871000.out).2.1)
      (case side3 => repeat (first | exact (Kd.R_reads' HO878.out).2.2 | (with_reducible refine Kd.C_alloc ?_ _) | (with_reducible refine Kd.C_drewN ?_ _) | (with_reducible refine Kd.C_drew ?_)))
      (case side4 => exact (Kd.R_reads' HO878.out).2.1)
      rintro e w60 ⟨rfl, hb⟩
      refine ⟨_, rfl, ?_⟩
      have n0_ := aM_ (Kd.R_below HO_871000.out hb)
      have n1_ := aM_ (Kd.R_below HO878.out hb)
      have n2_ := aM_ (blk_below BK858.out hb)
      have n3_ := aM_ (blk_below BK866.out hb)
      have n4_ := aM_ (blk_below BK870.out hb)
      have n5_ := aM_ (blk_below BK874.out hb)
      have n6_ := aM_ (below_step HB.out hb)
      clear HO_871000
      clear HO878
      clear BK858
      clear BK866
      clear BK870
      clear BK874
      clear HB
      have HO_871000 := n0_
      have HO878 := n1_
      have BK858 := n2_
      have BK866 := n3_
      have BK870 := n4_
      have BK874 := n5_
      have HB := n6_
      clear n0_ n1_ n2_ n3_ n4_ n5_ n6_
      (try clear hb)
      (try clear hb2)
      (try clear hk)
      (try clear hi)
      refine hK.out _ _ ⟨(blk_cell BK870.out 0).trans rfl, (blk_cell BK858.out 0).trans rfl⟩ (fun hHeld => ?_)
      clear hK K
      refine norm_ (a' := ?_) ?_ ?_; rotate_left; (show Act.put _ (some 39) _ = _; simp only [Act.put, sA_, sB_, sC_, i64_w, i32_w]; rfl)
      refine pure_ (i := 4) (N := some 40) (v := ?_) (a' := ?_) #[ty, ty, ty, ty, ty] rfl rfl (by kernel_rfl) (fun _ _ _ h => h) (Or.inl ⟨by rfl, ?_⟩) ?_ ?_; rotate_left; (intro w'; go_simp; with_reducible rfl); rotate_left; (simp only [Act.put, sA_, sB_, sC_, i64_w, i32_w]; rfl)
      refine done_ (by kernel_rfl) ?_
      try go_wp2
      go_ret
      exact ⟨by first | rfl | (simp [errW_none, errW_some] <;> rfl) | (simp [*, errW_none, errW_some] <;> rfl), by exact HB.out⟩
     ·
      replace c56 := Bool.eq_false_iff.mpr c56
      subst c56
      have H1 : (some false) = some r := by rw [if_neg (show ¬ (false = true) by decide)] at H; exact H
      clear H
      have H := H1
      clear H1
      obtain rfl := Option.some.inj H
      try go_wp2
      have n0_ := aM_ (Kd.R_drew HO_871000.out)
      have n1_ := aM_ (blk_drew BK858.out)
      have n2_ := aM_ (blk_drew BK866.out)
      have n3_ := aM_ (blk_drew BK870.out)
      have n4_ := aM_ (blk_drew BK874.out)
      have n5_ := aM_ (below_drew1 HB.out)
      clear HO_871000
      clear BK858
      clear BK866
      clear BK870
      clear BK874
      clear HB
      have HO_871000 := n0_
      have BK858 := n1_
      have BK866 := n2_
      have BK870 := n3_
      have BK874 := n4_
      have HB := n5_
      clear n0_ n1_ n2_ n3_ n4_ n5_
      refine start_ (n := 5) (S := fun w' => w'.cell? ⟨gb870, 0, none⟩ = some (.slice Ao25 t867.length co25) ∧ w'.cell? ⟨gb858, 0, none⟩ = some (.slice A0_0 l0_0.length c0_0)) (ds := []) #[fy, fy, fy, fy, fy] (by kernel_rfl) rfl rfl ⟨(blk_cell BK870.out 0).trans rfl, (blk_cell BK858.out 0).trans rfl⟩ (fun hHeld => ?_)
      generalize wc.drew = w61 at HO_871000 BK858 BK866 BK870 BK874 HB hHeld ⊢
      refine take_ (i := 0) (N := some 36) (v := ?_) (a' := ?_) #[ty, fy, fy, fy, fy] rfl rfl (by kernel_rfl) (fun _ _ _ h => h) (Or.inl ⟨by rfl, ?_⟩) hHeld ?_ ?_; rotate_left; (rintro w' ⟨s0, s1⟩; go_simp; with_reducible rfl); rotate_left; (simp only [Act.put, sA_, sB_, sC_, i64_w, i32_w]; rfl)
      refine take_ (i := 1) (N := some 37) (v := ?_) (a' := ?_) #[ty, ty, fy, fy, fy] rfl rfl (by kernel_rfl) (fun _ _ _ h => h) (Or.inl ⟨by rfl, ?_⟩) hHeld ?_ ?_; rotate_left; (rintro w' ⟨s0, s1⟩; go_simp; with_reducible rfl); rotate_left; (simp only [Act.put, sA_, sB_, sC_, i64_w, i32_w]; rfl)
      refine one_ (i := 2) (N := some 38) #[ty, ty, ty, fy, fy] rfl rfl (by kernel_rfl) (by decide) (fun K hK => ?_)
      refine goes_ Try.func15 (by kernel_rfl) rfl #[.agg #[.slice A0_0 l0_0.length c0_0]] (by rfl) rfl rfl (by (try simp only [sD_, sE_, sF_]); first | done | rfl | (simp only [sG_, sH_]; rfl)) ?_
      with_reducible refine (laws_toTrie.calls kj10 _ _ l0_0 t876 _ ?side1 ?side2 A54.out).mono ?_
      (case side1 => repeat (first | exact (Kd.C_below HR0_0.out HB.out) | (with_reducible refine Kd.C_alloc ?_ _) | (with_reducible refine Kd.C_drewN ?_ _) | (with_reducible refine Kd.C_drew ?_)))
      (case side2 => exact HC0_0.out)
      rintro e w62 ⟨v877, rfl, ho0, hb⟩
      refine ⟨_, rfl, ?_⟩
      have n0_ := aM_ (Kd.R_elder' HO_871000.out (Kd.R_base ho0) hb)
      have n1_ := aM_ (Kd.R_lower (Kd.R_new' ho0 (Kd.R_lt HO_871000.out)) (below_size HB.out))
      have n2_ := aM_ (blk_below BK858.out hb)
      have n3_ := aM_ (blk_below BK866.out hb)
      have n4_ := aM_ (blk_below BK870.out hb)
      have n5_ := aM_ (blk_below BK874.out hb)
      have n6_ := aM_ (below_step HB.out hb)
      clear HO_871000
      clear BK858
      clear BK866
      clear BK870
      clear BK874
      clear HB
      have HO_871000 := n0_
      have HO878 := n1_
      have BK858 := n2_
      have BK866 := n3_
      have BK870 := n4_
      have BK874 := n5_
      have HB := n6_
      clear n0_ n1_ n2_ n3_ n4_ n5_ n6_
      (try clear hb)
      (try clear hb2)
      (try clear hk)
      (try clear hi)
      (try clear ho0)
      obtain ⟨Ao63, co63, eo63⟩ := Kd.R_slice HO878.out
      (first | subst eo63 | (injection eo63 with f1_ f2_ f3_; have f4_ := f1_.symm; have f5_ := f3_.symm; clear f1_ f2_ f3_; subst f4_; subst f5_))
      refine hK.out _ _ ⟨(blk_cell BK870.out 0).trans rfl, (blk_cell BK858.out 0).trans rfl⟩ (fun hHeld => ?_)
      clear hK K
      refine norm_ (a' := ?_) ?_ ?_; rotate_left; (show Act.put _ (some 38) _ = _; simp only [Act.put, sA_, sB_, sC_, i64_w, i32_w]; rfl)
      refine one_ (i := 3) (N := some 39) #[ty, ty, ty, ty, fy] rfl rfl (by kernel_rfl) (by decide) (fun K hK => ?_)
      refine goes_ Try.func18 (by kernel_rfl) rfl #[.agg #[.slice Ao25 t867.length co25], .agg #[.slice Ao63 t876.length co63]] (by rfl) rfl rfl (by (try simp only [sD_, sE_, sF_]); first | done | rfl | (simp only [sG_, sH_]; rfl)) ?_
      with_reducible refine (laws_eqTrie.calls kj10 _ _ t867 _ _ t876 false _ ?side1 ?side2 ?side3 ?side4 A55.out).mono ?_
      (case side1 => repeat (first | exact (Kd.R_reads' HO_871000.out).2.2 | (with_reducible refine Kd.C_alloc ?_ _) | (with_reducible refine Kd.C_drewN ?_ _) | (with_reducible refine Kd.C_drew ?_)))
      (case side2 => exact (Kd.R_reads' HO_871000.out).2.1)
      (case side3 => repeat (first | exact (Kd.R_reads' HO878.out).2.2 | (with_reducible refine Kd.C_alloc ?_ _) | (with_reducible refine Kd.C_drewN ?_ _) | (with_reducible refine Kd.C_drew ?_)))
      (case side4 => exact (Kd.R_reads' HO878.out).2.1)
      rintro e w64 ⟨rfl, hb⟩
      refine ⟨_, rfl, ?_⟩
      have n0_ := aM_ (Kd.R_below HO_871000.out hb)
      have n1_ := aM_ (Kd.R_below HO878.out hb)
      have n2_ := aM_ (blk_below BK858.out hb)
      have n3_ := aM_ (blk_below BK866.out hb)
      have n4_ := aM_ (blk_below BK870.out hb)
      have n5_ := aM_ (blk_below BK874.out hb)
      have n6_ := aM_ (below_step HB.out hb)
      clear HO_871000
      clear HO878
      clear BK858
      clear BK866
      clear BK870
      clear BK874
      clear HB
      have HO_871000 := n0_
      have HO878 := n1_
      have BK858 := n2_
      have BK866 := n3_
      have BK870 := n4_
      have BK874 := n5_
      have HB := n6_
      clear n0_ n1_ n2_ n3_ n4_ n5_ n6_
      (try clear hb)
      (try clear hb2)
      (try clear hk)
      (try clear hi)
      refine hK.out _ _ ⟨(blk_cell BK870.out 0).trans rfl, (blk_cell BK858.out 0).trans rfl⟩ (fun hHeld => ?_)
      clear hK K
      refine norm_ (a' := ?_) ?_ ?_; rotate_left; (show Act.put _ (some 39) _ = _; simp only [Act.put, sA_, sB_, sC_, i64_w, i32_w]; rfl)
      refine pure_ (i := 4) (N := some 40) (v := ?_) (a' := ?_) #[ty, ty, ty, ty, ty] rfl rfl (by kernel_rfl) (fun _ _ _ h => h) (Or.inl ⟨by rfl, ?_⟩) ?_ ?_; rotate_left; (intro w'; go_simp; with_reducible rfl); rotate_left; (simp only [Act.put, sA_, sB_, sC_, i64_w, i32_w]; rfl)
      refine done_ (by kernel_rfl) ?_
      try go_wp2
      go_ret
      exact ⟨by first | rfl | (simp [errW_none, errW_some] <;> rfl) | (simp [*, errW_none, errW_some] <;> rfl), by exact HB.out⟩
def laws_FnExactMeanDescent.Pure : Prop := ∀ (l0_0 : List S82), l0_0.length ≤ 9223372036854775807 → ∃ k, laws_FnExactMeanDescent.f k l0_0 = some true
theorem laws_FnExactMeanDescent.walk (P : laws_FnExactMeanDescent.Pure) (w : World) (A0 : Option Addr) (c0 : Nat) (l0_0 : List S82) (hr0 : Kd.C k82 w A0 l0_0.length l0_0) (hc0 : l0_0.length ≤ c0) :
  Calls Try.prog 11 #[.agg #[.slice A0 l0_0.length c0]] w fun e w' => e = .returned (.bool true) ∧ Below w.heap.size w w' := by
 obtain ⟨k, h⟩ := P l0_0 hr0.2.1
 refine (laws_FnExactMeanDescent.calls k _ _ l0_0 true w hr0 hc0 h).mono ?_
 rintro e w' ⟨rfl, hd⟩
 exact ⟨rfl, hd⟩
end Go.Proofs.Ytgagmodkjmegeaa.P
namespace Go.Proofs.Ytgagmodkjmegeaa.L
open Go.RowKit Go.Proofs.Ytgagmodkjmegeaa.P Go.Proofs.Ytgagmodkjmegeaa.M Go.Proofs.YtgagmodkjmegeaaW.PrintWords Go.Proofs.YtgagmodkjmegeaaW.PrintLast Go.Proofs.YtgagmodkjmegeaaW.PrintMore
set_option linter.unusedVariables false
def fr (a b : Nat) : Int × Int := (((a / Nat.gcd b a : Nat) : Int), ((b / Nat.gcd b a : Nat) : Int))
theorem wrapN {n : Nat} (h : n ≤ 9223372036854775807) : wrap64 (n : Int) = (n : Int) := wrap64_id (by omega) (by omega)
theorem divisor_ev : ∀ (b a : Nat), Ev (fun k => impl_divisor.l0 k (a : Int) (b : Int)) ((Nat.gcd b a : Nat) : Int) := by
 intro b
 induction b using Nat.strongRecOn with
 | _ b ih =>
  intro a
  by_cases hb : b = 0
  ·
   subst hb
   rw [Nat.gcd_zero_left]
   exact Ev.step (fun k => impl_divisor.l0.eq_2 ..) (Ev.ifT rfl (Ev.now _))
  ·
   refine Ev.step (fun k => impl_divisor.l0.eq_2 ..) (Ev.ifF (by omega) ?_)
   rw [← Int.ofNat_tmod, Nat.gcd_rec]
   exact ih (a % b) (Nat.mod_lt _ (by omega)) b
theorem frac_ev (a b : Nat) (ha : a ≤ 9223372036854775807) (hb : 0 < b) (hb2 : b ≤ 9223372036854775807) : Ev (fun k => impl_fraction.f k (a : Int) (b : Int)) (fr a b) := by
 have hg : 0 < Nat.gcd b a := Nat.gcd_pos_of_pos_left a hb
 have h1 := Nat.div_le_self a (Nat.gcd b a)
 have h2 := Nat.div_le_self b (Nat.gcd b a)
 unfold impl_fraction.f impl_divisor.f
 refine Ev.bind (f := fun k t => if t = 0 then none else some (wrap64 (Int.tdiv (a : Int) t), wrap64 (Int.tdiv (b : Int) t))) (divisor_ev b a) (Ev.ifF (by omega) ?_)
 rw [← Int.ofNat_tdiv, ← Int.ofNat_tdiv, wrapN (Nat.le_trans h1 ha), wrapN (Nat.le_trans h2 hb2)]
 exact Ev.now _
theorem cut_loop (a b : Nat) (ha : a ≤ 9223372036854775807) (hb : 0 < b) (hb2 : b ≤ 9223372036854775807) : ∀ (y x : Nat), Nat.gcd y x = Nat.gcd b a → Ev (fun k => spec_l9Cut.l0 k (a : Int) (b : Int) (x : Int) (y : Int)) (fr a b) := by
 have hg : 0 < Nat.gcd b a := Nat.gcd_pos_of_pos_left a hb
 have h1 := Nat.div_le_self a (Nat.gcd b a)
 have h2 := Nat.div_le_self b (Nat.gcd b a)
 intro y
 induction y using Nat.strongRecOn with
 | _ y ih =>
  intro x hxy
  by_cases hy : y = 0
  ·
   subst hy
   rw [Nat.gcd_zero_left] at hxy
   subst hxy
   refine Ev.step (fun k => spec_l9Cut.l0.eq_2 ..) (Ev.ifF (by omega) ?_)
   have hm : spec_l1Most.f (((Nat.gcd b a : Nat) : Int)) 1 = some ((Nat.gcd b a : Nat) : Int) := by
    unfold spec_l1Most.f
    by_cases h : ((Nat.gcd b a : Nat) : Int) > 1
    ·
     rw [if_pos h]
    ·
     rw [if_neg h]; congr 1; omega
   rw [hm]
   refine Ev.some_bind (Ev.ifF (by omega) (Ev.some_bind (Ev.ifF (by omega) ?_)))
   rw [← Int.ofNat_tdiv, ← Int.ofNat_tdiv, wrapN (Nat.le_trans h1 ha), wrapN (Nat.le_trans h2 hb2)]
   exact Ev.now _
  ·
   refine Ev.step (fun k => spec_l9Cut.l0.eq_2 ..) (Ev.ifT (by omega) (Ev.ifF (by omega) ?_))
   rw [← Int.ofNat_tmod]
   exact ih (x % y) (Nat.mod_lt _ (by omega)) y (by rw [← Nat.gcd_rec]; exact hxy)
theorem cut_ev (a b : Nat) (ha : a ≤ 9223372036854775807) (hb : 0 < b) (hb2 : b ≤ 9223372036854775807) : Ev (fun k => spec_l9Cut.f k (a : Int) (b : Int)) (fr a b) := cut_loop a b ha hb hb2 b a rfl
end Go.Proofs.Ytgagmodkjmegeaa.L
namespace Go.Proofs.Ytgagmodkjmegeaa.M
def sumL (f : Txt → Nat) : List Txt → Nat
 | [] => 0
 | x :: r => f x + sumL f r
theorem sumL_congr {f g : Txt → Nat} : ∀ {l : List Txt}, (∀ x ∈ l, f x = g x) → sumL f l = sumL g l
 | [], _ => rfl
 | x :: r, h => by rw [sumL, sumL, h x (by simp), sumL_congr fun y hy => h y (List.mem_cons_of_mem _ hy)]
theorem sumL_zero {f : Txt → Nat} : ∀ {l : List Txt}, (∀ x ∈ l, f x = 0) → sumL f l = 0
 | [], _ => rfl
 | x :: r, h => by rw [sumL, h x (by simp), sumL_zero fun y hy => h y (List.mem_cons_of_mem _ hy)]
theorem sumL_add (f g : Txt → Nat) : ∀ l : List Txt, sumL (fun x => f x + g x) l = sumL f l + sumL g l
 | [] => rfl
 | x :: r => by rw [sumL, sumL, sumL, sumL_add f g r]; omega
theorem sumL_le (f : Txt → Nat) (b : Nat) : ∀ l : List Txt, (∀ x ∈ l, f x ≤ b) → sumL f l ≤ b * l.length
 | [], _ => by simp [sumL]
 | x :: r, h => by
  have h1 := h x (by simp)
  have h2 := sumL_le f b r fun y hy => h y (List.mem_cons_of_mem _ hy)
  rw [sumL, List.length_cons, Nat.mul_succ]; omega
theorem sumL_one {Q : List Txt} (hQ : Asc Q) (a : Txt) (F : Txt → Nat) : a ∈ Q → sumL (fun p => if p = a then F p else 0) Q = F a := by
 induction Q with
 | nil => intro h; simp at h
 | cons x r ih =>
  intro h
  unfold Asc at hQ
  rw [List.pairwise_cons] at hQ
  by_cases e : x = a
  ·
   subst e
   rw [sumL, if_pos rfl, sumL_zero fun y hy => if_neg fun e => ?_]
   ·
    omega
   ·
    subst e; exact txt_irrefl _ (hQ.1 _ hy)
  ·
   rw [sumL, if_neg e, ih hQ.2 ((List.mem_cons.1 h).resolve_left fun q => e q.symm)]
   omega
end Go.Proofs.Ytgagmodkjmegeaa.M
namespace Go.Proofs.Ytgagmodkjmegeaa.L
open Go.RowKit Go.Proofs.Ytgagmodkjmegeaa.P Go.Proofs.Ytgagmodkjmegeaa.M Go.Proofs.YtgagmodkjmegeaaW.PrintWords Go.Proofs.YtgagmodkjmegeaaW.PrintLast Go.Proofs.YtgagmodkjmegeaaW.PrintMore
set_option linter.unusedVariables false
def ratL (f : Txt → Rat) : List Txt → Rat
 | [] => 0
 | x :: r => f x + ratL f r
theorem ratL_congr {f g : Txt → Rat} : ∀ {l : List Txt}, (∀ x ∈ l, f x = g x) → ratL f l = ratL g l
 | [], _ => rfl
 | x :: r, h => by rw [ratL, ratL, h x List.mem_cons_self, ratL_congr fun y hy => h y (List.mem_cons_of_mem _ hy)]
theorem ratL_zero {f : Txt → Rat} : ∀ {l : List Txt}, (∀ x ∈ l, f x = 0) → ratL f l = 0
 | [], _ => rfl
 | x :: r, h => by rw [ratL, h x List.mem_cons_self, ratL_zero fun y hy => h y (List.mem_cons_of_mem _ hy), Rat.add_zero]
theorem ratL_add (f g : Txt → Rat) : ∀ l : List Txt, ratL (fun x => f x + g x) l = ratL f l + ratL g l
 | [] => by rw [ratL, ratL, ratL, Rat.add_zero]
 | x :: r => by rw [ratL, ratL, ratL, ratL_add f g r]; grind
theorem ratL_mul (c : Rat) (f : Txt → Rat) : ∀ l : List Txt, ratL (fun x => c * f x) l = c * ratL f l
 | [] => by rw [ratL, ratL, Rat.mul_zero]
 | x :: r => by rw [ratL, ratL, ratL_mul c f r, Rat.mul_add]
theorem ratL_const (c : Rat) : ∀ l : List Txt, ratL (fun _ => c) l = (l.length : Rat) * c
 | [] => by rw [ratL, List.length_nil]; grind
 | x :: r => by rw [ratL, ratL_const c r, List.length_cons, Rat.natCast_add]; grind
theorem ratL_swap (f : Txt → Txt → Rat) : ∀ l m : List Txt, ratL (fun x => ratL (fun y => f x y) m) l = ratL (fun y => ratL (fun x => f x y) l) m
 | [], m => by rw [ratL]; exact (ratL_zero fun _ _ => rfl).symm
 | x :: r, m => by
  rw [ratL, ratL_swap f r m, ← ratL_add]
  rfl
theorem ratL_nonneg {f : Txt → Rat} : ∀ {l : List Txt}, (∀ x ∈ l, 0 ≤ f x) → 0 ≤ ratL f l
 | [], _ => Rat.le_refl
 | x :: r, h => Rat.add_nonneg (h x List.mem_cons_self) (ratL_nonneg fun y hy => h y (List.mem_cons_of_mem _ hy))
theorem ratL_one {Q : List Txt} (hQ : Asc Q) (a : Txt) (F : Txt → Rat) : a ∈ Q → ratL (fun q => if q = a then F q else 0) Q = F a := by
 induction Q with
 | nil => intro h; simp at h
 | cons x r ih =>
  intro h
  obtain ⟨h1, h2⟩ := List.pairwise_cons.1 hQ
  rw [ratL]
  by_cases e : x = a
  ·
   subst e
   rw [if_pos rfl, ratL_zero, Rat.add_zero]
   intro y hy
   rw [if_neg]
   intro e2
   subst e2
   exact absurd (h1 _ hy) (txt_irrefl _)
  ·
   rw [if_neg e, Rat.zero_add]
   exact ih h2 ((List.mem_cons.1 h).resolve_left fun q => e q.symm)
theorem mem_kidsL {P : List Txt} {p q : Txt} : q ∈ kidsL P p ↔ q ∈ P ∧ q ≠ [] ∧ q.dropLast = p := by
 unfold kidsL
 rw [List.mem_filter, decide_eq_true_eq]
theorem asc_kidsL {P : List Txt} (hA : Asc P) (p : Txt) : Asc (kidsL P p) := hA.filter _
theorem len_kid {P : List Txt} {p q : Txt} (h : q ∈ kidsL P p) : q.length = p.length + 1 := by
 obtain ⟨_, h2, h3⟩ := mem_kidsL.1 h
 have := List.length_pos_iff.2 h2
 rw [← h3, List.length_dropLast]
 omega
theorem kid_pre {P : List Txt} {p q : Txt} (h : q ∈ kidsL P p) : p <+: q := by
 obtain ⟨_, _, h3⟩ := mem_kidsL.1 h
 rw [← h3]
 exact List.dropLast_prefix q
theorem one_kid {ws : List Txt} {p w : Txt} (hw : w ∈ ws) (h : p <+: w) (hne : w ≠ p) : w.take (p.length + 1) ∈ kidsL (preL ws) p ∧ ∀ q ∈ kidsL (preL ws) p, (q <+: w ↔ q = w.take (p.length + 1)) := by
 have hl : p.length < w.length := by
  rcases Nat.lt_or_ge p.length w.length with h1 | h1
  ·
   exact h1
  ·
   exact absurd (h.eq_of_length_le h1).symm hne
 have hn : w.take (p.length + 1) ≠ [] := fun e => by
  have := congrArg List.length e
  rw [List.length_take, List.length_nil] at this; omega
 constructor
 ·
  refine mem_kidsL.2 ⟨mem_preL.2 (.inr ⟨w, hw, hn, List.take_prefix _ _⟩), hn, ?_⟩
  rw [List.dropLast_eq_take, List.length_take, List.take_take, Nat.min_eq_left (show p.length + 1 ≤ w.length by omega), Nat.min_eq_left (show p.length + 1 - 1 ≤ p.length + 1 by omega), Nat.add_sub_cancel]
  exact (List.prefix_iff_eq_take.1 h).symm
 ·
  intro q hq
  constructor
  ·
   intro hqw
   rw [← len_kid hq]
   exact List.prefix_iff_eq_take.1 hqw
  ·
   intro e
   rw [e]
   exact List.take_prefix _ _
theorem sum_kids {ws : List Txt} (hA : Asc ws) (p : Txt) (F : Txt → Rat) :
  ratL (fun w => if p <+: w then F w else 0) ws = (if p ∈ ws then F p else 0) + ratL (fun q => ratL (fun w => if q <+: w then F w else 0) ws) (kidsL (preL ws) p) := by
 have h1 : ∀ w ∈ ws, (if p <+: w then F w else 0) = (if w = p then F w else 0) + ratL (fun q => if q <+: w then F w else 0) (kidsL (preL ws) p) := by
  intro w hw
  by_cases hp : p <+: w
  ·
   rw [if_pos hp]
   by_cases e : w = p
   ·
    rw [if_pos e, ratL_zero, Rat.add_zero]
    intro q hq
    rw [if_neg]
    intro h
    have h2 := h.length_le
    have h3 := len_kid hq
    rw [e] at h2
    omega
   ·
    obtain ⟨k1, k2⟩ := one_kid hw hp e
    rw [if_neg e, Rat.zero_add]
    have h3 : ∀ q ∈ kidsL (preL ws) p, (if q <+: w then F w else 0) = (if q = w.take (p.length + 1) then F w else 0) := by
     intro q hq
     have := k2 q hq
     by_cases h : q <+: w
     ·
      rw [if_pos h, if_pos (this.1 h)]
     ·
      rw [if_neg h, if_neg (fun e => h (this.2 e))]
    rw [ratL_congr h3]
    exact (ratL_one (asc_kidsL (asc_preL ws) p) _ (fun _ => F w) k1).symm
  ·
   rw [if_neg hp, if_neg (fun e => hp (by rw [e]; exact List.prefix_refl p)), ratL_zero, Rat.add_zero]
   intro q hq
   rw [if_neg]
   exact fun h => hp ((kid_pre hq).trans h)
 rw [ratL_congr h1, ratL_add, ratL_swap]
 congr 1
 by_cases hm : p ∈ ws
 ·
  rw [if_pos hm]; exact ratL_one hA p F hm
 ·
  rw [if_neg hm]
  refine ratL_zero fun w hw => if_neg fun (e : w = p) => hm (e ▸ hw)
theorem chc_pos {ws : List Txt} (h0 : 0 < ws.length) {p : Txt} (hp : p ∈ preL ws) : 0 < chc (preL ws) ws p := by
 have key : ∀ w ∈ ws, p <+: w → 0 < chc (preL ws) ws p := by
  intro w hw h
  by_cases e : w = p
  ·
   unfold chc; rw [if_pos (e ▸ hw)]; omega
  ·
   have := List.length_pos_of_mem (one_kid hw h e).1
   unfold chc; omega
 rcases mem_preL.1 hp with rfl | ⟨w, hw, _, h⟩
 ·
  exact key _ (List.getElem_mem h0) (List.nil_prefix)
 ·
  exact key w hw h
theorem den_pos {ws : List Txt} (h0 : 0 < ws.length) : ∀ (n : Nat) (p : Txt), p.length = n → p ∈ preL ws → 0 < den (preL ws) ws p
 | 0, p, h, hp => by
  have := List.eq_nil_of_length_eq_zero h
  subst this
  rw [den_nil]
  exact chc_pos h0 hp
 | n + 1, p, h, hp => by
  have hne : p ≠ [] := fun e => by rw [e] at h; simp at h
  rw [den_step _ _ hne]
  exact Nat.mul_pos (chc_pos h0 hp) (den_pos h0 n p.dropLast (by rw [List.length_dropLast]; omega) ((clo_preL ws).2 p hp hne))
def meanF (ws : List Txt) : Nat → Txt → Rat
 | 0, _ => 0
 | n + 1, p => (((kidsL (preL ws) p).length : Rat) + ratL (meanF ws n) (kidsL (preL ws) p)) / (chc (preL ws) ws p : Rat)
def gR (ws : List Txt) (p : Txt) : Rat := (chc (preL ws) ws p : Rat) / (den (preL ws) ws p : Rat)
theorem ratN_ne {n : Nat} (h : 0 < n) : (n : Rat) ≠ 0 := fun e => by rw [Rat.natCast_eq_zero_iff] at e; omega
theorem gR_kid {ws : List Txt} (h0 : 0 < ws.length) {p q : Txt} (hq : q ∈ kidsL (preL ws) p) : gR ws q = 1 / (den (preL ws) ws p : Rat) := by
 obtain ⟨h1, h2, h3⟩ := mem_kidsL.1 hq
 have hp : p ∈ preL ws := by rw [← h3]; exact (clo_preL ws).2 q h1 h2
 have hc := ratN_ne (chc_pos h0 h1)
 have hd := ratN_ne (den_pos h0 _ p rfl hp)
 unfold gR
 rw [den_step _ _ h2, h3, Rat.natCast_mul]
 grind
theorem sum_one {ws : List Txt} (hA : Asc ws) (h0 : 0 < ws.length) (hw : ∀ w ∈ ws, w.length ≤ 12) : ∀ (n : Nat) (p : Txt), 13 ≤ n + p.length → p ∈ preL ws →
  ratL (fun w => if p <+: w then 1 / (den (preL ws) ws w : Rat) else 0) ws = gR ws p
 | 0, p, h, hp => by
  rcases mem_preL.1 hp with rfl | ⟨w, hm, _, hpw⟩
  ·
   simp at h
  ·
   have := hpw.length_le
   have := hw w hm
   omega
 | n + 1, p, h, hp => by
  rw [sum_kids hA p]
  have h1 : ∀ q ∈ kidsL (preL ws) p, ratL (fun w => if q <+: w then 1 / (den (preL ws) ws w : Rat) else 0) ws = 1 / (den (preL ws) ws p : Rat) := fun q hq => by
   rw [← gR_kid h0 hq]
   exact sum_one hA h0 hw n q (by rw [len_kid hq]; omega) (mem_kidsL.1 hq).1
  rw [ratL_congr h1, ratL_const]
  unfold gR
  have hc : (chc (preL ws) ws p : Rat) = ((kidsL (preL ws) p).length : Rat) + (if p ∈ ws then 1 else 0) := by
   unfold chc
   rw [Rat.natCast_add]
   by_cases hm : p ∈ ws
   ·
    rw [if_pos hm, if_pos hm]; rfl
   ·
    rw [if_neg hm, if_neg hm]; rfl
  rw [hc]
  by_cases hm : p ∈ ws
  ·
   rw [if_pos hm, if_pos hm]; grind
  ·
   rw [if_neg hm, if_neg hm]; grind
theorem sum_mean {ws : List Txt} (hA : Asc ws) (h0 : 0 < ws.length) (hw : ∀ w ∈ ws, w.length ≤ 12) : ∀ (n : Nat) (p : Txt), 13 ≤ n + p.length → p ∈ preL ws →
  ratL (fun w => if p <+: w then ((w.length : Rat) - (p.length : Rat)) / (den (preL ws) ws w : Rat) else 0) ws = meanF ws n p * gR ws p
 | 0, p, h, hp => by
  rcases mem_preL.1 hp with rfl | ⟨w, hm, _, hpw⟩
  ·
   simp at h
  ·
   have := hpw.length_le
   have := hw w hm
   omega
 | n + 1, p, h, hp => by
  have hc := ratN_ne (chc_pos h0 hp)
  have hd := ratN_ne (den_pos h0 _ p rfl hp)
  rw [sum_kids hA p]
  have h1 : ∀ q ∈ kidsL (preL ws) p, ratL (fun w => if q <+: w then ((w.length : Rat) - (p.length : Rat)) / (den (preL ws) ws w : Rat) else 0) ws = (1 / (den (preL ws) ws p : Rat)) * (meanF ws n q + 1) := fun q hq => by
   have a1 := sum_mean hA h0 hw n q (by rw [len_kid hq]; omega) (mem_kidsL.1 hq).1
   have a2 := sum_one hA h0 hw n q (by rw [len_kid hq]; omega) (mem_kidsL.1 hq).1
   have a3 : ∀ w ∈ ws, (if q <+: w then ((w.length : Rat) - (p.length : Rat)) / (den (preL ws) ws w : Rat) else 0) = (if q <+: w then ((w.length : Rat) - (q.length : Rat)) / (den (preL ws) ws w : Rat) else 0) + (if q <+: w then 1 / (den (preL ws) ws w : Rat) else 0) := fun w hm => by
    by_cases hq2 : q <+: w
    ·
     rw [if_pos hq2, if_pos hq2, if_pos hq2, len_kid hq, Rat.natCast_add]
     have : ((1 : Nat) : Rat) = 1 := rfl
     rw [this]
     grind
    ·
     rw [if_neg hq2, if_neg hq2, if_neg hq2, Rat.add_zero]
   rw [ratL_congr a3, ratL_add, a1, a2, gR_kid h0 hq]
   grind
  rw [ratL_congr h1, ratL_mul, ratL_add, ratL_const]
  have h2 : (if p ∈ ws then ((p.length : Rat) - (p.length : Rat)) / (den (preL ws) ws p : Rat) else 0) = 0 := by
   by_cases hm : p ∈ ws
   ·
    rw [if_pos hm]; grind
   ·
    rw [if_neg hm]
  rw [h2, meanF]
  unfold gR
  grind
theorem mean_eq {ws : List Txt} (hA : Asc ws) (h0 : 0 < ws.length) (hw : ∀ w ∈ ws, w.length ≤ 12) : ratL (fun w => (w.length : Rat) / (den (preL ws) ws w : Rat)) ws = meanF ws 13 [] := by
 have h := sum_mean hA h0 hw 13 [] (by simp) (clo_preL ws).1
 have hc := ratN_ne (chc_pos h0 (clo_preL ws).1)
 have hg : gR ws [] = 1 := by unfold gR; rw [den_nil]; grind
 rw [hg, Rat.mul_one] at h
 rw [← h]
 refine ratL_congr fun w _ => ?_
 rw [if_pos List.nil_prefix]
 have : ((([] : Txt).length : Nat) : Rat) = 0 := rfl
 rw [this]
 grind
def prodL (f : Txt → Nat) : List Txt → Nat
 | [] => 1
 | x :: r => f x * prodL f r
def allF (ws : List Txt) : Nat → Txt → Nat
 | 0, _ => 1
 | n + 1, p => chc (preL ws) ws p * prodL (allF ws n) (kidsL (preL ws) p)
theorem prodL_pos {f : Txt → Nat} : ∀ {l : List Txt}, (∀ x ∈ l, 0 < f x) → 0 < prodL f l
 | [], _ => Nat.one_pos
 | x :: r, h => Nat.mul_pos (h x List.mem_cons_self) (prodL_pos fun y hy => h y (List.mem_cons_of_mem _ hy))
theorem prodL_dvd {f : Txt → Nat} : ∀ {l : List Txt} {x : Txt}, x ∈ l → f x ∣ prodL f l
 | [], _, h => by simp at h
 | y :: r, x, h => by
  rw [prodL]
  rcases List.mem_cons.1 h with rfl | h
  ·
   exact Nat.dvd_mul_right _ _
  ·
   exact Nat.dvd_trans (prodL_dvd h) (Nat.dvd_mul_left _ _)
theorem allF_pos {ws : List Txt} (h0 : 0 < ws.length) : ∀ (n : Nat) (p : Txt), p ∈ preL ws → 0 < allF ws n p
 | 0, _, _ => Nat.one_pos
 | n + 1, p, hp => Nat.mul_pos (chc_pos h0 hp) (prodL_pos fun q hq => allF_pos h0 n q (mem_kidsL.1 hq).1)
def cntW (ws : List Txt) (p : Txt) : Nat := sumL (fun w => if p <+: w then 1 else 0) ws
theorem sumL_cast (f : Txt → Nat) : ∀ l : List Txt, ((sumL f l : Nat) : Rat) = ratL (fun x => ((f x : Nat) : Rat)) l
 | [] => rfl
 | x :: r => by rw [sumL, ratL, Rat.natCast_add, sumL_cast f r]
theorem cntW_step {ws : List Txt} (hA : Asc ws) (p : Txt) : cntW ws p = (if p ∈ ws then 1 else 0) + sumL (cntW ws) (kidsL (preL ws) p) := by
 rw [← Rat.natCast_inj, Rat.natCast_add, sumL_cast]
 have key : ∀ q : Txt, ((cntW ws q : Nat) : Rat) = ratL (fun w => if q <+: w then 1 else 0) ws := fun q => by
  unfold cntW
  rw [sumL_cast]
  refine ratL_congr fun w _ => ?_
  by_cases h : q <+: w
  ·
   rw [if_pos h, if_pos h]; rfl
  ·
   rw [if_neg h, if_neg h]; rfl
 rw [key, sum_kids hA p, ratL_congr fun q _ => key q]
 congr 1
 by_cases h : p ∈ ws
 ·
  rw [if_pos h, if_pos h]; rfl
 ·
  rw [if_neg h, if_neg h]; rfl
theorem two_le (c : Nat) (h : 0 < c) : 2 * c ≤ 2 ^ c := by
 induction c with
 | zero => omega
 | succ c ih =>
  by_cases h0 : c = 0
  ·
   subst h0; decide
  ·
   have := ih (by omega)
   rw [Nat.pow_succ]
   omega
theorem prodL_bd {f g : Txt → Nat} : ∀ {l : List Txt}, (∀ x ∈ l, 2 * f x ≤ 2 ^ g x) → 2 ^ l.length * prodL f l ≤ 2 ^ sumL g l
 | [], _ => Nat.le_refl _
 | x :: r, h => by
  have h1 := h x List.mem_cons_self
  have h2 := prodL_bd fun y hy => h y (List.mem_cons_of_mem _ hy)
  rw [prodL, sumL, List.length_cons, Nat.pow_succ, Nat.pow_add]
  calc 2 ^ r.length * 2 * (f x * prodL f r) = (2 * f x) * (2 ^ r.length * prodL f r) := by ac_rfl
   _ ≤ _ := Nat.mul_le_mul h1 h2
theorem allF_bd {ws : List Txt} (hA : Asc ws) (h0 : 0 < ws.length) (hw : ∀ w ∈ ws, w.length ≤ 12) : ∀ (n : Nat) (p : Txt), 13 ≤ n + p.length → p ∈ preL ws → 2 * allF ws n p ≤ 2 ^ cntW ws p
 | 0, p, h, hp => by
  rcases mem_preL.1 hp with rfl | ⟨w, hm, _, hpw⟩
  ·
   simp at h
  ·
   have := hpw.length_le
   have := hw w hm
   omega
 | n + 1, p, h, hp => by
  have h1 := prodL_bd (f := allF ws n) (g := cntW ws) (l := kidsL (preL ws) p) fun q hq => allF_bd hA h0 hw n q (by rw [len_kid hq]; omega) (mem_kidsL.1 hq).1
  have h2 := two_le _ (chc_pos h0 hp)
  rw [cntW_step hA p, allF, Nat.pow_add]
  have h3 : chc (preL ws) ws p = (kidsL (preL ws) p).length + (if p ∈ ws then 1 else 0) := rfl
  have h4 := Nat.mul_le_mul h2 h1
  have h5 : 2 ^ chc (preL ws) ws p = 2 ^ (kidsL (preL ws) p).length * 2 ^ (if p ∈ ws then 1 else 0) := by rw [h3, Nat.pow_add]
  rw [h5] at h4
  refine Nat.le_of_mul_le_mul_left ?_ (Nat.two_pow_pos (kidsL (preL ws) p).length)
  calc 2 ^ (kidsL (preL ws) p).length * (2 * (chc (preL ws) ws p * prodL (allF ws n) (kidsL (preL ws) p))) = 2 * chc (preL ws) ws p * (2 ^ (kidsL (preL ws) p).length * prodL (allF ws n) (kidsL (preL ws) p)) := by ac_rfl
   _ ≤ _ := h4
   _ = _ := by ac_rfl
theorem cntW_le (ws : List Txt) (p : Txt) : cntW ws p ≤ ws.length := by
 have := sumL_le (fun w => if p <+: w then 1 else 0) 1 ws fun x _ => by split <;> omega
 unfold cntW
 omega
theorem allF_le {ws : List Txt} (h : OkW ws) (h0 : 0 < ws.length) (n : Nat) (p : Txt) (hn : 13 ≤ n + p.length) (hp : p ∈ preL ws) : allF ws n p ≤ 549755813888 := by
 have h1 := allF_bd h.asc h0 h.le n p hn hp
 have h2 : 2 ^ cntW ws p ≤ 2 ^ 40 := Nat.pow_le_pow_right (by decide) (Nat.le_trans (cntW_le ws p) h.len)
 have h3 : (2 : Nat) ^ 40 = 1099511627776 := by decide
 omega
theorem den_dvd {ws : List Txt} (h0 : 0 < ws.length) (hl : ∀ w ∈ ws, w.length ≤ 12) {w : Txt} (hw : w ∈ ws) : ∀ (n : Nat) (p : Txt), 13 ≤ n + p.length → p <+: w → den (preL ws) ws w * chc (preL ws) ws p ∣ den (preL ws) ws p * allF ws n p
 | 0, p, h, hp => by
  have := hp.length_le
  have := hl w hw
  omega
 | n + 1, p, h, hp => by
  rw [allF]
  by_cases e : w = p
  ·
   subst e
   exact Nat.mul_dvd_mul_left _ (Nat.dvd_mul_right _ _)
  ·
   obtain ⟨k1, _⟩ := one_kid hw hp e
   have ih := den_dvd h0 hl hw n _ (by rw [len_kid k1]; omega) (List.take_prefix (p.length + 1) w)
   obtain ⟨m1, m2, m3⟩ := mem_kidsL.1 k1
   rw [den_step _ _ m2, m3] at ih
   have hc := chc_pos h0 m1
   have h1 : den (preL ws) ws w ∣ den (preL ws) ws p * allF ws n (w.take (p.length + 1)) := by
    refine Nat.dvd_of_mul_dvd_mul_right hc ?_
    refine Nat.dvd_trans ih ?_
    rw [show chc (preL ws) ws (w.take (p.length + 1)) * den (preL ws) ws p * allF ws n (w.take (p.length + 1)) = den (preL ws) ws p * allF ws n (w.take (p.length + 1)) * chc (preL ws) ws (w.take (p.length + 1)) from by ac_rfl]
    exact Nat.dvd_refl _
   have h2 : den (preL ws) ws w ∣ den (preL ws) ws p * prodL (allF ws n) (kidsL (preL ws) p) := Nat.dvd_trans h1 (Nat.mul_dvd_mul_left _ (prodL_dvd k1))
   rw [show den (preL ws) ws p * (chc (preL ws) ws p * prodL (allF ws n) (kidsL (preL ws) p)) = den (preL ws) ws p * prodL (allF ws n) (kidsL (preL ws) p) * chc (preL ws) ws p from by ac_rfl]
   exact Nat.mul_dvd_mul_right h2 _
theorem den_root {ws : List Txt} (h0 : 0 < ws.length) (hl : ∀ w ∈ ws, w.length ≤ 12) {w : Txt} (hw : w ∈ ws) : den (preL ws) ws w ∣ allF ws 13 [] := by
 have h := den_dvd h0 hl hw 13 [] (by simp) List.nil_prefix
 rw [den_nil, Nat.mul_comm] at h
 exact Nat.dvd_of_mul_dvd_mul_left (chc_pos h0 (clo_preL ws).1) h
theorem den_add_dvd (q r : Rat) : (q + r).den ∣ q.den * r.den := by
 rw [Rat.den_add]
 exact Nat.div_dvd_of_dvd (Nat.gcd_dvd_right _ _)
theorem ratL_den {f : Txt → Rat} {g : Txt → Nat} : ∀ {l : List Txt}, (∀ x ∈ l, (f x).den ∣ g x) → (ratL f l).den ∣ prodL g l
 | [], _ => Nat.dvd_refl _
 | x :: r, h => Nat.dvd_trans (den_add_dvd _ _) (Nat.mul_dvd_mul (h x List.mem_cons_self) (ratL_den fun y hy => h y (List.mem_cons_of_mem _ hy)))
theorem prodL_append (g : Txt → Nat) : ∀ l m : List Txt, prodL g (l ++ m) = prodL g l * prodL g m
 | [], m => by rw [List.nil_append, prodL, Nat.one_mul]
 | x :: r, m => by rw [List.cons_append, prodL, prodL, prodL_append g r m, Nat.mul_assoc]
theorem prodL_take_dvd (g : Txt → Nat) (l : List Txt) (j : Nat) : prodL g (l.take j) ∣ prodL g l := by
 have := prodL_append g (l.take j) (l.drop j)
 rw [List.take_append_drop] at this
 rw [this]
 exact Nat.dvd_mul_right _ _
theorem add_nat_den (k : Nat) (q : Rat) : ((k : Rat) + q).den ∣ q.den := by
 have := den_add_dvd (k : Rat) q
 rwa [Rat.den_natCast, Nat.one_mul] at this
theorem div_nat (q : Rat) (c : Nat) (hc : 0 < c) : q / (c : Rat) = mkRat q.num (q.den * c) := by
 have h1 : q = (q.num : Rat) / (q.den : Rat) := by rw [← Rat.mkRat_eq_div, Rat.mkRat_self]
 have h2 := ratN_ne hc
 have h3 := ratN_ne (Nat.pos_of_ne_zero q.den_nz)
 rw [Rat.mkRat_eq_div, Rat.natCast_mul]
 conv => lhs; rw [h1]
 grind
theorem div_nat_den (q : Rat) (c : Nat) (hc : 0 < c) : (q / (c : Rat)).den ∣ c * q.den := by
 have h : q.den * c ≠ 0 := Nat.mul_ne_zero q.den_nz (by omega)
 rw [div_nat q c hc, Rat.den_mkRat, if_neg h, Nat.mul_comm c]
 exact Nat.div_dvd_of_dvd (Nat.gcd_dvd_left _ _)
theorem meanF_den {ws : List Txt} (h0 : 0 < ws.length) : ∀ (n : Nat) (p : Txt), p ∈ preL ws → (meanF ws n p).den ∣ allF ws n p
 | 0, _, _ => Nat.dvd_refl _
 | n + 1, p, hp => by
  rw [meanF, allF]
  refine Nat.dvd_trans (div_nat_den _ _ (chc_pos h0 hp)) (Nat.mul_dvd_mul_left _ (Nat.dvd_trans (add_nat_den _ _) (ratL_den fun q hq => meanF_den h0 n q (mem_kidsL.1 hq).1)))
theorem ratL_le {f : Txt → Rat} {c : Rat} : ∀ {l : List Txt}, (∀ x ∈ l, f x ≤ c) → ratL f l ≤ (l.length : Rat) * c
 | [], _ => by rw [ratL, List.length_nil]; have : ((0 : Nat) : Rat) = 0 := rfl; rw [this, Rat.zero_mul]; exact Rat.le_refl
 | x :: r, h => by
  have h1 := h x List.mem_cons_self
  have h2 := ratL_le fun y hy => h y (List.mem_cons_of_mem _ hy)
  rw [ratL, List.length_cons, Rat.natCast_add]
  have : ((1 : Nat) : Rat) = 1 := rfl
  rw [this]
  grind
theorem meanF_bd {ws : List Txt} (h0 : 0 < ws.length) : ∀ (n : Nat) (p : Txt), p ∈ preL ws → 0 ≤ meanF ws n p ∧ meanF ws n p ≤ (n : Rat)
 | 0, _, _ => ⟨Rat.le_refl, Rat.le_refl⟩
 | n + 1, p, hp => by
  have hc := ratN_ne (chc_pos h0 hp)
  have hc2 : (0 : Rat) < (chc (preL ws) ws p : Rat) := by
   have := Rat.natCast_lt_natCast.2 (chc_pos h0 hp)
   exact this
  have ih := fun q (hq : q ∈ kidsL (preL ws) p) => meanF_bd h0 n q (mem_kidsL.1 hq).1
  have s0 := ratL_nonneg fun q hq => (ih q hq).1
  have s1 := ratL_le fun q hq => (ih q hq).2
  have hk : ((kidsL (preL ws) p).length : Rat) ≤ (chc (preL ws) ws p : Rat) := Rat.natCast_le_natCast.2 (Nat.le_add_right _ _)
  have hk0 : (0 : Rat) ≤ ((kidsL (preL ws) p).length : Rat) := Rat.natCast_nonneg
  have hn0 : (0 : Rat) ≤ (n : Rat) := Rat.natCast_nonneg
  have hm : meanF ws (n + 1) p * (chc (preL ws) ws p : Rat) = ((kidsL (preL ws) p).length : Rat) + ratL (meanF ws n) (kidsL (preL ws) p) := by
   rw [meanF, Rat.div_mul_cancel hc]
  have hm0 : 0 ≤ meanF ws (n + 1) p * (chc (preL ws) ws p : Rat) := by rw [hm]; exact Rat.add_nonneg hk0 s0
  constructor
  ·
   refine Rat.le_of_mul_le_mul_right ?_ hc2
   rw [Rat.zero_mul]
   exact hm0
  ·
   refine Rat.le_of_mul_le_mul_right ?_ hc2
   rw [hm]
   have h1 := Rat.mul_le_mul_of_nonneg_right hk hn0
   have : ((n + 1 : Nat) : Rat) = (n : Rat) + 1 := by rw [Rat.natCast_add]; rfl
   rw [this]
   grind
theorem kidF_map {P : List Txt} (hA : Asc P) (p : Txt) : ∀ d n, n + d = P.length → kidF P p n d = ((P.drop n).filter fun q => decide (q ≠ [] ∧ q.dropLast = p)).map fun q => ((placeL P q : Nat) : Int)
 | 0, n, h => by rw [List.drop_of_length_le (by omega)]; rfl
 | d + 1, n, h => by
  have hn : n < P.length := by omega
  rw [kidF, kidF_map hA p d (n + 1) (by omega), drop_cons_getD [] hn, List.filter_cons]
  by_cases hc : P.getD n [] ≠ [] ∧ (P.getD n []).dropLast = p
  ·
   rw [if_pos hc, if_pos (decide_eq_true hc), List.map_cons, placeL_get hA hn]; rfl
  ·
   rw [if_neg hc, if_neg (by rw [decide_eq_false hc]; exact Bool.false_ne_true), List.nil_append]
theorem kidI_map {P : List Txt} (hA : Asc P) (p : Txt) : kidI P p = (kidsL P p).map fun q => ((placeL P q : Nat) : Int) := by
 have := kidF_map hA p P.length 0 (by omega)
 rw [List.drop_zero] at this
 exact this
theorem ratL_append (f : Txt → Rat) : ∀ l m : List Txt, ratL f (l ++ m) = ratL f l + ratL f m
 | [], m => by rw [List.nil_append, ratL, Rat.zero_add]
 | x :: r, m => by rw [List.cons_append, ratL, ratL, ratL_append f r m, Rat.add_assoc]
theorem ratL_take_succ (f : Txt → Rat) {l : List Txt} {i : Nat} (hi : i < l.length) : ratL f (l.take (i + 1)) = ratL f (l.take i) + f (l.getD i []) := by
 rw [take_succ_getD [] hi, ratL_append, ratL, ratL, Rat.add_zero]
def rp (q : Rat) : Int × Int := (q.num, (q.den : Int))
theorem fr_rp (a b : Nat) (hb : 0 < b) : fr a b = rp (mkRat (a : Int) b) := by
 unfold fr rp
 rw [Rat.num_mkRat, Rat.den_mkRat, if_neg (by omega), if_neg (by omega)]
 simp
theorem den_mk_dvd (n : Int) (d : Nat) (hd : d ≠ 0) : (mkRat n d).den ∣ d := by
 rw [Rat.den_mkRat, if_neg hd]
 exact Nat.div_dvd_of_dvd (Nat.gcd_dvd_left _ _)
theorem mk_plus (q r : Rat) : mkRat (q.num * ((r.den / Nat.gcd r.den q.den : Nat) : Int) + r.num * ((q.den / Nat.gcd r.den q.den : Nat) : Int)) (q.den / Nat.gcd r.den q.den * r.den) = q + r := by
 have hg : Nat.gcd r.den q.den ≠ 0 := Nat.gcd_ne_zero_left r.den_nz
 rw [Rat.add_def', ← Rat.mkRat_mul_right hg]
 congr 1
 ·
  rw [Int.add_mul, Int.mul_assoc, Int.mul_assoc, ← Int.natCast_mul, ← Int.natCast_mul, Nat.div_mul_cancel (Nat.gcd_dvd_left _ _), Nat.div_mul_cancel (Nat.gcd_dvd_right _ _)]
 ·
  rw [Nat.mul_right_comm, Nat.div_mul_cancel (Nat.gcd_dvd_right _ _)]
theorem lcm_dvd' {a b D : Nat} (ha : a ∣ D) (hb : b ∣ D) : a / Nat.gcd b a * b ∣ D := by
 rw [Nat.div_mul_right_comm (Nat.gcd_dvd_right _ _), Nat.gcd_comm]
 exact Nat.lcm_dvd ha hb
theorem num_bd {q : Rat} {c : Nat} (h0 : 0 ≤ q) (hc : q ≤ (c : Rat)) : 0 ≤ q.num ∧ q.num ≤ (c : Int) * (q.den : Int) := by
 refine ⟨Rat.num_nonneg.2 h0, ?_⟩
 have := (Rat.le_iff q (c : Rat)).1 hc
 rw [Rat.den_natCast, Rat.num_natCast] at this
 omega
theorem plus_parts {q r : Rat} {D c : Nat} (hD : 0 < D) (hD2 : D ≤ 549755813888) (hc : c ≤ 10000) (q0 : 0 ≤ q) (q1 : q ≤ (c : Rat)) (r0 : 0 ≤ r) (r1 : r ≤ (c : Rat)) (hq : q.den ∣ D) (hr : r.den ∣ D) :
  ∃ a b x y g X Y : Nat, q.num = (a : Int) ∧ r.num = (b : Int) ∧ g = Nat.gcd r.den q.den ∧ 0 < g ∧ x = r.den / g ∧ y = q.den / g ∧ r.den ≤ 549755813888 ∧ q.den ≤ 549755813888 ∧ X = a * x ∧ Y = b * y ∧ X ≤ 5497558138880000 ∧ Y ≤ 5497558138880000 ∧ x ≤ 549755813888 ∧ y ≤ 549755813888 ∧ y * r.den ≤ 549755813888 ∧ 0 < y * r.den ∧ fr (X + Y) (y * r.den) = rp (q + r) ∧ (q + r).den ∣ D := by
 obtain ⟨qa, qb⟩ := num_bd q0 q1
 obtain ⟨ra, rb⟩ := num_bd r0 r1
 obtain ⟨a, ha⟩ : ∃ a : Nat, q.num = (a : Int) := ⟨q.num.toNat, by omega⟩
 obtain ⟨b, hb⟩ : ∃ b : Nat, r.num = (b : Int) := ⟨r.num.toNat, by omega⟩
 have hqd : 0 < q.den := Nat.pos_of_ne_zero q.den_nz
 have hrd : 0 < r.den := Nat.pos_of_ne_zero r.den_nz
 have hg : 0 < Nat.gcd r.den q.den := Nat.gcd_pos_of_pos_left _ hrd
 have hl := lcm_dvd' hq hr
 have hl2 := Nat.le_of_dvd hD hl
 have e1 : q.den / Nat.gcd r.den q.den * r.den = q.den * (r.den / Nat.gcd r.den q.den) := by
  rw [Nat.div_mul_right_comm (Nat.gcd_dvd_right _ _), Nat.mul_div_assoc _ (Nat.gcd_dvd_left _ _)]
 have hy : 0 < q.den / Nat.gcd r.den q.den := Nat.div_pos (Nat.le_of_dvd hqd (Nat.gcd_dvd_right _ _)) hg
 have hx := Nat.div_le_self r.den (Nat.gcd r.den q.den)
 have hy2 := Nat.div_le_self q.den (Nat.gcd r.den q.den)
 have hq2 := Nat.le_of_dvd hD hq
 have hr2 := Nat.le_of_dvd hD hr
 have ha2 : a ≤ c * q.den := by rw [ha] at qb; exact_mod_cast qb
 have hb2 : b ≤ c * r.den := by rw [hb] at rb; exact_mod_cast rb
 have X1 : a * (r.den / Nat.gcd r.den q.den) ≤ 5497558138880000 := by
  have h1 := Nat.mul_le_mul_right (r.den / Nat.gcd r.den q.den) ha2
  rw [Nat.mul_assoc, ← e1] at h1
  have h2 : c * (q.den / Nat.gcd r.den q.den * r.den) ≤ 10000 * 549755813888 := Nat.mul_le_mul hc (Nat.le_trans hl2 hD2)
  omega
 have Y1 : b * (q.den / Nat.gcd r.den q.den) ≤ 5497558138880000 := by
  have h1 := Nat.mul_le_mul_right (q.den / Nat.gcd r.den q.den) hb2
  rw [Nat.mul_assoc, Nat.mul_comm r.den] at h1
  have h2 : c * (q.den / Nat.gcd r.den q.den * r.den) ≤ 10000 * 549755813888 := Nat.mul_le_mul hc (Nat.le_trans hl2 hD2)
  omega
 have hpos := Nat.mul_pos hy hrd
 have hm := mk_plus q r
 rw [ha, hb, ← Int.natCast_mul, ← Int.natCast_mul, ← Int.natCast_add] at hm
 refine ⟨a, b, _, _, _, _, _, ha, hb, rfl, hg, rfl, rfl, by omega, by omega, rfl, rfl, X1, Y1, by omega, by omega, by omega, hpos, ?_, ?_⟩
 ·
  rw [fr_rp _ _ hpos, hm]
 ·
  rw [← hm]
  exact Nat.dvd_trans (den_mk_dvd _ _ (by omega)) hl
end Go.Proofs.Ytgagmodkjmegeaa.L
namespace Go.Proofs.Ytgagmodkjmegeaa.Pure
open Go.RowKit Go.Proofs.Ytgagmodkjmegeaa.P Go.Proofs.Ytgagmodkjmegeaa.M Go.Proofs.YtgagmodkjmegeaaW.PrintWords Go.Proofs.YtgagmodkjmegeaaW.PrintLast Go.Proofs.YtgagmodkjmegeaaW.PrintMore
set_option linter.unusedVariables false
open Go.Proofs.Ytgagmodkjmegeaa.L
namespace MeanDescent
theorem le_big {n : Nat} (h : n ≤ 549755813888) : n ≤ 9223372036854775807 := by omega
theorem le_big2 {n : Nat} (h : n ≤ 5497558138880000) : n ≤ 9223372036854775807 := by omega
theorem add_big {a b : Nat} (ha : a ≤ 5497558138880000) (hb : b ≤ 5497558138880000) : a + b ≤ 9223372036854775807 := by omega
theorem ne0 {g : Nat} (h : 0 < g) : ¬ (g : Int) = 0 := by omega
theorem ne00 {g : Nat} (h : ¬ g = 0) : ¬ (g : Int) = 0 := by omega
theorem pos0 {g : Nat} (h : ¬ g = 0) : (g : Int) > 0 := by omega
theorem plus_ev {q r : Rat} {D c : Nat} (hD : 0 < D) (hD2 : D ≤ 549755813888) (hc : c ≤ 10000) (q0 : 0 ≤ q) (q1 : q ≤ (c : Rat)) (r0 : 0 ≤ r) (r1 : r ≤ (c : Rat)) (hq : q.den ∣ D) (hr : r.den ∣ D) :
  Ev (fun k => impl_plus.f k q.num (q.den : Int) r.num (r.den : Int)) (rp (q + r)) ∧ Ev (fun k => spec_l9Plus.f k q.num (q.den : Int) r.num (r.den : Int)) (rp (q + r)) ∧ (q + r).den ∣ D := by
 obtain ⟨a, b, x, y, g, X, Y, ha, hb, hg, hg0, hx, hy, hr2, hq2, hX, hY, bX, bY, bx, by_, b1, b2, hfr, hdv⟩ := plus_parts hD hD2 hc q0 q1 r0 r1 hq hr
 have e1 : wrap64 (Int.tdiv (r.den : Int) (g : Int)) = (x : Int) := by rw [← Int.ofNat_tdiv, ← hx, wrapN (le_big bx)]
 have e2 : wrap64 (Int.tdiv (q.den : Int) (g : Int)) = (y : Int) := by rw [← Int.ofNat_tdiv, ← hy, wrapN (le_big by_)]
 have e3 : wrap64 ((a : Int) * (x : Int)) = (X : Int) := by rw [← Int.natCast_mul, ← hX, wrapN (le_big2 bX)]
 have e4 : wrap64 ((b : Int) * (y : Int)) = (Y : Int) := by rw [← Int.natCast_mul, ← hY, wrapN (le_big2 bY)]
 have e5 : wrap64 ((X : Int) + (Y : Int)) = ((X + Y : Nat) : Int) := by rw [← Int.natCast_add, wrapN (add_big bX bY)]
 have e6 : wrap64 ((y : Int) * (r.den : Int)) = ((y * r.den : Nat) : Int) := by rw [← Int.natCast_mul, wrapN (le_big b1)]
 refine ⟨?_, ?_, hdv⟩
 ·
  unfold impl_plus.f impl_divisor.f
  refine Ev.bind (divisor_ev r.den q.den) ?_
  rw [← hg, ha, hb, e1, e2, e3, e4, e5, e6]
  refine Ev.ifF (ne0 hg0) (Ev.bind (frac_ev (X + Y) (y * r.den) (add_big bX bY) b2 (le_big b1)) ?_)
  rw [hfr]
  exact Ev.now _
 ·
  have loop : ∀ (y' x' : Nat), Nat.gcd y' x' = g → Ev (fun k => spec_l9Plus.l0 k (x' : Int) (y' : Int) q.num (q.den : Int) r.num (r.den : Int)) (rp (q + r)) := by
   intro y'
   induction y' using Nat.strongRecOn with
   | _ y' ih =>
    intro x' hxy
    by_cases hy' : y' = 0
    ·
     subst hy'
     rw [Nat.gcd_zero_left] at hxy
     subst hxy
     refine Ev.step (fun k => spec_l9Plus.l0.eq_2 ..) (Ev.ifF (by decide) (Ev.ifF (ne0 hg0) ?_))
     rw [ha, hb, e1, e2, e3, e4, e5, e6]
     refine Ev.bind (cut_ev (X + Y) (y * r.den) (add_big bX bY) b2 (le_big b1)) ?_
     rw [hfr]
     exact Ev.now _
    ·
     refine Ev.step (fun k => spec_l9Plus.l0.eq_2 ..) (Ev.ifT (pos0 hy') (Ev.ifF (ne00 hy') ?_))
     rw [← Int.ofNat_tmod]
     exact ih (x' % y') (Nat.mod_lt _ (Nat.pos_of_ne_zero hy')) y' (by rw [← Nat.gcd_rec]; exact hxy)
  exact loop r.den q.den hg.symm
theorem natR_le {a b : Nat} (h : a ≤ b) : (a : Rat) ≤ (b : Rat) := Rat.natCast_le_natCast.2 h
theorem mean_ev {ws : List Txt} (h : OkW ws) (h0 : 0 < ws.length) : ∀ (n i : Nat), n ≤ 13 → i < (preL ws).length → 13 ≤ n + ((preL ws).getD i []).length →
  Ev (fun k => spec_l9Mean.f k (trN (preL ws) ws) (i : Int)) (rp (meanF ws n ((preL ws).getD i []))) := by
 have hA := asc_preL ws
 have hC := clo_preL ws
 have hpl := h.pre
 intro n
 induction n with
 | zero =>
  intro i _ hi hn
  have := (wordL_iff.1 (preL_word h.word (getD_mem hi))).2
  omega
 | succ n ih =>
  intro i hn13 hi hn
  have hm := getD_mem hi
  have hk : ∀ q ∈ kidsL (preL ws) ((preL ws).getD i []), q ∈ preL ws ∧ q.length = ((preL ws).getD i []).length + 1 := fun q hq => ⟨(mem_kidsL.1 hq).1, len_kid hq⟩
  generalize hpp : (preL ws).getD i [] = p at hm hk hn
  have hkl : (kidsL (preL ws) p).length ≤ 481 := Nat.le_trans (List.length_filter_le _ _) hpl
  have hc := choices_ev ws hA hC (by omega) hi
  have hks := l2Kids_ev ws hA hC (by omega) hi
  rw [hpp] at hc hks
  rw [kidI_map hA] at hks
  have hcp := chc_pos h0 hm
  have hE : 0 < prodL (allF ws n) (kidsL (preL ws) p) := prodL_pos fun q hq => allF_pos h0 n q (hk q hq).1
  have hD := allF_le h h0 (n + 1) p (by omega) hm
  rw [allF] at hD
  have hE2 : prodL (allF ws n) (kidsL (preL ws) p) ≤ 549755813888 := Nat.le_trans (Nat.le_mul_of_pos_left _ hcp) hD
  have hs : ∀ j, 0 ≤ (((kidsL (preL ws) p).length : Rat) + ratL (meanF ws n) ((kidsL (preL ws) p).take j)) ∧ (((kidsL (preL ws) p).length : Rat) + ratL (meanF ws n) ((kidsL (preL ws) p).take j)) ≤ ((10000 : Nat) : Rat) ∧ (((kidsL (preL ws) p).length : Rat) + ratL (meanF ws n) ((kidsL (preL ws) p).take j)).den ∣ prodL (allF ws n) (kidsL (preL ws) p) := by
   intro j
   have hmem : ∀ q ∈ (kidsL (preL ws) p).take j, q ∈ preL ws := fun q hq => (hk q (List.mem_of_mem_take hq)).1
   have b0 := ratL_nonneg fun q hq => (meanF_bd h0 n q (hmem q hq)).1
   have b1 := ratL_le fun q hq => (meanF_bd h0 n q (hmem q hq)).2
   have hj : ((kidsL (preL ws) p).take j).length ≤ 481 := Nat.le_trans (List.length_take_le' _ _) hkl
   have b2 : (((kidsL (preL ws) p).take j).length : Rat) * (n : Rat) ≤ ((481 * 13 : Nat) : Rat) := by
    rw [← Rat.natCast_mul]
    exact natR_le (Nat.mul_le_mul hj (by omega))
   have b3 := natR_le hkl
   refine ⟨Rat.add_nonneg Rat.natCast_nonneg b0, ?_, Nat.dvd_trans (add_nat_den _ _) (Nat.dvd_trans (ratL_den fun q hq => meanF_den h0 n q (hmem q hq)) (prodL_take_dvd _ _ _))⟩
   have b4 : ((481 : Nat) : Rat) + ((481 * 13 : Nat) : Rat) ≤ ((10000 : Nat) : Rat) := by rw [← Rat.natCast_add]; exact natR_le (by decide)
   grind
  have loop : ∀ (d j : Nat), j + d = (kidsL (preL ws) p).length →
    Ev (fun k => spec_l9Mean.l0 k (i : Int) ((kidsL (preL ws) p).map fun q => ((placeL (preL ws) q : Nat) : Int)) (j : Int) (trN (preL ws) ws) (((kidsL (preL ws) p).length : Rat) + ratL (meanF ws n) ((kidsL (preL ws) p).take j)).num (((((kidsL (preL ws) p).length : Rat) + ratL (meanF ws n) ((kidsL (preL ws) p).take j)).den : Nat) : Int)) (rp (meanF ws (n + 1) p)) := by
   intro d
   induction d with
   | zero =>
    intro j hj
    obtain ⟨s0, s1, s2⟩ := hs j
    have hjt : (kidsL (preL ws) p).take j = kidsL (preL ws) p := List.take_of_length_le (by omega)
    rw [hjt] at s0 s1 s2 ⊢
    have hme : meanF ws (n + 1) p = (((kidsL (preL ws) p).length : Rat) + ratL (meanF ws n) (kidsL (preL ws) p)) / (chc (preL ws) ws p : Rat) := rfl
    rw [hme]
    generalize (((kidsL (preL ws) p).length : Rat) + ratL (meanF ws n) (kidsL (preL ws) p)) = s at s0 s1 s2
    rw [div_nat s _ hcp]
    obtain ⟨n0, n1⟩ := num_bd s0 s1
    obtain ⟨a, ha⟩ : ∃ a : Nat, s.num = (a : Int) := ⟨s.num.toNat, by omega⟩
    have hsd : 0 < s.den := Nat.pos_of_ne_zero s.den_nz
    have hd1 := Nat.le_of_dvd hE s2
    have hd2 : s.den * chc (preL ws) ws p ≤ 549755813888 := by
     refine Nat.le_trans (Nat.le_of_dvd ?_ (Nat.mul_dvd_mul_right s2 _)) ?_
     ·
      exact Nat.mul_pos hE hcp
     ·
      rw [Nat.mul_comm]; exact hD
    have hd3 : 0 < s.den * chc (preL ws) ws p := Nat.mul_pos hsd hcp
    refine Ev.step (fun k => spec_l9Mean.l0.eq_2 ..) (Ev.ifF (by rw [List.length_map]; omega) (Ev.bind hc ?_))
    rw [ha, ← Int.natCast_mul, wrapN (by omega), ← fr_rp a _ hd3]
    exact Ev.bind (cut_ev a (s.den * chc (preL ws) ws p) (by omega) hd3 (by omega)) (Ev.now _)
   | succ d ihd =>
    intro j hj
    obtain ⟨s0, s1, s2⟩ := hs j
    have hjl : j < (kidsL (preL ws) p).length := by omega
    have hqm := List.getElem_mem hjl
    have hq := hk _ hqm
    have hnext := ihd (j + 1) (by omega)
    rw [ratL_take_succ _ hjl, ← Rat.add_assoc, getD_lt [] hjl] at hnext
    obtain ⟨z1, z2⟩ := placeL_mem hq.1
    have hrec := ih (placeL (preL ws) ((kidsL (preL ws) p)[j])) (by omega) z1 (by rw [z2, hq.2]; omega)
    rw [z2] at hrec
    have hb := meanF_bd h0 n _ hq.1
    obtain ⟨_, hp, _⟩ := plus_ev hE hE2 (Nat.le_refl 10000) s0 s1 hb.1 (Rat.le_trans hb.2 (natR_le (by omega))) s2 (Nat.dvd_trans (meanF_den h0 n _ hq.1) (prodL_dvd hqm))
    refine Ev.step (fun k => spec_l9Mean.l0.eq_2 ..) (Ev.ifT (by rw [List.length_map]; omega) (Ev.ifT (by omega) ?_))
    rw [rd_nat, getD_lt 0 (by rw [List.length_map]; exact hjl), List.getElem_map, wrap64_succ j (by omega)]
    exact Ev.bind hrec (Ev.bind hp hnext)
  have h1 := loop (kidsL (preL ws) p).length 0 (by omega)
  rw [List.take_zero, ratL, Rat.add_zero, Rat.num_natCast, Rat.den_natCast] at h1
  refine Ev.step (fun k => spec_l9Mean.f.eq_2 ..) (Ev.bind hks (Ev.bind hks ?_))
  rw [List.length_map]
  exact h1
theorem words_ev' {ws : List Txt} (h : OkW ws) (h0 : 0 < ws.length) : ∀ (d i : Nat), i + d = ws.length →
  Ev (fun k => impl_MeanDescent.l0 k (dens (preL ws) ws ws) (ws.map B) (ws.length : Int) (i : Int) (ratL (fun w => (w.length : Rat) / (den (preL ws) ws w : Rat)) (ws.take i)).num (((ratL (fun w => (w.length : Rat) / (den (preL ws) ws w : Rat)) (ws.take i)).den : Nat) : Int)) ((meanF ws 13 []).num, (((meanF ws 13 []).den : Nat) : Int), true) := by
 have h40 := h.len
 have hC := clo_preL ws
 have hD0 := allF_pos h0 13 [] hC.1
 have hD := allF_le h h0 13 [] (by simp) hC.1
 have hone : ∀ w ∈ ws, 0 < den (preL ws) ws w ∧ den (preL ws) ws w ≤ 549755813888 ∧ (w.length : Rat) / (den (preL ws) ws w : Rat) = mkRat (w.length : Int) (den (preL ws) ws w) ∧ 0 ≤ (w.length : Rat) / (den (preL ws) ws w : Rat) ∧ (w.length : Rat) / (den (preL ws) ws w : Rat) ≤ ((12 : Nat) : Rat) ∧ ((w.length : Rat) / (den (preL ws) ws w : Rat)).den ∣ allF ws 13 [] := by
  intro w hw
  have h1 := den_pos h0 _ w rfl (self_preL hw)
  have h2 := den_root h0 h.le hw
  have h3 : (w.length : Rat) / (den (preL ws) ws w : Rat) = mkRat (w.length : Int) (den (preL ws) ws w) := by rw [Rat.mkRat_eq_div]; rfl
  have hpos : (0 : Rat) < (den (preL ws) ws w : Rat) := Rat.natCast_lt_natCast.2 h1
  have hne := ratN_ne h1
  have hmul : (w.length : Rat) / (den (preL ws) ws w : Rat) * (den (preL ws) ws w : Rat) = (w.length : Rat) := Rat.div_mul_cancel hne
  refine ⟨h1, Nat.le_trans (Nat.le_of_dvd hD0 h2) hD, h3, ?_, ?_, ?_⟩
  ·
   refine Rat.le_of_mul_le_mul_right ?_ hpos
   rw [Rat.zero_mul, hmul]
   exact Rat.natCast_nonneg
  ·
   refine Rat.le_of_mul_le_mul_right ?_ hpos
   rw [hmul, ← Rat.natCast_mul]
   exact natR_le (Nat.le_trans (h.le w hw) (Nat.le_mul_of_pos_right _ h1))
  ·
   rw [h3]
   exact Nat.dvd_trans (den_mk_dvd _ _ (by omega)) h2
 have hs : ∀ i, i ≤ ws.length → 0 ≤ ratL (fun w => (w.length : Rat) / (den (preL ws) ws w : Rat)) (ws.take i) ∧ ratL (fun w => (w.length : Rat) / (den (preL ws) ws w : Rat)) (ws.take i) ≤ ((10000 : Nat) : Rat) ∧ (ratL (fun w => (w.length : Rat) / (den (preL ws) ws w : Rat)) (ws.take i)).den ∣ allF ws 13 [] := by
  intro i
  induction i with
  | zero => intro _; rw [List.take_zero, ratL]; exact ⟨Rat.le_refl, Rat.natCast_nonneg, Nat.one_dvd _⟩
  | succ i ih =>
   intro hi
   obtain ⟨s0, s1, s2⟩ := ih (by omega)
   have hil : i < ws.length := by omega
   have hm := getD_mem hil
   obtain ⟨_, _, _, o4, o5, o6⟩ := hone _ hm
   have hn : ∀ w ∈ ws.take (i + 1), 0 ≤ (w.length : Rat) / (den (preL ws) ws w : Rat) := fun w hw => (hone w (List.mem_of_mem_take hw)).2.2.2.1
   have hb : ∀ w ∈ ws.take (i + 1), (w.length : Rat) / (den (preL ws) ws w : Rat) ≤ ((12 : Nat) : Rat) := fun w hw => (hone w (List.mem_of_mem_take hw)).2.2.2.2.1
   have b1 := ratL_le hb
   refine ⟨ratL_nonneg hn, Rat.le_trans b1 ?_, ?_⟩
   ·
    rw [← Rat.natCast_mul]
    refine natR_le ?_
    have : (ws.take (i + 1)).length ≤ 40 := Nat.le_trans (List.length_take_le' _ _) (by omega)
    omega
   ·
    rw [ratL_take_succ _ hil]
    exact (plus_ev hD0 hD (Nat.le_refl 10000) s0 s1 o4 (Rat.le_trans o5 (natR_le (by decide))) s2 o6).2.2
 intro d
 induction d with
 | zero =>
  intro i hi
  rw [List.take_of_length_le (by omega), mean_eq h.asc h0 h.le]
  exact Ev.step (fun k => impl_MeanDescent.l0.eq_2 ..) (Ev.ifF (by omega) (Ev.now _))
 | succ d ih =>
  intro i hi
  have hil : i < ws.length := by omega
  have hm := getD_mem hil
  obtain ⟨s0, s1, s2⟩ := hs i (by omega)
  obtain ⟨o1, o2, o3, o4, o5, o6⟩ := hone _ hm
  have hnext := ih (i + 1) (by omega)
  rw [ratL_take_succ _ hil] at hnext
  have h12 := h.le _ hm
  have hr : rd (dens (preL ws) ws ws) (i : Int) = ((den (preL ws) ws (ws.getD i []) : Nat) : Int) := by
   unfold dens
   rw [rd_nat, getD_lt 0 (by rw [List.length_map]; exact hil), List.getElem_map, ← getD_lt [] hil, wrapN (by omega)]
  have hf := frac_ev (ws.getD i []).length (den (preL ws) ws (ws.getD i [])) (by omega) o1 (by omega)
  rw [fr_rp _ _ o1, ← o3] at hf
  refine Ev.step (fun k => impl_MeanDescent.l0.eq_2 ..) (Ev.ifT (by omega) (Ev.ifT (by omega) (Ev.ifT (by rw [List.length_map]; omega) (Ev.ifT (by unfold dens; rw [List.length_map]; omega) ?_))))
  rw [rdB ws i hil, size_B, hr, wrap64_succ i (by omega)]
  exact Ev.bind hf (Ev.bind (plus_ev hD0 hD (Nat.le_refl 10000) s0 s1 o4 (Rat.le_trans o5 (natR_le (by decide))) s2 o6).1 hnext)
theorem both (N : List Nd) : ∃ r : Int × Int × Bool, Ev (fun k => spec_MeanDescent.f k N) r ∧ Ev (fun k => impl_MeanDescent.f k N) r := by
 unfold spec_MeanDescent.f impl_MeanDescent.f
 rcases drawn_both N with ⟨ws, h, h0, rfl, e1, e2⟩ | ⟨e1, e2⟩
 ·
  obtain ⟨z1, z2⟩ := clo_zero (asc_preL ws) (clo_preL ws)
  have hm := mean_ev h h0 13 0 (Nat.le_refl _) z1 (by rw [z2]; simp)
  rw [z2] at hm
  have hw := words_ev' h h0 ws.length 0 (by omega)
  rw [List.take_zero, ratL] at hw
  refine ⟨_, Ev.bind e1 (Ev.ifT rfl (Ev.bind hm (Ev.now _))), Ev.bind e2 (Ev.ifT rfl (Ev.bind (chances_ev h) (Ev.bind (words_ev h) ?_)))⟩
  rw [List.length_map]
  exact hw
 ·
  exact ⟨(0, 0, false), Ev.bind e1 (Ev.ifF Bool.false_ne_true (Ev.now _)), Ev.bind e2 (Ev.ifF Bool.false_ne_true (Ev.now _))⟩
end MeanDescent
theorem FnExactMeanDescent : laws_FnExactMeanDescent.Pure := by
 intro l hl
 by_cases hs : l.length ≤ 1048576
 ·
  obtain ⟨r, h1, h2⟩ := MeanDescent.both (toN l)
  refine Ev.rounds ?_
  unfold laws_FnExactMeanDescent.f
  rw [szTrie_eq l hl, if_pos hs]
  refine Ev.some_bind (Ev.ifF (by omega) (Ev.bind (toTrie_ev l hs) (Ev.bind h1 (Ev.bind (toTrie_ev l hs) (Ev.bind h2 ?_)))))
  rw [eqA2_self]
  refine Ev.some_bind (Ev.ifT rfl (Ev.step (fun k => laws_FnExactMeanDescent.j0.eq_2 ..) (Ev.ifF (by simp) (Ev.bind (toTrie_ev l hs) (Ev.bind (eqTrie_ev _ (by rw [toN_length]; omega)) (Ev.ifT rfl (Ev.now _)))))))
 ·
  exact ⟨0, by unfold laws_FnExactMeanDescent.f; rw [szTrie_eq l hl, if_neg hs]; rfl⟩
end Go.Proofs.Ytgagmodkjmegeaa.Pure
namespace Go.Proofs.Ytgagmodkjmegeaa.fnExactMeanDescent
open Go.ChangeShapes Go.WideShapes Go.ChangeAt Go.RowKit Go.Proofs.Ytgagmodkjmegeaa.P
open Go.ChangeMaps (open_string shut_string)
set_option linter.unusedVariables false
theorem own : ownKnob Try.prog.godebug = none := by kernel_rfl
theorem laidOut : laidOutB Try.prog = true := by kernel_rfl
set_option maxRecDepth 100000 in
theorem lifted (os : Os) (started : os.Started) (H : Type) (enc : TypeId × Value → H) :
    ReturnsInHanded {} Try.checked os 11 .any (Rows.fnExactMeanDescentSpec.pre6 enc Try.prog Try.f11 Rows.fnExactMeanDescentRow.domain false) (Rows.fnExactMeanDescentSpec.post enc Try.prog Try.f11 false true false false) := by
  refine returnsInHanded_of_change_sized (C := Try.checked) own started (by kernel_rfl) Try.func11
    (ChangeSpec.witness6 (enc := enc) (C := Try.checked) false ⟨#[], #[.agg #[.slice none 0 0]], []⟩ 8 (by kernel_rfl) (by kernel_rfl) (by kernel_rfl) (by kernel_rfl)) ?_
  intro W base args ds gs before hval0 hW hcnd hsz0 _
  have hsz : (DataW.weightsEach Try.prog (Try.f11.params.toList ++ Rows.fnExactMeanDescentSpec.plain.varTypes Try.prog) (ds ++ gs)).all (· ≤ reachBytes) = true := hsz0
  have hval : ∀ (j : Nat) t v, Try.f11.params[j]? = some t → args[j]? = some v → Value.okWide Try.prog W .any base t v := hval0
  have hW' := hW
  obtain ⟨p, q, hA0, hV, rfl, hfz, hnd⟩ := hW
  have hA : DataW.TrodAll enc Try.prog W 0 (fun _ => true) true Try.f11.params.toList args.toList ds p := hA0
  rw [Try.params11] at hA hval hsz
  obtain ⟨v0, vs0, d0, ds0, p0, q0, hargs, rfl, rfl, h0, r0⟩ := trodAll_cons hA
  obtain ⟨rfl, rfl, rfl⟩ := trodAll_nil r0
  obtain rfl : args = #[v0] := by cases args; simp_all
  obtain ⟨rfl, rfl⟩ := trodVars_none hV
  have k0 := h0
  have lt0 : ∀ x ∈ p0, x.block < W.heap.size := by obtain ⟨m, hm⟩ := k0; exact DataW.trod_lt m _ _ _ hm
  obtain ⟨A0, c0, l0, ev0, hc0, hr0⟩ := OT.trie (hval 0 24 v0 rfl rfl) h0
  subst ev0
  clear hA0 hval0 hsz0 hsz
  refine (laws_FnExactMeanDescent.walk Pure.FnExactMeanDescent W A0 c0 l0 hr0 hc0).mono fun e W' ⟨he, bel⟩ => ?_
  subst he
  exact ⟨_, rfl, _, _, _, [], _, [], hW', trodAll_mk1 (shut_bool Try.underlying4 _), (trodAll_cons_mk (Below.trod laidOut (by kernel_rfl) (of_decide_eq_true (by kernel_rfl)) k0 bel lt0) trodAll_mk0), rfl, bel.frame _, fun h => by cases h⟩
theorem over : Rows.fnExactMeanDescentRow.holds Try.pinned (OpenSpec.ofChange Rows.fnExactMeanDescentSpec) :=
  OpenClaim.holds_of_wide 11 Try.f11 rfl rfl rfl rfl rfl rfl rfl ⟨rfl, rfl, rfl, rfl, rfl⟩ rfl rfl rfl rfl rfl (by kernel_rfl) Try.func11 (by kernel_rfl)
    (of_decide_eq_true (by kernel_rfl)) (by unfold Func.isWrapper; first | (rw [if_pos (by decide +kernel)]; kernel_rfl) | (rw [if_neg (by decide +kernel)]; exact ⟨rfl, rfl⟩))
    (fun os started H enc _ => lifted os started H enc)
theorem proved : Rows.FnExactMeanDescentSaid := over
end Go.Proofs.Ytgagmodkjmegeaa.fnExactMeanDescent
namespace Go.Proofs.Ytgagmodkjmegeaa
theorem fnExactMeanDescent_holds : Rows.FnExactMeanDescentSaid := fnExactMeanDescent.proved
end Go.Proofs.Ytgagmodkjmegeaa
