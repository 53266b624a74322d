/-
  Part 2 of the proof that FnExactInOrderCode returns true for every input: the functions that it reaches, each with its contract, and the law.
  Conditions: those of the given statement, no others.
-/
import Derived.Test.YtfbohppheodpkaaCFnExactInOrderCodeW0
import Derived.Test.YtfbohppheodpkaaRows
import Derived.WalkKit
import Derived.ProofKit
import Derived.OpenShut
import Derived.ShutString
import Derived.ChangeOld
import Derived.Below
import Derived.SizedLaws
import Derived.Test.YtfbohppheodpkaaCFnExactInOrderCode0
set_option linter.unusedVariables false
set_option linter.unusedSimpArgs false
namespace Go.Proofs.Ytfbohppheodpkaa.P
open Go.RowKit Go.Proofs.YtfbohppheodpkaaW.PrintWords Go.Proofs.YtfbohppheodpkaaW.PrintLast Go.Proofs.YtfbohppheodpkaaW.PrintMore
attribute [local go_sem] max2_int min2_int max_two min_two max_three min_three max_four min_four
set_option linter.unusedVariables false
set_option linter.unusedSimpArgs false
mutual
def impl_InOrderCode.j0 : Nat → List Int → Bool → Option (List Int × Int × Bool)
 | 0, _, _ => none
 | k + 1, x0, x17 => if x17 = true then (some (([] : List Int), 0, false)) else (if (x0.length : Int) = 1 then (if 0 < (x0.length : Int) then (some ((([1] : List Int)), rd x0 0, true)) else (none)) else ((impl_shapes.f k (x0.length : Int) 0).bind fun t207 => (impl_InOrderCode.l0 k x0 (([] : List Int)) (-1) t207 (t207.length : Int) 0)))
def impl_InOrderCode.l0 : Nat → List Int → List Int → Int → List (List Int) → Int → Int → Option (List Int × Int × Bool)
 | 0, _, _, _, _, _, _ => none
 | k + 1, x0, x5, x6, x28, x29, x30 => if x30 < x29 then (if 0 ≤ x30 then (if x30 < (x28.length : Int) then ((impl_costOf.f k (rd_L1 x28 x30) x0).bind fun t211 => (if x6 < 0 then (impl_InOrderCode.l0 k x0 (rd_L1 x28 x30) t211 x28 x29 (wrap64 (x30 + 1))) else (if t211 < x6 then (impl_InOrderCode.l0 k x0 (rd_L1 x28 x30) t211 x28 x29 (wrap64 (x30 + 1))) else (if t211 = x6 then ((slices_Compare_int_int.f k (rd_L1 x28 x30) x5).bind fun t212 => (if t212 < 0 then (impl_InOrderCode.l0 k x0 (rd_L1 x28 x30) t211 x28 x29 (wrap64 (x30 + 1))) else (impl_InOrderCode.l0 k x0 x5 x6 x28 x29 (wrap64 (x30 + 1))))) else (impl_InOrderCode.l0 k x0 x5 x6 x28 x29 (wrap64 (x30 + 1))))))) else (none)) else (none)) else (some (x5, x6, true))
end
def impl_InOrderCode.f (k : Nat) (l0 : List Int) : Option (List Int × Int × Bool) := (impl_areIn.f l0 999).bind fun t199 => (if t199 = true then (impl_InOrderCode.j0 k l0 (decide ((l0.length : Int) > 8))) else (impl_InOrderCode.j0 k l0 true))
theorem impl_InOrderCode.mono_l : ∀ k, (∀ y0 y1, LeO (impl_InOrderCode.j0 k y0 y1) (impl_InOrderCode.j0 (k + 1) y0 y1)) ∧ (∀ y0 y1 y2 y3 y4 y5, LeO (impl_InOrderCode.l0 k y0 y1 y2 y3 y4 y5) (impl_InOrderCode.l0 (k + 1) y0 y1 y2 y3 y4 y5))
 | 0 => ⟨fun _ _ r h => by simp [impl_InOrderCode.j0] at h, fun _ _ _ _ _ _ r h => by simp [impl_InOrderCode.l0] at h⟩
 | k + 1 => by
  obtain ⟨ih0, ih1⟩ := impl_InOrderCode.mono_l k
  refine ⟨?_, ?_⟩
  ·
   intro y0 y1
   unfold impl_InOrderCode.j0
   repeat' first
   | (with_reducible exact ih0 _ _)
   | (with_reducible exact ih1 _ _ _ _ _ _)
   | (with_reducible exact impl_costOf.mono _ _ _)
   | (with_reducible exact impl_shapes.mono _ _ _)
   | (with_reducible exact slices_Compare_int_int.mono _ _ _)
   | (with_reducible exact LeO.refl _)
   | (with_reducible exact LeO.none _)
   | (with_reducible refine LeO.ite ?_ ?_)
   | (with_reducible refine LeO.bind ?_ (fun _ => ?_))
   | exact ih0 _ _
   | exact ih1 _ _ _ _ _ _
   | exact impl_costOf.mono _ _ _
   | exact impl_shapes.mono _ _ _
   | exact slices_Compare_int_int.mono _ _ _
   | exact LeO.none _
   | refine LeO.ite ?_ ?_
   | refine LeO.bind ?_ (fun _ => ?_)
  ·
   intro y0 y1 y2 y3 y4 y5
   unfold impl_InOrderCode.l0
   repeat' first
   | (with_reducible exact ih0 _ _)
   | (with_reducible exact ih1 _ _ _ _ _ _)
   | (with_reducible exact impl_costOf.mono _ _ _)
   | (with_reducible exact impl_shapes.mono _ _ _)
   | (with_reducible exact slices_Compare_int_int.mono _ _ _)
   | (with_reducible exact LeO.refl _)
   | (with_reducible exact LeO.none _)
   | (with_reducible refine LeO.ite ?_ ?_)
   | (with_reducible refine LeO.bind ?_ (fun _ => ?_))
   | exact ih0 _ _
   | exact ih1 _ _ _ _ _ _
   | exact impl_costOf.mono _ _ _
   | exact impl_shapes.mono _ _ _
   | exact slices_Compare_int_int.mono _ _ _
   | exact LeO.none _
   | refine LeO.ite ?_ ?_
   | refine LeO.bind ?_ (fun _ => ?_)
theorem impl_InOrderCode.mono : ∀ a0 k, LeO (impl_InOrderCode.f k a0) (impl_InOrderCode.f (k + 1) a0) := by
 intro a0 k
 obtain ⟨ih0, ih1⟩ := impl_InOrderCode.mono_l k
 unfold impl_InOrderCode.f
 repeat' first
   | (with_reducible exact ih0 _ _)
   | (with_reducible exact ih1 _ _ _ _ _ _)
   | (with_reducible exact impl_costOf.mono _ _ _)
   | (with_reducible exact impl_shapes.mono _ _ _)
   | (with_reducible exact slices_Compare_int_int.mono _ _ _)
   | (with_reducible exact LeO.refl _)
   | (with_reducible exact LeO.none _)
   | (with_reducible refine LeO.ite ?_ ?_)
   | (with_reducible refine LeO.bind ?_ (fun _ => ?_))
   | exact ih0 _ _
   | exact ih1 _ _ _ _ _ _
   | exact impl_costOf.mono _ _ _
   | exact impl_shapes.mono _ _ _
   | exact slices_Compare_int_int.mono _ _ _
   | exact LeO.none _
   | refine LeO.ite ?_ ?_
   | refine LeO.bind ?_ (fun _ => ?_)
set_option maxHeartbeats 8000000 in
set_option maxRecDepth 100000 in
theorem impl_InOrderCode.calls (k : Nat) (A0 : Option Addr) (c0 : Nat) (l0 : List Int) (r1 : List Int) (r2 : Int) (r3 : Bool) (w : World) (hr0 : Kd.C (Kd.int .i64) w A0 l0.length l0) (hc0 : l0.length ≤ c0) (h : impl_InOrderCode.f k l0 = some (r1, r2, r3)) :
  Calls Try.prog 6 #[.slice A0 l0.length c0] w fun e w' => ∃ v0_ : Value, e = .returned (.tuple #[v0_, .int .i64 r2, .bool r3]) ∧ Kd.R (Kd.int .i64) 3 w' w.heap.size (fun _ => True) v0_ r1 ∧ Below w.heap.size w w' := by
 have HR0 := Aside0.mk hr0
 have HC0 := Aside0.mk hc0
 clear hr0 hc0
 have HB := Aside0.mk (Below.refl w.heap.size w)
 have H : ((impl_areIn.f l0 999).bind fun t199 => (if t199 = true then (impl_InOrderCode.j0 k l0 (decide ((l0.length : Int) > 8))) else (impl_InOrderCode.j0 k l0 true))) = some (r1, r2, r3) := h
 clear h
 have HC2 := Aside0.mk H
 clear H
 go_enter Try.func6, Try.ntmps6
 go_upto_region 1 with (fail)
 go_cut [17] (fun v17 wc => ∃ (kq : Nat) (x17_1 : Bool), v17 = .bool x17_1 ∧ Aside0 (impl_InOrderCode.j0 kq l0 x17_1 = some (r1, r2, r3)) ∧ Aside0 (kq ≤ k) ∧ Aside0 (Below w.heap.size w wc))
 case first =>
  have H := HC2.out
  clear HC2
  replace H := Option.bind_eq_some_iff.mp H
  obtain ⟨t199, A30, H⟩ := H
  replace H : (if t199 = true then (impl_InOrderCode.j0 k l0 (decide ((l0.length : Int) > 8))) else (impl_InOrderCode.j0 k l0 true)) = some (r1, r2, r3) := H
  have A3 := Aside0.mk A30
  clear A30
  by_cases c4 : t199 = true
  ·
   subst c4
   have H1 : (impl_InOrderCode.j0 k l0 (decide ((l0.length : Int) > 8))) = some (r1, r2, r3) := by rw [if_pos rfl] at H; exact H
   clear H
   have H := H1
   clear H1
   have H' := Aside0.mk H
   clear H
   go_wp2_with (first | ((with_reducible refine gate_callee (f := 14) rfl ?_); refine goesL_ (some 11) rfl rfl Try.func14 (by kernel_rfl) rfl #[.slice A0 l0.length c0, .int .i64 999] rfl (by (try simp only [List.map_toArray, List.map_cons, List.map_nil]); first | done | rfl | (simp only [List.length_drop, List.length_take]; rfl)) ?_; (with_reducible refine (impl_areIn.calls _ _ l0 999 true _ ?side1 ?side2 A3.out).mono ?_); (case side1 => repeat (first | exact (Kd.C_below HR0.out HB.out) | (with_reducible refine Kd.C_alloc ?_ _) | (with_reducible refine Kd.C_drewN ?_ _) | (with_reducible refine Kd.C_drew ?_))); (case side2 => exact HC0.out); rintro e w5 ⟨rfl, hb⟩; refine ⟨_, rfl, ?_⟩; have n0_ := Aside0.mk (below_step (by repeat (first | (with_reducible first | exact HB.out | apply below_alloc | apply pw_below_drewN | apply below_drew1) | exact HB.out)) hb); clear HB; have HB := n0_; clear n0_; (try clear hb); (try clear hb2); (try clear hk); (try clear hi)))
   go_meet
   case rel => exact ⟨_, (decide ((l0.length : Int) > 8)), (by first | rfl | (simp; done) | (simp [*]; done)), H', ⟨by first | omega | exact Nat.le_refl _⟩, ⟨by repeat (first | (with_reducible first | exact HB.out | apply below_alloc | apply pw_below_drewN | apply below_drew1) | exact HB.out)⟩⟩
  ·
   replace c4 := Bool.eq_false_iff.mpr c4
   subst c4
   have H1 : (impl_InOrderCode.j0 k l0 true) = some (r1, r2, r3) := by rw [if_neg (show ¬ (false = true) by decide)] at H; exact H
   clear H
   have H := H1
   clear H1
   have H' := Aside0.mk H
   clear H
   go_wp2_with (first | ((with_reducible refine gate_callee (f := 14) rfl ?_); refine goesL_ (some 11) rfl rfl Try.func14 (by kernel_rfl) rfl #[.slice A0 l0.length c0, .int .i64 999] rfl (by (try simp only [List.map_toArray, List.map_cons, List.map_nil]); first | done | rfl | (simp only [List.length_drop, List.length_take]; rfl)) ?_; (with_reducible refine (impl_areIn.calls _ _ l0 999 false _ ?side1 ?side2 A3.out).mono ?_); (case side1 => repeat (first | exact (Kd.C_below HR0.out HB.out) | (with_reducible refine Kd.C_alloc ?_ _) | (with_reducible refine Kd.C_drewN ?_ _) | (with_reducible refine Kd.C_drew ?_))); (case side2 => exact HC0.out); rintro e w6 ⟨rfl, hb⟩; refine ⟨_, rfl, ?_⟩; have n0_ := Aside0.mk (below_step (by repeat (first | (with_reducible first | exact HB.out | apply below_alloc | apply pw_below_drewN | apply below_drew1) | exact HB.out)) hb); clear HB; have HB := n0_; clear n0_; (try clear hb); (try clear hb2); (try clear hk); (try clear hi)))
   go_meet
   case rel => exact ⟨_, (true), (by first | rfl | (simp; done) | (simp [*]; done)), H', ⟨by first | omega | exact Nat.le_refl _⟩, ⟨by repeat (first | (with_reducible first | exact HB.out | apply below_alloc | apply pw_below_drewN | apply below_drew1) | exact HB.out)⟩⟩
 case rest =>
  clear HC2
  try clear c1
  try clear p2
  try clear c4
  try clear c6
  obtain ⟨kq, x17_1, rfl, HA, HJ1, HB⟩ := hcut
  cases kq with
  | zero => exact absurd HA.out (by simp [impl_InOrderCode.j0])
  | succ kj1 =>
   have H := HA.out
   clear HA
   simp only [impl_InOrderCode.j0] at H
   by_cases c7 : x17_1 = true
   ·
    subst c7
    have H1 : (some (([] : List Int), 0, false)) = some (r1, r2, r3) := by rw [if_pos rfl] at H; exact H
    clear H
    have H := H1
    clear H1
    simp only [Option.some.injEq, Prod.mk.injEq] at H
    obtain ⟨rfl, rfl, rfl⟩ := H
    go_wp2
    go_ret3
    exact ⟨_, by first | rfl | (simp [errW_none, errW_some] <;> rfl) | (simp [*, errW_none, errW_some] <;> rfl), (by first | exact Kd.R_nil _ _ _ _ _ | exact Kd.N_nil _ _ _ _ _ | exact Kd.V_nil _ _ _ _ _ | exact Kd.Q_nil _ _ _ _ _ | exact Kd.S_nil _ _ _ _ _), by repeat (first | (with_reducible first | exact HB.out | apply below_alloc | apply pw_below_drewN | apply below_drew1) | exact HB.out)⟩
   ·
    replace c7 := Bool.eq_false_iff.mpr c7
    subst c7
    have H1 : (if (l0.length : Int) = 1 then (if 0 < (l0.length : Int) then (some ((([1] : List Int)), rd l0 0, true)) else (none)) else ((impl_shapes.f kj1 (l0.length : Int) 0).bind fun t207 => (impl_InOrderCode.l0 kj1 l0 (([] : List Int)) (-1) t207 (t207.length : Int) 0))) = some (r1, r2, r3) := by rw [if_neg (show ¬ (false = true) by decide)] at H; exact H
    clear H
    have H := H1
    clear H1
    by_cases c8 : (l0.length : Int) = 1
    ·
     rw [if_pos c8] at H
     have c8b0 : ((l0.length : Int) == 1) = true := beq_iff_eq.mpr c8
     have c8b1 : ((l0.length : Int) != 1) = false := bne_eq_false_iff_eq.mpr c8
     clear c8
     obtain ⟨y200, hy200⟩ : ∃ y_ : List Int, y_ = (([1] : List Int)) := ⟨_, rfl⟩
     replace H : (if 0 < (l0.length : Int) then (some (y200, rd l0 0, true)) else (none)) = some (r1, r2, r3) := by first | (rw [hy200]; with_reducible exact H) | (have H2_ := (Option.bind_some _ _).symm.trans H; rw [hy200]; with_reducible exact H2_) | (have H2_ := (Option.bind_some _ _).symm.trans H; with_reducible exact H2_) | with_reducible exact H | (rw [hy200]; exact H) | exact H
     have Ny200 := Aside0.mk hy200
     clear hy200
     by_cases c9 : 0 < (l0.length : Int)
     ·
      rw [if_pos c9] at H
      have c9b0 : decide (0 < (l0.length : Int)) = true := decide_eq_true c9
      have c9b1 : decide (0 < l0.length) = true := decide_eq_true (by omega)
      clear c9
      simp only [Option.some.injEq, Prod.mk.injEq] at H
      obtain ⟨rfl, rfl, rfl⟩ := H
      try go_wp2
      have n0_ := Aside0.mk (below_drew1 HB.out)
      clear HB
      have HB := n0_
      clear n0_
      have p203 : 0 ≤ (0 : Int) := (by omega)
      have q203 : 0 < (l0.length : Int) := of_decide_eq_true (by first | (with_reducible assumption) | assumption)
      obtain ⟨ad203, e203, hx203_0⟩ := Kd.at_int HR0.out 0 p203 q203
      have hw203_0 := hx203_0
      (try rw [show ((0 : Int)).toNat = 0 from rfl] at hw203_0)
      (try rw [show 0 * 1 = 0 from rfl] at hw203_0)
      (try rw [Addr.add_zero'] at hw203_0)
      cases e203
      have qi203 : (0 < l0.length) = True := eq_true (by omega)
      (try rw [show ((0 : Int)).toNat = 0 from rfl] at hx203_0)
      (try rw [Addr.add_zero'] at hx203_0)
      replace hx203_0 := (HB.out.cell (World.block_lt_of_cell? w _ hx203_0)).trans hx203_0
      replace p203 := eq_true p203
      replace q203 := eq_true q203
      refine start_ (n := 7) (S := fun w' => w'.cell? ad203 = some (.int .i64 (rd l0 0))) (ds := []) #[false, false, false, false, false, false, false] (by kernel_rfl) rfl rfl (((HB.out.cell (World.block_lt_of_cell? w _ hw203_0)).trans hw203_0)) (fun hHeld => ?_)
      generalize wc.drew = w10 at HB hx203_0 hHeld ⊢
      refine pure_ (i := 1) (N := some 22) (v := ?_) (a' := ?_) #[false, true, false, false, false, false, false] rfl rfl (by kernel_rfl) (fun _ _ _ h => h) (Or.inl ⟨by rfl, ?_⟩) ?_ ?_
      rotate_left
      ·
       intro w'
       go_simp
       with_reducible rfl
      rotate_left
      ·
       simp only [Act.put, List.setIfInBounds_toArray, List.set_cons_zero, List.set_cons_succ, i64_w, i32_w]
       rfl
      refine pure_ (i := 2) (N := some 23) (v := ?_) (a' := ?_) #[false, true, true, false, false, false, false] rfl rfl (by kernel_rfl) (fun _ _ _ h => h) (Or.inl ⟨by rfl, ?_⟩) ?_ ?_
      rotate_left
      ·
       intro w'
       go_simp
       with_reducible rfl
      rotate_left
      ·
       simp only [Act.put, List.setIfInBounds_toArray, List.set_cons_zero, List.set_cons_succ, i64_w, i32_w]
       rfl
      refine take_ (i := 3) (N := some 24) (v := ?_) (a' := ?_) #[false, true, true, true, false, false, false] rfl rfl (by kernel_rfl) (fun _ _ _ h => h) (Or.inl ⟨by rfl, ?_⟩) hHeld ?_ ?_
      rotate_left
      ·
       intro w' s0
       go_simp
       with_reducible rfl
      rotate_left
      ·
       simp only [Act.put, List.setIfInBounds_toArray, List.set_cons_zero, List.set_cons_succ, i64_w, i32_w]
       rfl
      refine one_ (i := 0) (N := some 21) #[true, true, true, true, false, false, false] rfl rfl (by kernel_rfl) (by decide) (fun K hK => ?_)
      refine Kd.R_lit_step (Kd.int .i64) _ 3 ?hg (N := 21) ?hd (xs := ([1] : List Int)) (inner := [.int .i64 1]) (ok := fun _ => True) (okp := fun _ => True) ?hr ?hp (fun _ hk => hk) trivial (Below.refl _ _) (Nat.le_refl _) (by simp) ?_; (case hd => rfl); (case hg => rfl); (case hr => first | (go_simp; done) | (go_simp; rfl)); (case hp => exact (Reps.one (show Kd.M (Kd.int .i64) _ _ _ 1 [.int .i64 1] from rfl) (Reps.none _ _)))
      intro v201 w11 ho12 hb hg_ hnew_
      clear hg_ hnew_
      (first | rw [← Ny200.out] at ho12 | (simp only [Int.reduceToNat] at ho12; rw [← Ny200.out] at ho12))
      have n0_ := Aside0.mk (Kd.R_lower (Kd.R_newM (M := fun k_ => (w.heap.size ≤ k_)) ho12 (below_size (by repeat (first | (with_reducible first | exact HB.out | apply below_alloc | apply pw_below_drewN | apply below_drew1) | exact HB.out))) (fun k_ h_ => h_)) (below_size (by repeat (first | (with_reducible first | exact HB.out | apply below_alloc | apply pw_below_drewN | apply below_drew1) | exact HB.out))))
      have n1_ := Aside0.mk (below_step (by repeat (first | (with_reducible first | exact HB.out | apply below_alloc | apply pw_below_drewN | apply below_drew1) | exact HB.out)) hb)
      clear HB
      have HO202 := n0_
      have HB := n1_
      clear n0_ n1_
      clear hb ho12
      refine hK.out _ _ (((HB.out.cell (World.block_lt_of_cell? w _ hw203_0)).trans hw203_0)) (fun hHeld => ?_)
      clear hK K
      refine norm_ (a' := ?_) ?_ ?_
      rotate_left
      ·
       show Act.put _ (some 21) _ = _
       simp only [Act.put, List.setIfInBounds_toArray, List.set_cons_zero, List.set_cons_succ, i64_w, i32_w]
       rfl
      refine pure_ (i := 4) (N := some 2) (v := ?_) (a' := ?_) #[true, true, true, true, true, false, false] rfl rfl (by kernel_rfl) (fun _ _ _ h => h) (Or.inl ⟨by rfl, ?_⟩) ?_ ?_
      rotate_left
      ·
       intro w'
       go_simp
       with_reducible rfl
      rotate_left
      ·
       simp only [Act.put, List.setIfInBounds_toArray, List.set_cons_zero, List.set_cons_succ, i64_w, i32_w]
       rfl
      refine pure_ (i := 5) (N := some 3) (v := ?_) (a' := ?_) #[true, true, true, true, true, true, false] rfl rfl (by kernel_rfl) (fun _ _ _ h => h) (Or.inl ⟨by rfl, ?_⟩) ?_ ?_
      rotate_left
      ·
       intro w'
       go_simp
       with_reducible rfl
      rotate_left
      ·
       simp only [Act.put, List.setIfInBounds_toArray, List.set_cons_zero, List.set_cons_succ, i64_w, i32_w]
       rfl
      refine pure_ (i := 6) (N := some 4) (v := ?_) (a' := ?_) #[true, true, true, true, true, true, true] rfl rfl (by kernel_rfl) (fun _ _ _ h => h) (Or.inl ⟨by rfl, ?_⟩) ?_ ?_
      rotate_left
      ·
       intro w'
       go_simp
       with_reducible rfl
      rotate_left
      ·
       simp only [Act.put, List.setIfInBounds_toArray, List.set_cons_zero, List.set_cons_succ, i64_w, i32_w]
       rfl
      refine done_ (by kernel_rfl) ?_
      try go_wp2
      go_ret3
      exact ⟨_, by first | rfl | (simp [errW_none, errW_some] <;> rfl) | (simp [*, errW_none, errW_some] <;> rfl), (by (with_reducible repeat (first | apply Kd.R_alloc | apply Kd.R_drewN | apply Kd.R_drew)); exact Kd.R_mono HO202.out (fun _ _ => trivial)), by repeat (first | (with_reducible first | exact HB.out | apply below_alloc | apply pw_below_drewN | apply below_drew1) | exact HB.out)⟩
     ·
      rw [if_neg c9] at H
      exact absurd H (by simp)
    ·
     rw [if_neg c8] at H
     have c8b0 : ((l0.length : Int) == 1) = false := beq_eq_false_iff_ne.mpr c8
     have c8b1 : ((l0.length : Int) != 1) = true := bne_iff_ne.mpr c8
     obtain ⟨y204, hy204⟩ : ∃ y_ : List Int, y_ = (([] : List Int)) := ⟨_, rfl⟩
     replace H : ((impl_shapes.f kj1 (l0.length : Int) 0).bind fun t207 => (impl_InOrderCode.l0 kj1 l0 y204 (-1) t207 (t207.length : Int) 0)) = some (r1, r2, r3) := by first | (rw [hy204]; with_reducible exact H) | (have H2_ := (Option.bind_some _ _).symm.trans H; rw [hy204]; with_reducible exact H2_) | (have H2_ := (Option.bind_some _ _).symm.trans H; with_reducible exact H2_) | with_reducible exact H | (rw [hy204]; exact H) | exact H
     have Ny204 := Aside0.mk hy204
     clear hy204
     replace H := Option.bind_eq_some_iff.mp H
     obtain ⟨t207, A130, H⟩ := H
     replace H : (impl_InOrderCode.l0 kj1 l0 y204 (-1) t207 (t207.length : Int) 0) = some (r1, r2, r3) := H
     have A13 := Aside0.mk A130
     clear A130
     have H' := Aside0.mk H
     clear H
     go_wp2_with (first | ((with_reducible refine gate_dst (N := 25) rfl ?_); (try (refine gate_guard (by rfl) ?_; dsimp only)); refine Kd.R_lit (Kd.int .i64) _ 3 ?hg (N := 25) ?hd (xs := ([] : List Int)) (inner := []) (ok := fun _ => True) (okp := fun _ => True) ?hr ?hp (fun _ hk => hk) trivial (Below.refl _ _) (Nat.le_refl _) (by simp) ?_; (case hd => rfl); (case hg => rfl); (case hr => first | (go_simp; done) | (go_simp; rfl)); (case hp => exact (Reps.none _ _)); intro v205 w14 ho15 hb hg_ hnew_; clear hg_ hnew_; (first | rw [← Ny204.out] at ho15 | (simp only [Int.reduceToNat] at ho15; rw [← Ny204.out] at ho15)); have n0_ := Aside0.mk (Kd.R_lower (Kd.R_newM (M := fun k_ => (w.heap.size ≤ k_)) ho15 (below_size (by repeat (first | (with_reducible first | exact HB.out | apply below_alloc | apply pw_below_drewN | apply below_drew1) | exact HB.out))) (fun k_ h_ => h_)) (below_size (by repeat (first | (with_reducible first | exact HB.out | apply below_alloc | apply pw_below_drewN | apply below_drew1) | exact HB.out)))); have n1_ := Aside0.mk (below_step (by repeat (first | (with_reducible first | exact HB.out | apply below_alloc | apply pw_below_drewN | apply below_drew1) | exact HB.out)) hb); clear HB; have HO206 := n0_; have HB := n1_; clear n0_ n1_; clear hb ho15) | ((with_reducible refine gate_callee (f := 15) rfl ?_); refine goesL_ (some 28) rfl rfl Try.func15 (by kernel_rfl) rfl #[.int .i64 (l0.length : Int), .int .i64 0] rfl (by (try simp only [List.map_toArray, List.map_cons, List.map_nil]); first | done | rfl | (simp only [List.length_drop, List.length_take]; rfl)) ?_; (with_reducible refine (impl_shapes.calls kj1 (l0.length : Int) 0 t207 _ A13.out).mono ?_); rintro e w16 ⟨v208, rfl, ho0, hb⟩; refine ⟨_, rfl, ?_⟩; have n0_ := Aside0.mk (Kd.R_below (by (with_reducible repeat (first | apply Kd.R_alloc | apply Kd.R_drewN | apply Kd.R_drew)); exact HO206.out) hb); have n1_ := Aside0.mk (Kd.N_lower (Kd.N_mono (ok' := fun k_ => (w.heap.size ≤ k_) ∧ some k_ ≠ (v205 : Value).ownBlock) ho0 (fun k_ hk_ => ⟨(Nat.le_trans (below_size (by repeat (first | (with_reducible first | exact HB.out | apply below_alloc | apply pw_below_drewN | apply below_drew1) | exact HB.out))) hk_), (Kd.fresh' (Kd.R_lt (by (with_reducible repeat (first | apply Kd.R_alloc | apply Kd.R_drewN | apply Kd.R_drew)); exact HO206.out)) k_ hk_)⟩)) (below_size (by repeat (first | (with_reducible first | exact HB.out | apply below_alloc | apply pw_below_drewN | apply below_drew1) | exact HB.out)))); have n2_ := Aside0.mk (below_step (by repeat (first | (with_reducible first | exact HB.out | apply below_alloc | apply pw_below_drewN | apply below_drew1) | exact HB.out)) hb); clear HO206; clear HB; have HO206 := n0_; have HO209 := n1_; have HB := n2_; clear n0_ n1_ n2_; (try clear hb); (try clear hb2); (try clear hk); (try clear hi); (try clear ho0); obtain ⟨Ao17, co17, eo17⟩ := Kd.N_slice HO209.out; subst eo17))
     go_loopg [5, 6, 30] kj1 (fun kq v5 v6 v30 w' => ∃ (x5_2 : List Int) (x6_2 : Int) (x30_2 : Int), v6 = .int .i64 x6_2 ∧ v30 = .int .i64 x30_2 ∧ Aside0 (impl_InOrderCode.l0 kq l0 x5_2 x6_2 t207 (t207.length : Int) x30_2 = some (r1, r2, r3)) ∧ Aside0 (kq ≤ kj1) ∧ Aside0 (OV w' w.heap.size (fun k_ => (w.heap.size ≤ k_) ∧ some k_ ≠ ((.slice Ao17 t207.length co17) : Value).ownBlock) v5 x5_2) ∧ Aside0 (Kd.N ownL 22 w' w.heap.size (fun k_ => (w.heap.size ≤ k_)) (.slice Ao17 t207.length co17) t207) ∧ Aside0 (Below w.heap.size w w'))
     case atStart => exact ⟨(y204), ((-1)), (0), (by first | rfl | (simp; done) | (simp [*]; done)), (by first | rfl | (simp; done) | (simp [*]; done)), H', ⟨Nat.le_refl _⟩, ⟨OV_of_R (by (with_reducible repeat (first | apply Kd.R_alloc | apply Kd.R_drewN | apply Kd.R_drew)); exact Kd.R_mono (Kd.R_apart' HO206.out (Kd.N_typed HO209.out) (by decide)) (fun _ hk => ⟨hk.1.1, hk.2⟩))⟩, ⟨by (with_reducible repeat (first | apply Kd.N_alloc | apply Kd.N_drewN | apply Kd.N_drew)); exact Kd.N_mono HO209.out (fun _ hk => hk.1)⟩, ⟨by repeat (first | (with_reducible first | exact HB.out | apply below_alloc | apply pw_below_drewN | apply below_drew1) | exact HB.out)⟩⟩
     case round =>
      clear H'
      try clear c1
      try clear p2
      try clear q2
      try clear hx2
      try clear qi2
      try clear c4
      try clear c6
      try clear c7
      try clear c8
      try clear c8b0
      try clear c8b1
      try clear c9
      try clear c9b0
      try clear c9b1
      try clear c14
      try clear c15
      try clear hx203_0
      try clear p2
      try clear p203
      try clear q203
      obtain ⟨x5_2, x6_2, x30_2, rfl, rfl, HA, HK2, HO_5, HO_28, HB⟩ := hrel
      cases gk with
      | zero => exact absurd HA.out (by simp [impl_InOrderCode.l0])
      | succ k2 =>
       have H := HA.out
       clear HA
       simp only [impl_InOrderCode.l0] at H
       by_cases c18 : x30_2 < (t207.length : Int)
       ·
        rw [if_pos c18] at H
        have c18b0 : decide (x30_2 < (t207.length : Int)) = true := decide_eq_true c18
        clear c18
        by_cases c19 : 0 ≤ x30_2
        ·
         rw [if_pos c19] at H
         have c19b0 : decide (0 ≤ x30_2) = true := decide_eq_true c19
         clear c19
         by_cases c20 : x30_2 < (t207.length : Int)
         ·
          rw [if_pos c20] at H
          have c20b0 : decide (x30_2 < (t207.length : Int)) = true := decide_eq_true c20
          clear c20
          replace H := Option.bind_eq_some_iff.mp H
          obtain ⟨t211, A210, H⟩ := H
          replace H : (if x6_2 < 0 then (impl_InOrderCode.l0 k2 l0 (rd_L1 t207 x30_2) t211 t207 (t207.length : Int) (wrap64 (x30_2 + 1))) else (if t211 < x6_2 then (impl_InOrderCode.l0 k2 l0 (rd_L1 t207 x30_2) t211 t207 (t207.length : Int) (wrap64 (x30_2 + 1))) else (if t211 = x6_2 then ((slices_Compare_int_int.f k2 (rd_L1 t207 x30_2) x5_2).bind fun t212 => (if t212 < 0 then (impl_InOrderCode.l0 k2 l0 (rd_L1 t207 x30_2) t211 t207 (t207.length : Int) (wrap64 (x30_2 + 1))) else (impl_InOrderCode.l0 k2 l0 x5_2 x6_2 t207 (t207.length : Int) (wrap64 (x30_2 + 1))))) else (impl_InOrderCode.l0 k2 l0 x5_2 x6_2 t207 (t207.length : Int) (wrap64 (x30_2 + 1)))))) = some (r1, r2, r3) := H
          have A21 := Aside0.mk A210
          clear A210
          by_cases c22 : x6_2 < 0
          ·
           rw [if_pos c22] at H
           have c22b0 : decide (x6_2 < 0) = true := decide_eq_true c22
           clear c22
           have H' := Aside0.mk H
           clear H
           have p210 : 0 ≤ (x30_2 : Int) := of_decide_eq_true (by first | (with_reducible assumption) | assumption)
           have q210 : x30_2 < (t207.length : Int) := of_decide_eq_true (by first | (with_reducible assumption) | assumption)
           obtain ⟨ad210, A210_0, c210_0, e210, hx210_0, hl210_0, hi210_0⟩ := ownL_at (Kd.N_reads' HO_28.out).2.2 x30_2 p210 q210
           cases e210
           obtain ⟨ce210, hce210, hMe210, hcc210⟩ := Kd.N_get HO_28.out [] x30_2 p210 (by first | exact q210 | exact of_decide_eq_true (by first | (with_reducible assumption) | assumption) | (have e_ := (Kd.N_reads' HO_28.out).1; omega))
           obtain ⟨ua210_0, uc210_0, rfl, ge210_0⟩ := ownL_foot w.heap.size hMe210
           have hv210_0 := hcc210 0 _ rfl
           rw [Nat.add_zero, show (ownL).sz = 1 from rfl, Nat.mul_one] at hv210_0
           replace hv210_0 := Option.some.inj (hv210_0.symm.trans hx210_0)
           injection hv210_0 with hva_ hvn_ hvc_
           rw [hva_, hvc_] at ge210_0
           have HL210_0 := Aside0.mk (show OV _ w.heap.size _ _ (rd_L1 t207 x30_2) from ge210_0)
           clear hva_ hvn_ hvc_ ge210_0
           clear hcc210 hce210
           have HR210_0 := Aside0.mk hi210_0
           have HC210_0 := Aside0.mk hl210_0
           clear hi210_0 hl210_0
           replace p210 := eq_true p210
           replace q210 := eq_true q210
           go_wp2_with (first | ((with_reducible refine gate_callee (f := 16) rfl ?_); refine goesL_ (some 36) rfl rfl Try.func16 (by kernel_rfl) rfl #[.slice A210_0 (rd_L1 t207 x30_2).length c210_0, .slice A0 l0.length c0] rfl (by (try simp only [List.map_toArray, List.map_cons, List.map_nil]); first | done | rfl | (simp only [List.length_drop, List.length_take]; rfl)) ?_; (with_reducible refine (impl_costOf.calls k2 _ _ (rd_L1 t207 x30_2) _ _ l0 t211 _ ?side1 ?side2 ?side3 ?side4 A21.out).mono ?_); (case side1 => repeat (first | exact (by repeat (first | (with_reducible exact HR210_0.out) | (with_reducible refine Kd.C_alloc ?_ _) | (with_reducible refine Kd.C_drewN ?_ _) | (with_reducible refine Kd.C_drew ?_) | exact HR210_0.out)) | (with_reducible refine Kd.C_alloc ?_ _) | (with_reducible refine Kd.C_drewN ?_ _) | (with_reducible refine Kd.C_drew ?_))); (case side2 => exact HC210_0.out); (case side3 => repeat (first | exact (Kd.C_below HR0.out HB.out) | (with_reducible refine Kd.C_alloc ?_ _) | (with_reducible refine Kd.C_drewN ?_ _) | (with_reducible refine Kd.C_drew ?_))); (case side4 => exact HC0.out); rintro e w' ⟨rfl, ⟨nd, rfl⟩⟩; refine ⟨_, rfl, ?_⟩))
           go_roundg k2
           case measure => have := HJ1.out; have := HK2.out; omega
           case rel => exact ⟨(rd_L1 t207 x30_2), (t211), (wrap64 (x30_2 + 1)), (by first | rfl | (simp; done) | (simp [*]; done)), (by first | rfl | (simp; done) | (simp [*]; done)), H', ⟨by have := HJ1.out; have := HK2.out; omega⟩, ⟨by (with_reducible repeat (first | apply OV_alloc | apply OV_drewN | apply OV_drew)); exact HL210_0.out⟩, ⟨by (with_reducible repeat (first | apply Kd.N_alloc | apply Kd.N_drewN | apply Kd.N_drew)); exact HO_28.out⟩, ⟨by repeat (first | (with_reducible first | exact HB.out | apply below_alloc | apply pw_below_drewN | apply below_drew1) | exact HB.out)⟩⟩
          ·
           rw [if_neg c22] at H
           have c22b0 : decide (x6_2 < 0) = false := decide_eq_false c22
           clear c22
           by_cases c23 : t211 < x6_2
           ·
            rw [if_pos c23] at H
            have c23b0 : decide (t211 < x6_2) = true := decide_eq_true c23
            clear c23
            have H' := Aside0.mk H
            clear H
            have p210 : 0 ≤ (x30_2 : Int) := of_decide_eq_true (by first | (with_reducible assumption) | assumption)
            have q210 : x30_2 < (t207.length : Int) := of_decide_eq_true (by first | (with_reducible assumption) | assumption)
            obtain ⟨ad210, A210_0, c210_0, e210, hx210_0, hl210_0, hi210_0⟩ := ownL_at (Kd.N_reads' HO_28.out).2.2 x30_2 p210 q210
            cases e210
            obtain ⟨ce210, hce210, hMe210, hcc210⟩ := Kd.N_get HO_28.out [] x30_2 p210 (by first | exact q210 | exact of_decide_eq_true (by first | (with_reducible assumption) | assumption) | (have e_ := (Kd.N_reads' HO_28.out).1; omega))
            obtain ⟨ua210_0, uc210_0, rfl, ge210_0⟩ := ownL_foot w.heap.size hMe210
            have hv210_0 := hcc210 0 _ rfl
            rw [Nat.add_zero, show (ownL).sz = 1 from rfl, Nat.mul_one] at hv210_0
            replace hv210_0 := Option.some.inj (hv210_0.symm.trans hx210_0)
            injection hv210_0 with hva_ hvn_ hvc_
            rw [hva_, hvc_] at ge210_0
            have HL210_0 := Aside0.mk (show OV _ w.heap.size _ _ (rd_L1 t207 x30_2) from ge210_0)
            clear hva_ hvn_ hvc_ ge210_0
            clear hcc210 hce210
            have HR210_0 := Aside0.mk hi210_0
            have HC210_0 := Aside0.mk hl210_0
            clear hi210_0 hl210_0
            replace p210 := eq_true p210
            replace q210 := eq_true q210
            go_wp2_with (first | ((with_reducible refine gate_callee (f := 16) rfl ?_); refine goesL_ (some 36) rfl rfl Try.func16 (by kernel_rfl) rfl #[.slice A210_0 (rd_L1 t207 x30_2).length c210_0, .slice A0 l0.length c0] rfl (by (try simp only [List.map_toArray, List.map_cons, List.map_nil]); first | done | rfl | (simp only [List.length_drop, List.length_take]; rfl)) ?_; (with_reducible refine (impl_costOf.calls k2 _ _ (rd_L1 t207 x30_2) _ _ l0 t211 _ ?side1 ?side2 ?side3 ?side4 A21.out).mono ?_); (case side1 => repeat (first | exact (by repeat (first | (with_reducible exact HR210_0.out) | (with_reducible refine Kd.C_alloc ?_ _) | (with_reducible refine Kd.C_drewN ?_ _) | (with_reducible refine Kd.C_drew ?_) | exact HR210_0.out)) | (with_reducible refine Kd.C_alloc ?_ _) | (with_reducible refine Kd.C_drewN ?_ _) | (with_reducible refine Kd.C_drew ?_))); (case side2 => exact HC210_0.out); (case side3 => repeat (first | exact (Kd.C_below HR0.out HB.out) | (with_reducible refine Kd.C_alloc ?_ _) | (with_reducible refine Kd.C_drewN ?_ _) | (with_reducible refine Kd.C_drew ?_))); (case side4 => exact HC0.out); rintro e w' ⟨rfl, ⟨nd, rfl⟩⟩; refine ⟨_, rfl, ?_⟩))
            go_roundg k2
            case measure => have := HJ1.out; have := HK2.out; omega
            case rel => exact ⟨(rd_L1 t207 x30_2), (t211), (wrap64 (x30_2 + 1)), (by first | rfl | (simp; done) | (simp [*]; done)), (by first | rfl | (simp; done) | (simp [*]; done)), H', ⟨by have := HJ1.out; have := HK2.out; omega⟩, ⟨by (with_reducible repeat (first | apply OV_alloc | apply OV_drewN | apply OV_drew)); exact HL210_0.out⟩, ⟨by (with_reducible repeat (first | apply Kd.N_alloc | apply Kd.N_drewN | apply Kd.N_drew)); exact HO_28.out⟩, ⟨by repeat (first | (with_reducible first | exact HB.out | apply below_alloc | apply pw_below_drewN | apply below_drew1) | exact HB.out)⟩⟩
           ·
            rw [if_neg c23] at H
            have c23b0 : decide (t211 < x6_2) = false := decide_eq_false c23
            clear c23
            by_cases c24 : t211 = x6_2
            ·
             rw [if_pos c24] at H
             have c24b0 : (t211 == x6_2) = true := beq_iff_eq.mpr c24
             have c24b1 : (t211 != x6_2) = false := bne_eq_false_iff_eq.mpr c24
             clear c24
             replace H := Option.bind_eq_some_iff.mp H
             obtain ⟨t212, A250, H⟩ := H
             replace H : (if t212 < 0 then (impl_InOrderCode.l0 k2 l0 (rd_L1 t207 x30_2) t211 t207 (t207.length : Int) (wrap64 (x30_2 + 1))) else (impl_InOrderCode.l0 k2 l0 x5_2 x6_2 t207 (t207.length : Int) (wrap64 (x30_2 + 1)))) = some (r1, r2, r3) := H
             have A25 := Aside0.mk A250
             clear A250
             by_cases c26 : t212 < 0
             ·
              rw [if_pos c26] at H
              have c26b0 : decide (t212 < 0) = true := decide_eq_true c26
              clear c26
              have H' := Aside0.mk H
              clear H
              have p210 : 0 ≤ (x30_2 : Int) := of_decide_eq_true (by first | (with_reducible assumption) | assumption)
              have q210 : x30_2 < (t207.length : Int) := of_decide_eq_true (by first | (with_reducible assumption) | assumption)
              obtain ⟨ad210, A210_0, c210_0, e210, hx210_0, hl210_0, hi210_0⟩ := ownL_at (Kd.N_reads' HO_28.out).2.2 x30_2 p210 q210
              cases e210
              obtain ⟨ce210, hce210, hMe210, hcc210⟩ := Kd.N_get HO_28.out [] x30_2 p210 (by first | exact q210 | exact of_decide_eq_true (by first | (with_reducible assumption) | assumption) | (have e_ := (Kd.N_reads' HO_28.out).1; omega))
              obtain ⟨ua210_0, uc210_0, rfl, ge210_0⟩ := ownL_foot w.heap.size hMe210
              have hv210_0 := hcc210 0 _ rfl
              rw [Nat.add_zero, show (ownL).sz = 1 from rfl, Nat.mul_one] at hv210_0
              replace hv210_0 := Option.some.inj (hv210_0.symm.trans hx210_0)
              injection hv210_0 with hva_ hvn_ hvc_
              rw [hva_, hvc_] at ge210_0
              have HL210_0 := Aside0.mk (show OV _ w.heap.size _ _ (rd_L1 t207 x30_2) from ge210_0)
              clear hva_ hvn_ hvc_ ge210_0
              clear hcc210 hce210
              have HR210_0 := Aside0.mk hi210_0
              have HC210_0 := Aside0.mk hl210_0
              clear hi210_0 hl210_0
              replace p210 := eq_true p210
              replace q210 := eq_true q210
              go_wp2_with (first | ((with_reducible refine gate_callee (f := 16) rfl ?_); refine goesL_ (some 36) rfl rfl Try.func16 (by kernel_rfl) rfl #[.slice A210_0 (rd_L1 t207 x30_2).length c210_0, .slice A0 l0.length c0] rfl (by (try simp only [List.map_toArray, List.map_cons, List.map_nil]); first | done | rfl | (simp only [List.length_drop, List.length_take]; rfl)) ?_; (with_reducible refine (impl_costOf.calls k2 _ _ (rd_L1 t207 x30_2) _ _ l0 t211 _ ?side1 ?side2 ?side3 ?side4 A21.out).mono ?_); (case side1 => repeat (first | exact (by repeat (first | (with_reducible exact HR210_0.out) | (with_reducible refine Kd.C_alloc ?_ _) | (with_reducible refine Kd.C_drewN ?_ _) | (with_reducible refine Kd.C_drew ?_) | exact HR210_0.out)) | (with_reducible refine Kd.C_alloc ?_ _) | (with_reducible refine Kd.C_drewN ?_ _) | (with_reducible refine Kd.C_drew ?_))); (case side2 => exact HC210_0.out); (case side3 => repeat (first | exact (Kd.C_below HR0.out HB.out) | (with_reducible refine Kd.C_alloc ?_ _) | (with_reducible refine Kd.C_drewN ?_ _) | (with_reducible refine Kd.C_drew ?_))); (case side4 => exact HC0.out); rintro e w' ⟨rfl, ⟨nd, rfl⟩⟩; refine ⟨_, rfl, ?_⟩; obtain ⟨Ao27, co27, eo27⟩ := OV_slice HO_5.out; subst eo27) | (go_at_call 17; (with_reducible refine (slices_Compare_int_int.calls k2 _ _ (rd_L1 t207 x30_2) _ _ x5_2 t212 _ ?side1 ?side2 ?side3 ?side4 A25.out).mono ?_); (case side1 => repeat (first | exact (by repeat (first | (with_reducible exact HR210_0.out) | (with_reducible refine Kd.C_alloc ?_ _) | (with_reducible refine Kd.C_drewN ?_ _) | (with_reducible refine Kd.C_drew ?_) | exact HR210_0.out)) | (with_reducible refine Kd.C_alloc ?_ _) | (with_reducible refine Kd.C_drewN ?_ _) | (with_reducible refine Kd.C_drew ?_))); (case side2 => exact HC210_0.out); (case side3 => repeat (first | exact (OV_reads' HO_5.out).2.2 | (with_reducible refine Kd.C_alloc ?_ _) | (with_reducible refine Kd.C_drewN ?_ _) | (with_reducible refine Kd.C_drew ?_))); (case side4 => exact (OV_reads' HO_5.out).2.1); rintro e w' ⟨rfl, ⟨nd, rfl⟩⟩))
              go_roundg k2
              case measure => have := HJ1.out; have := HK2.out; omega
              case rel => exact ⟨(rd_L1 t207 x30_2), (t211), (wrap64 (x30_2 + 1)), (by first | rfl | (simp; done) | (simp [*]; done)), (by first | rfl | (simp; done) | (simp [*]; done)), H', ⟨by have := HJ1.out; have := HK2.out; omega⟩, ⟨by (with_reducible repeat (first | apply OV_alloc | apply OV_drewN | apply OV_drew)); exact HL210_0.out⟩, ⟨by (with_reducible repeat (first | apply Kd.N_alloc | apply Kd.N_drewN | apply Kd.N_drew)); exact HO_28.out⟩, ⟨by repeat (first | (with_reducible first | exact HB.out | apply below_alloc | apply pw_below_drewN | apply below_drew1) | exact HB.out)⟩⟩
             ·
              rw [if_neg c26] at H
              have c26b0 : decide (t212 < 0) = false := decide_eq_false c26
              clear c26
              have H' := Aside0.mk H
              clear H
              have p210 : 0 ≤ (x30_2 : Int) := of_decide_eq_true (by first | (with_reducible assumption) | assumption)
              have q210 : x30_2 < (t207.length : Int) := of_decide_eq_true (by first | (with_reducible assumption) | assumption)
              obtain ⟨ad210, A210_0, c210_0, e210, hx210_0, hl210_0, hi210_0⟩ := ownL_at (Kd.N_reads' HO_28.out).2.2 x30_2 p210 q210
              cases e210
              obtain ⟨ce210, hce210, hMe210, hcc210⟩ := Kd.N_get HO_28.out [] x30_2 p210 (by first | exact q210 | exact of_decide_eq_true (by first | (with_reducible assumption) | assumption) | (have e_ := (Kd.N_reads' HO_28.out).1; omega))
              obtain ⟨ua210_0, uc210_0, rfl, ge210_0⟩ := ownL_foot w.heap.size hMe210
              have hv210_0 := hcc210 0 _ rfl
              rw [Nat.add_zero, show (ownL).sz = 1 from rfl, Nat.mul_one] at hv210_0
              replace hv210_0 := Option.some.inj (hv210_0.symm.trans hx210_0)
              injection hv210_0 with hva_ hvn_ hvc_
              rw [hva_, hvc_] at ge210_0
              have HL210_0 := Aside0.mk (show OV _ w.heap.size _ _ (rd_L1 t207 x30_2) from ge210_0)
              clear hva_ hvn_ hvc_ ge210_0
              clear hcc210 hce210
              have HR210_0 := Aside0.mk hi210_0
              have HC210_0 := Aside0.mk hl210_0
              clear hi210_0 hl210_0
              replace p210 := eq_true p210
              replace q210 := eq_true q210
              go_wp2_with (first | ((with_reducible refine gate_callee (f := 16) rfl ?_); refine goesL_ (some 36) rfl rfl Try.func16 (by kernel_rfl) rfl #[.slice A210_0 (rd_L1 t207 x30_2).length c210_0, .slice A0 l0.length c0] rfl (by (try simp only [List.map_toArray, List.map_cons, List.map_nil]); first | done | rfl | (simp only [List.length_drop, List.length_take]; rfl)) ?_; (with_reducible refine (impl_costOf.calls k2 _ _ (rd_L1 t207 x30_2) _ _ l0 t211 _ ?side1 ?side2 ?side3 ?side4 A21.out).mono ?_); (case side1 => repeat (first | exact (by repeat (first | (with_reducible exact HR210_0.out) | (with_reducible refine Kd.C_alloc ?_ _) | (with_reducible refine Kd.C_drewN ?_ _) | (with_reducible refine Kd.C_drew ?_) | exact HR210_0.out)) | (with_reducible refine Kd.C_alloc ?_ _) | (with_reducible refine Kd.C_drewN ?_ _) | (with_reducible refine Kd.C_drew ?_))); (case side2 => exact HC210_0.out); (case side3 => repeat (first | exact (Kd.C_below HR0.out HB.out) | (with_reducible refine Kd.C_alloc ?_ _) | (with_reducible refine Kd.C_drewN ?_ _) | (with_reducible refine Kd.C_drew ?_))); (case side4 => exact HC0.out); rintro e w' ⟨rfl, ⟨nd, rfl⟩⟩; refine ⟨_, rfl, ?_⟩; obtain ⟨Ao28, co28, eo28⟩ := OV_slice HO_5.out; subst eo28) | (go_at_call 17; (with_reducible refine (slices_Compare_int_int.calls k2 _ _ (rd_L1 t207 x30_2) _ _ x5_2 t212 _ ?side1 ?side2 ?side3 ?side4 A25.out).mono ?_); (case side1 => repeat (first | exact (by repeat (first | (with_reducible exact HR210_0.out) | (with_reducible refine Kd.C_alloc ?_ _) | (with_reducible refine Kd.C_drewN ?_ _) | (with_reducible refine Kd.C_drew ?_) | exact HR210_0.out)) | (with_reducible refine Kd.C_alloc ?_ _) | (with_reducible refine Kd.C_drewN ?_ _) | (with_reducible refine Kd.C_drew ?_))); (case side2 => exact HC210_0.out); (case side3 => repeat (first | exact (OV_reads' HO_5.out).2.2 | (with_reducible refine Kd.C_alloc ?_ _) | (with_reducible refine Kd.C_drewN ?_ _) | (with_reducible refine Kd.C_drew ?_))); (case side4 => exact (OV_reads' HO_5.out).2.1); rintro e w' ⟨rfl, ⟨nd, rfl⟩⟩))
              go_roundg k2
              case measure => have := HJ1.out; have := HK2.out; omega
              case rel => exact ⟨(x5_2), (x6_2), (wrap64 (x30_2 + 1)), (by first | rfl | (simp; done) | (simp [*]; done)), (by first | rfl | (simp; done) | (simp [*]; done)), H', ⟨by have := HJ1.out; have := HK2.out; omega⟩, ⟨by (with_reducible repeat (first | apply OV_alloc | apply OV_drewN | apply OV_drew)); exact HO_5.out⟩, ⟨by (with_reducible repeat (first | apply Kd.N_alloc | apply Kd.N_drewN | apply Kd.N_drew)); exact HO_28.out⟩, ⟨by repeat (first | (with_reducible first | exact HB.out | apply below_alloc | apply pw_below_drewN | apply below_drew1) | exact HB.out)⟩⟩
            ·
             rw [if_neg c24] at H
             have c24b0 : (t211 == x6_2) = false := beq_eq_false_iff_ne.mpr c24
             have c24b1 : (t211 != x6_2) = true := bne_iff_ne.mpr c24
             have H' := Aside0.mk H
             clear H
             have p210 : 0 ≤ (x30_2 : Int) := of_decide_eq_true (by first | (with_reducible assumption) | assumption)
             have q210 : x30_2 < (t207.length : Int) := of_decide_eq_true (by first | (with_reducible assumption) | assumption)
             obtain ⟨ad210, A210_0, c210_0, e210, hx210_0, hl210_0, hi210_0⟩ := ownL_at (Kd.N_reads' HO_28.out).2.2 x30_2 p210 q210
             cases e210
             obtain ⟨ce210, hce210, hMe210, hcc210⟩ := Kd.N_get HO_28.out [] x30_2 p210 (by first | exact q210 | exact of_decide_eq_true (by first | (with_reducible assumption) | assumption) | (have e_ := (Kd.N_reads' HO_28.out).1; omega))
             obtain ⟨ua210_0, uc210_0, rfl, ge210_0⟩ := ownL_foot w.heap.size hMe210
             have hv210_0 := hcc210 0 _ rfl
             rw [Nat.add_zero, show (ownL).sz = 1 from rfl, Nat.mul_one] at hv210_0
             replace hv210_0 := Option.some.inj (hv210_0.symm.trans hx210_0)
             injection hv210_0 with hva_ hvn_ hvc_
             rw [hva_, hvc_] at ge210_0
             have HL210_0 := Aside0.mk (show OV _ w.heap.size _ _ (rd_L1 t207 x30_2) from ge210_0)
             clear hva_ hvn_ hvc_ ge210_0
             clear hcc210 hce210
             have HR210_0 := Aside0.mk hi210_0
             have HC210_0 := Aside0.mk hl210_0
             clear hi210_0 hl210_0
             replace p210 := eq_true p210
             replace q210 := eq_true q210
             go_wp2_with (first | ((with_reducible refine gate_callee (f := 16) rfl ?_); refine goesL_ (some 36) rfl rfl Try.func16 (by kernel_rfl) rfl #[.slice A210_0 (rd_L1 t207 x30_2).length c210_0, .slice A0 l0.length c0] rfl (by (try simp only [List.map_toArray, List.map_cons, List.map_nil]); first | done | rfl | (simp only [List.length_drop, List.length_take]; rfl)) ?_; (with_reducible refine (impl_costOf.calls k2 _ _ (rd_L1 t207 x30_2) _ _ l0 t211 _ ?side1 ?side2 ?side3 ?side4 A21.out).mono ?_); (case side1 => repeat (first | exact (by repeat (first | (with_reducible exact HR210_0.out) | (with_reducible refine Kd.C_alloc ?_ _) | (with_reducible refine Kd.C_drewN ?_ _) | (with_reducible refine Kd.C_drew ?_) | exact HR210_0.out)) | (with_reducible refine Kd.C_alloc ?_ _) | (with_reducible refine Kd.C_drewN ?_ _) | (with_reducible refine Kd.C_drew ?_))); (case side2 => exact HC210_0.out); (case side3 => repeat (first | exact (Kd.C_below HR0.out HB.out) | (with_reducible refine Kd.C_alloc ?_ _) | (with_reducible refine Kd.C_drewN ?_ _) | (with_reducible refine Kd.C_drew ?_))); (case side4 => exact HC0.out); rintro e w' ⟨rfl, ⟨nd, rfl⟩⟩; refine ⟨_, rfl, ?_⟩))
             go_roundg k2
             case measure => have := HJ1.out; have := HK2.out; omega
             case rel => exact ⟨(x5_2), (x6_2), (wrap64 (x30_2 + 1)), (by first | rfl | (simp; done) | (simp [*]; done)), (by first | rfl | (simp; done) | (simp [*]; done)), H', ⟨by have := HJ1.out; have := HK2.out; omega⟩, ⟨by (with_reducible repeat (first | apply OV_alloc | apply OV_drewN | apply OV_drew)); exact HO_5.out⟩, ⟨by (with_reducible repeat (first | apply Kd.N_alloc | apply Kd.N_drewN | apply Kd.N_drew)); exact HO_28.out⟩, ⟨by repeat (first | (with_reducible first | exact HB.out | apply below_alloc | apply pw_below_drewN | apply below_drew1) | exact HB.out)⟩⟩
         ·
          rw [if_neg c20] at H
          exact absurd H (by simp)
        ·
         rw [if_neg c19] at H
         exact absurd H (by simp)
       ·
        rw [if_neg c18] at H
        have c18b0 : decide (x30_2 < (t207.length : Int)) = false := decide_eq_false c18
        clear c18
        simp only [Option.some.injEq, Prod.mk.injEq] at H
        obtain ⟨rfl, rfl, rfl⟩ := H
        go_wp2
        go_ret3
        exact ⟨_, by first | rfl | (simp [errW_none, errW_some] <;> rfl) | (simp [*, errW_none, errW_some] <;> rfl), OV_R HO_5.out (fun _ hk => ⟨hk.1, trivial⟩), by repeat (first | (with_reducible first | exact HB.out | apply below_alloc | apply pw_below_drewN | apply below_drew1) | exact HB.out)⟩
def laws_eqIntS.l0 : Nat → List Int → List Int → Int → Option (Bool)
 | 0, _, _, _ => none
 | k + 1, x0, x1, x5 => if x5 < (x0.length : Int) then (if 0 ≤ x5 then (if x5 < (x1.length : Int) then (if (rd x0 x5) = (rd x1 x5) then (laws_eqIntS.l0 k x0 x1 (wrap64 (x5 + 1))) else (some false)) else (none)) else (none)) else (some true)
def laws_eqIntS.f (k : Nat) (l0 : List Int) (l1 : List Int) : Option (Bool) := if (l0.length : Int) = (l1.length : Int) then (laws_eqIntS.l0 k l0 l1 0) else (some false)
theorem laws_eqIntS.mono_l : ∀ k, (∀ y0 y1 y2, LeO (laws_eqIntS.l0 k y0 y1 y2) (laws_eqIntS.l0 (k + 1) y0 y1 y2))
 | 0 => fun _ _ _ r h => by simp [laws_eqIntS.l0] at h
 | k + 1 => by
  have ih0 := laws_eqIntS.mono_l k
  ·
   intro y0 y1 y2
   unfold laws_eqIntS.l0
   repeat' first
   | (with_reducible exact ih0 _ _ _)
   | (with_reducible exact LeO.refl _)
   | (with_reducible exact LeO.none _)
   | (with_reducible refine LeO.ite ?_ ?_)
   | (with_reducible refine LeO.bind ?_ (fun _ => ?_))
   | exact ih0 _ _ _
   | exact LeO.none _
   | refine LeO.ite ?_ ?_
   | refine LeO.bind ?_ (fun _ => ?_)
theorem laws_eqIntS.mono : ∀ a0 a1 k, LeO (laws_eqIntS.f k a0 a1) (laws_eqIntS.f (k + 1) a0 a1) := by
 intro a0 a1 k
 have ih0 := laws_eqIntS.mono_l k
 unfold laws_eqIntS.f
 repeat' first
   | (with_reducible exact ih0 _ _ _)
   | (with_reducible exact LeO.refl _)
   | (with_reducible exact LeO.none _)
   | (with_reducible refine LeO.ite ?_ ?_)
   | (with_reducible refine LeO.bind ?_ (fun _ => ?_))
   | exact ih0 _ _ _
   | exact LeO.none _
   | refine LeO.ite ?_ ?_
   | refine LeO.bind ?_ (fun _ => ?_)
set_option maxHeartbeats 8000000 in
set_option maxRecDepth 100000 in
theorem laws_eqIntS.calls (k : Nat) (A0 : Option Addr) (c0 : Nat) (l0 : List Int) (A1 : Option Addr) (c1 : Nat) (l1 : List Int) (r : Bool) (w : World) (hr0 : Kd.C (Kd.int .i64) w A0 l0.length l0) (hc0 : l0.length ≤ c0) (hr1 : Kd.C (Kd.int .i64) w A1 l1.length l1) (hc1 : l1.length ≤ c1) (h : laws_eqIntS.f k l0 l1 = some r) :
  Calls Try.prog 7 #[.slice A0 l0.length c0, .slice A1 l1.length c1] w fun e w' => e = .returned (.bool r) ∧ Drawn0 w w' := by
 have HR0 := Aside0.mk hr0
 have HC0 := Aside0.mk hc0
 clear hr0 hc0
 have HR1 := Aside0.mk hr1
 have HC1 := Aside0.mk hc1
 clear hr1 hc1
 have H : (if (l0.length : Int) = (l1.length : Int) then (laws_eqIntS.l0 k l0 l1 0) else (some false)) = some r := h
 clear h
 by_cases c3 : (l0.length : Int) = (l1.length : Int)
 ·
  rw [if_pos c3] at H
  have c3b0 : ((l0.length : Int) == (l1.length : Int)) = true := beq_iff_eq.mpr c3
  have c3b1 : ((l0.length : Int) != (l1.length : Int)) = false := bne_eq_false_iff_eq.mpr c3
  have c3b2 : (l0.length == l1.length) = true := by first | simpa using c3 | (simp at c3 ⊢; omega)
  clear c3
  have H' := Aside0.mk H
  clear H
  go_enter Try.func7, Try.ntmps7
  go_wp2
  repeat (go_quiet (fail); try go_wp2)
  go_loopg [5] k (fun kq v5 w' => ∃ (x5_1 : Int), v5 = .int .i64 x5_1 ∧ Aside0 (laws_eqIntS.l0 kq l0 l1 x5_1 = some r) ∧ Aside0 (kq ≤ k) ∧ Drawn0 w w')
  case atStart => exact ⟨(0), (by first | rfl | (simp; done) | (simp [*]; done)), H', ⟨Nat.le_refl _⟩, by repeat (first | exact Drawn0.refl _ | apply Drawn0.step)⟩
  case round =>
   clear H'
   try clear c1
   try clear p2
   try clear c3
   try clear c3b0
   try clear c3b1
   try clear c3b2
   obtain ⟨x5_1, rfl, HA, HK1, ⟨m1, rfl⟩⟩ := hrel
   cases gk with
   | zero => exact absurd HA.out (by simp [laws_eqIntS.l0])
   | succ k1 =>
    have H := HA.out
    clear HA
    simp only [laws_eqIntS.l0] at H
    by_cases c4 : x5_1 < (l0.length : Int)
    ·
     rw [if_pos c4] at H
     have c4b0 : decide (x5_1 < (l0.length : Int)) = true := decide_eq_true c4
     clear c4
     by_cases c5 : 0 ≤ x5_1
     ·
      rw [if_pos c5] at H
      have c5b0 : decide (0 ≤ x5_1) = true := decide_eq_true c5
      clear c5
      by_cases c6 : x5_1 < (l1.length : Int)
      ·
       rw [if_pos c6] at H
       have c6b0 : decide (x5_1 < (l1.length : Int)) = true := decide_eq_true c6
       clear c6
       by_cases c7 : (rd l0 x5_1) = (rd l1 x5_1)
       ·
        rw [if_pos c7] at H
        have c7b0 : ((rd l0 x5_1) == (rd l1 x5_1)) = true := beq_iff_eq.mpr c7
        have c7b1 : ((rd l0 x5_1) != (rd l1 x5_1)) = false := bne_eq_false_iff_eq.mpr c7
        clear c7
        have H' := Aside0.mk H
        clear H
        have p213 : 0 ≤ (x5_1 : Int) := of_decide_eq_true (by first | (with_reducible assumption) | assumption)
        have q213 : x5_1 < (l0.length : Int) := of_decide_eq_true (by first | (with_reducible assumption) | assumption)
        obtain ⟨ad213, e213, hx213_0⟩ := Kd.at_int HR0.out x5_1 p213 q213
        cases e213
        replace p213 := eq_true p213
        replace q213 := eq_true q213
        have p214 : 0 ≤ (x5_1 : Int) := of_decide_eq_true (by first | (with_reducible assumption) | assumption)
        have q214 : x5_1 < (l1.length : Int) := of_decide_eq_true (by first | (with_reducible assumption) | assumption)
        obtain ⟨ad214, e214, hx214_0⟩ := Kd.at_int HR1.out x5_1 p214 q214
        cases e214
        replace p214 := eq_true p214
        replace q214 := eq_true q214
        go_wp2
        repeat (go_quiet (fail); try go_wp2)
        go_roundg k1
        case measure => have := HK1.out; omega
        case rel => exact ⟨(wrap64 (x5_1 + 1)), (by first | rfl | (simp; done) | (simp [*]; done)), H', ⟨by have := HK1.out; omega⟩, by repeat (first | exact Drawn0.refl _ | apply Drawn0.step)⟩
       ·
        rw [if_neg c7] at H
        have c7b0 : ((rd l0 x5_1) == (rd l1 x5_1)) = false := beq_eq_false_iff_ne.mpr c7
        have c7b1 : ((rd l0 x5_1) != (rd l1 x5_1)) = true := bne_iff_ne.mpr c7
        obtain rfl := Option.some.inj H
        have p213 : 0 ≤ (x5_1 : Int) := of_decide_eq_true (by first | (with_reducible assumption) | assumption)
        have q213 : x5_1 < (l0.length : Int) := of_decide_eq_true (by first | (with_reducible assumption) | assumption)
        obtain ⟨ad213, e213, hx213_0⟩ := Kd.at_int HR0.out x5_1 p213 q213
        cases e213
        replace p213 := eq_true p213
        replace q213 := eq_true q213
        have p214 : 0 ≤ (x5_1 : Int) := of_decide_eq_true (by first | (with_reducible assumption) | assumption)
        have q214 : x5_1 < (l1.length : Int) := of_decide_eq_true (by first | (with_reducible assumption) | assumption)
        obtain ⟨ad214, e214, hx214_0⟩ := Kd.at_int HR1.out x5_1 p214 q214
        cases e214
        replace p214 := eq_true p214
        replace q214 := eq_true q214
        go_wp2
        repeat (go_quiet (fail); try go_wp2)
        go_ret
        exact ⟨by first | rfl | (simp; done) | (simp [*]; done), by repeat (first | exact Drawn0.refl _ | apply Drawn0.step)⟩
      ·
       rw [if_neg c6] at H
       exact absurd H (by simp)
     ·
      rw [if_neg c5] at H
      exact absurd H (by simp)
    ·
     rw [if_neg c4] at H
     have c4b0 : decide (x5_1 < (l0.length : Int)) = false := decide_eq_false c4
     clear c4
     obtain rfl := Option.some.inj H
     go_wp2
     repeat (go_quiet (fail); try go_wp2)
     go_ret
     exact ⟨by first | rfl | (simp; done) | (simp [*]; done), by repeat (first | exact Drawn0.refl _ | apply Drawn0.step)⟩
 ·
  rw [if_neg c3] at H
  have c3b0 : ((l0.length : Int) == (l1.length : Int)) = false := beq_eq_false_iff_ne.mpr c3
  have c3b1 : ((l0.length : Int) != (l1.length : Int)) = true := bne_iff_ne.mpr c3
  have c3b2 : (l0.length == l1.length) = false := by first | simpa using c3 | (simp at c3 ⊢; omega)
  obtain rfl := Option.some.inj H
  go_enter Try.func7, Try.ntmps7
  go_wp2
  repeat (go_quiet (fail); try go_wp2)
  go_ret
  exact ⟨by first | rfl | (simp; done) | (simp [*]; done), by repeat (first | exact Drawn0.refl _ | apply Drawn0.step)⟩
def laws_markIntS.l0 : Nat → List Int → Int → Int → Option (Int × List Int)
 | 0, _, _, _ => none
 | k + 1, x0, x1, x5 => if x5 < (x0.length : Int) then (if 0 ≤ x5 then (laws_markIntS.l0 k (x0.set (x5 : Int).toNat x1) (wrap64 (x1 + 1)) (wrap64 (x5 + 1))) else (none)) else (some (x1, x0))
def laws_markIntS.f (k : Nat) (l0 : List Int) (a1 : Int) : Option (Int × List Int) := laws_markIntS.l0 k l0 a1 0
theorem laws_markIntS.mono_l : ∀ k, (∀ y0 y1 y2, LeO (laws_markIntS.l0 k y0 y1 y2) (laws_markIntS.l0 (k + 1) y0 y1 y2))
 | 0 => fun _ _ _ r h => by simp [laws_markIntS.l0] at h
 | k + 1 => by
  have ih0 := laws_markIntS.mono_l k
  ·
   intro y0 y1 y2
   unfold laws_markIntS.l0
   repeat' first
   | (with_reducible exact ih0 _ _ _)
   | (with_reducible exact LeO.refl _)
   | (with_reducible exact LeO.none _)
   | (with_reducible refine LeO.ite ?_ ?_)
   | (with_reducible refine LeO.bind ?_ (fun _ => ?_))
   | exact ih0 _ _ _
   | exact LeO.none _
   | refine LeO.ite ?_ ?_
   | refine LeO.bind ?_ (fun _ => ?_)
theorem laws_markIntS.mono : ∀ a0 a1 k, LeO (laws_markIntS.f k a0 a1) (laws_markIntS.f (k + 1) a0 a1) := by
 intro a0 a1 k
 have ih0 := laws_markIntS.mono_l k
 unfold laws_markIntS.f
 repeat' first
   | (with_reducible exact ih0 _ _ _)
   | (with_reducible exact LeO.refl _)
   | (with_reducible exact LeO.none _)
   | (with_reducible refine LeO.ite ?_ ?_)
   | (with_reducible refine LeO.bind ?_ (fun _ => ?_))
   | exact ih0 _ _ _
   | exact LeO.none _
   | refine LeO.ite ?_ ?_
   | refine LeO.bind ?_ (fun _ => ?_)
set_option maxHeartbeats 8000000 in
set_option maxRecDepth 100000 in
theorem laws_markIntS.calls (k : Nat) (P0_ : Nat → Prop) (u9000_ : Value) (l0 : List Int) (a1 : Int) (r1 : Int) (r2 : List Int) (w0 w : World) (hB : Below w0.heap.size w0 w) (ho0 : Kd.R (Kd.int .i64) 3 w w0.heap.size P0_ u9000_ l0) (h : laws_markIntS.f k l0 a1 = some (r1, r2)) :
  Calls Try.prog 8 #[u9000_, .int .i64 a1] w fun e w' => e = .returned (.int .i64 r1) ∧ Kd.R (Kd.int .i64) 3 w' w0.heap.size (fun k_ => (P0_ k_ ∨ w.heap.size ≤ k_)) u9000_ r2 ∧ Below w0.heap.size w0 w' ∧ Kept w w' (fun k_ => P0_ k_) := by
 have HO0 := Aside0.mk (show Kd.R (Kd.int .i64) 3 w w0.heap.size (fun k_ => (P0_ k_ ∨ w.heap.size ≤ k_)) u9000_ l0 from Kd.R_mono ho0 (fun k_ hk => (.inl hk)))
 have HK := Aside0.mk (Kept.refl w (fun k_ => P0_ k_))
 have HW0 := Aside0.mk hB.size
 have HB := Aside0.mk hB
 clear hB
 have H : (laws_markIntS.l0 k l0 a1 0) = some (r1, r2) := h
 clear h
 have H' := Aside0.mk H
 clear H
 go_enter Try.func8, Try.ntmps8
 go_wp2
 go_loopg [1, 5] k (fun kq v1 v5 w' => ∃ (x0_1 : List Int) (x1_1 : Int) (x5_1 : Int), v1 = .int .i64 x1_1 ∧ v5 = .int .i64 x5_1 ∧ Aside0 (laws_markIntS.l0 kq x0_1 x1_1 x5_1 = some (r1, r2)) ∧ Aside0 (kq ≤ k) ∧ Aside0 (Kd.R (Kd.int .i64) 3 w' w0.heap.size (fun k_ => (P0_ k_ ∨ w.heap.size ≤ k_)) u9000_ x0_1) ∧ Aside0 (Kept w w' (fun k_ => P0_ k_)) ∧ Aside0 (Below w0.heap.size w0 w'))
 case atStart => exact ⟨(l0), (a1), (0), (by first | rfl | (simp; done) | (simp [*]; done)), (by first | rfl | (simp; done) | (simp [*]; done)), H', ⟨Nat.le_refl _⟩, ⟨by (with_reducible repeat (first | apply Kd.R_alloc | apply Kd.R_drewN | apply Kd.R_drew)); exact HO0.out⟩, ⟨by repeat (first | (with_reducible first | exact HK.out | apply Kept.alloc | apply Kept.drewN | apply Kept.drew) | exact HK.out)⟩, ⟨by repeat (first | (with_reducible first | exact HB.out | apply below_alloc | apply pw_below_drewN | apply below_drew1) | exact HB.out)⟩⟩
 case round =>
  clear H'
  try clear p2
  obtain ⟨x0_1, x1_1, x5_1, rfl, rfl, HA, HK1, HO_0, HK, HB⟩ := hrel
  cases gk with
  | zero => exact absurd HA.out (by simp [laws_markIntS.l0])
  | succ k1 =>
   have H := HA.out
   clear HA
   simp only [laws_markIntS.l0] at H
   by_cases c3 : x5_1 < (x0_1.length : Int)
   ·
    rw [if_pos c3] at H
    have c3b0 : decide (x5_1 < (x0_1.length : Int)) = true := decide_eq_true c3
    clear c3
    by_cases c4 : 0 ≤ x5_1
    ·
     rw [if_pos c4] at H
     have c4b0 : decide (0 ≤ x5_1) = true := decide_eq_true c4
     clear c4
     obtain ⟨y215, hy215⟩ : ∃ y_ : List Int, y_ = (x0_1.set (x5_1 : Int).toNat x1_1) := ⟨_, rfl⟩
     replace H : (laws_markIntS.l0 k1 y215 (wrap64 (x1_1 + 1)) (wrap64 (x5_1 + 1))) = some (r1, r2) := by first | (rw [hy215]; with_reducible exact H) | (have H2_ := (Option.bind_some _ _).symm.trans H; rw [hy215]; with_reducible exact H2_) | (have H2_ := (Option.bind_some _ _).symm.trans H; with_reducible exact H2_) | with_reducible exact H | (rw [hy215]; exact H) | exact H
     have Ny215 := Aside0.mk hy215
     clear hy215
     have H' := Aside0.mk H
     clear H
     obtain ⟨Ao6, co6, eo6⟩ := Kd.R_slice HO_0.out
     subst eo6
     have p5 : 0 ≤ (x5_1 : Int) := of_decide_eq_true (by first | (with_reducible assumption) | assumption)
     have q5 : (x5_1 : Int) < ((x0_1.length : Int) : Int) := of_decide_eq_true (by first | (with_reducible assumption) | assumption)
     obtain ⟨go5, co5, eo5, gb5, gl5, cl5, HG5⟩ := Kd.R_form HO_0.out (by omega)
     (first | cases eo5 | (injection eo5 with ea_ en_ ec_; (first | subst ea_ | (injection ea_ with ea_; subst ea_)); subst ec_; clear en_))
     have GB5 := Aside0.mk gb5
     have GG5 := Aside0.mk HG5
     clear gb5 gl5 HG5
     have HMgo5 := Aside0.mk (show (P0_ go5 ∨ w.heap.size ≤ go5) from (HO_0.out.1 _ rfl))
     obtain ⟨hx5_0, hf5_0⟩ := Kd.R_celln 0 HO_0.out (x5_1 : Int) p5 q5
     (try simp only [Int.toNat_natCast] at hx5_0 hf5_0)
     replace p5 := eq_true p5
     replace q5 := eq_true q5
     have HP7 := Kd.R_putg HO_0.out (x5_1 : Int) x1_1
     go_wp2_with (first | ((with_reducible refine gate_store (t := 3) (p := 15) rfl ?_); refine store_event (t := 3) (p := 15) (v := ?vo_w8) (w1 := (wr.setCell ⟨go5, (x5_1 : Int).toNat, none⟩ (.int .i64 x1_1))) ?hg ?ho ?hn ?hr ?_; (case ho => rfl); (case hg => rfl); (case hn => rfl); (case hr => first | (go_simp; done) | (go_simp; rfl)); intro w8 hw; have hg : wr.grownBy w8 (some go5) := (by rw [hw]; exact HP7.2); have hp_ : Kd.R (Kd.int .i64) 3 w8 w0.heap.size (fun k_ => (P0_ k_ ∨ w.heap.size ≤ k_)) (.slice (some ⟨go5, 0, none⟩) x0_1.length co6) y215 := (by rw [hw, Ny215.out]; exact HP7.1); clear HP7; have n0_ := Aside0.mk (hp_); have n1_ := Aside0.mk ((by rw [hw]; exact below_set (HB.out) GB5.out : Below w0.heap.size w0 w8)); have n2_ := Aside0.mk (Kept.of_grown (S := (fun k_ => P0_ k_)) hg (by repeat (first | (with_reducible first | exact HK.out | apply Kept.alloc | apply Kept.drewN | apply Kept.drew) | exact HK.out)) (fun k_ e_ => (HO_0.out.1 k_ e_))); clear HO_0; clear HB; clear HK; have HO_0 := n0_; have HB := n1_; have HK := n2_; clear n0_ n1_ n2_; clear hg hw hp_))
     go_roundg k1
     case measure => have := HK1.out; omega
     case rel => exact ⟨(y215), (wrap64 (x1_1 + 1)), (wrap64 (x5_1 + 1)), (by first | rfl | (simp; done) | (simp [*]; done)), (by first | rfl | (simp; done) | (simp [*]; done)), H', ⟨by have := HK1.out; omega⟩, ⟨by (with_reducible repeat (first | apply Kd.R_alloc | apply Kd.R_drewN | apply Kd.R_drew)); exact HO_0.out⟩, ⟨by repeat (first | (with_reducible first | exact HK.out | apply Kept.alloc | apply Kept.drewN | apply Kept.drew) | exact HK.out)⟩, ⟨by repeat (first | (with_reducible first | exact HB.out | apply below_alloc | apply pw_below_drewN | apply below_drew1) | exact HB.out)⟩⟩
    ·
     rw [if_neg c4] at H
     exact absurd H (by simp)
   ·
    rw [if_neg c3] at H
    have c3b0 : decide (x5_1 < (x0_1.length : Int)) = false := decide_eq_false c3
    clear c3
    simp only [Option.some.injEq, Prod.mk.injEq] at H
    obtain ⟨rfl, rfl⟩ := H
    obtain ⟨Ao9, co9, eo9⟩ := Kd.R_slice HO_0.out
    subst eo9
    go_wp2
    go_ret
    exact ⟨by first | rfl | (simp [errW_none, errW_some] <;> rfl) | (simp [*, errW_none, errW_some] <;> rfl), by (with_reducible repeat (first | apply Kd.R_alloc | apply Kd.R_drewN | apply Kd.R_drew)); exact HO_0.out, by repeat (first | (with_reducible first | exact HB.out | apply below_alloc | apply pw_below_drewN | apply below_drew1) | exact HB.out), by repeat (first | (with_reducible first | exact HK.out | apply Kept.alloc | apply Kept.drewN | apply Kept.drew) | exact HK.out)⟩
def laws_heldIntS.l0 : Nat → List Int → Int → Int → Option (Int)
 | 0, _, _, _ => none
 | k + 1, x0, x1, x5 => if x5 < (x0.length : Int) then (if 0 ≤ x5 then (if (rd x0 x5) = x1 then (laws_heldIntS.l0 k x0 (wrap64 (x1 + 1)) (wrap64 (x5 + 1))) else (some (-1))) else (none)) else (some x1)
def laws_heldIntS.f (k : Nat) (l0 : List Int) (a1 : Int) : Option (Int) := laws_heldIntS.l0 k l0 a1 0
theorem laws_heldIntS.mono_l : ∀ k, (∀ y0 y1 y2, LeO (laws_heldIntS.l0 k y0 y1 y2) (laws_heldIntS.l0 (k + 1) y0 y1 y2))
 | 0 => fun _ _ _ r h => by simp [laws_heldIntS.l0] at h
 | k + 1 => by
  have ih0 := laws_heldIntS.mono_l k
  ·
   intro y0 y1 y2
   unfold laws_heldIntS.l0
   repeat' first
   | (with_reducible exact ih0 _ _ _)
   | (with_reducible exact LeO.refl _)
   | (with_reducible exact LeO.none _)
   | (with_reducible refine LeO.ite ?_ ?_)
   | (with_reducible refine LeO.bind ?_ (fun _ => ?_))
   | exact ih0 _ _ _
   | exact LeO.none _
   | refine LeO.ite ?_ ?_
   | refine LeO.bind ?_ (fun _ => ?_)
theorem laws_heldIntS.mono : ∀ a0 a1 k, LeO (laws_heldIntS.f k a0 a1) (laws_heldIntS.f (k + 1) a0 a1) := by
 intro a0 a1 k
 have ih0 := laws_heldIntS.mono_l k
 unfold laws_heldIntS.f
 repeat' first
   | (with_reducible exact ih0 _ _ _)
   | (with_reducible exact LeO.refl _)
   | (with_reducible exact LeO.none _)
   | (with_reducible refine LeO.ite ?_ ?_)
   | (with_reducible refine LeO.bind ?_ (fun _ => ?_))
   | exact ih0 _ _ _
   | exact LeO.none _
   | refine LeO.ite ?_ ?_
   | refine LeO.bind ?_ (fun _ => ?_)
set_option maxHeartbeats 8000000 in
set_option maxRecDepth 100000 in
theorem laws_heldIntS.calls (k : Nat) (A0 : Option Addr) (c0 : Nat) (l0 : List Int) (a1 : Int) (r : Int) (w : World) (hr0 : Kd.C (Kd.int .i64) w A0 l0.length l0) (hc0 : l0.length ≤ c0) (h : laws_heldIntS.f k l0 a1 = some r) :
  Calls Try.prog 9 #[.slice A0 l0.length c0, .int .i64 a1] w fun e w' => e = .returned (.int .i64 r) ∧ Drawn0 w w' := by
 have HR0 := Aside0.mk hr0
 have HC0 := Aside0.mk hc0
 clear hr0 hc0
 have H : (laws_heldIntS.l0 k l0 a1 0) = some r := h
 clear h
 have H' := Aside0.mk H
 clear H
 go_enter Try.func9, Try.ntmps9
 go_wp2
 go_loopg [1, 5] k (fun kq v1 v5 w' => ∃ (x1_1 : Int) (x5_1 : Int), v1 = .int .i64 x1_1 ∧ v5 = .int .i64 x5_1 ∧ Aside0 (laws_heldIntS.l0 kq l0 x1_1 x5_1 = some r) ∧ Aside0 (kq ≤ k) ∧ Drawn0 w w')
 case atStart => exact ⟨(a1), (0), (by first | rfl | (simp; done) | (simp [*]; done)), (by first | rfl | (simp; done) | (simp [*]; done)), H', ⟨Nat.le_refl _⟩, by repeat (first | exact Drawn0.refl _ | apply Drawn0.step)⟩
 case round =>
  clear H'
  try clear p2
  obtain ⟨x1_1, x5_1, rfl, rfl, HA, HK1, ⟨m1, rfl⟩⟩ := hrel
  cases gk with
  | zero => exact absurd HA.out (by simp [laws_heldIntS.l0])
  | succ k1 =>
   have H := HA.out
   clear HA
   simp only [laws_heldIntS.l0] at H
   by_cases c3 : x5_1 < (l0.length : Int)
   ·
    rw [if_pos c3] at H
    have c3b0 : decide (x5_1 < (l0.length : Int)) = true := decide_eq_true c3
    clear c3
    by_cases c4 : 0 ≤ x5_1
    ·
     rw [if_pos c4] at H
     have c4b0 : decide (0 ≤ x5_1) = true := decide_eq_true c4
     clear c4
     by_cases c5 : (rd l0 x5_1) = x1_1
     ·
      rw [if_pos c5] at H
      have c5b0 : ((rd l0 x5_1) == x1_1) = true := beq_iff_eq.mpr c5
      have c5b1 : ((rd l0 x5_1) != x1_1) = false := bne_eq_false_iff_eq.mpr c5
      clear c5
      have H' := Aside0.mk H
      clear H
      have p216 : 0 ≤ (x5_1 : Int) := of_decide_eq_true (by first | (with_reducible assumption) | assumption)
      have q216 : x5_1 < (l0.length : Int) := of_decide_eq_true (by first | (with_reducible assumption) | assumption)
      obtain ⟨ad216, e216, hx216_0⟩ := Kd.at_int HR0.out x5_1 p216 q216
      cases e216
      replace p216 := eq_true p216
      replace q216 := eq_true q216
      go_wp2
      go_roundg k1
      case measure => have := HK1.out; omega
      case rel => exact ⟨(wrap64 (x1_1 + 1)), (wrap64 (x5_1 + 1)), (by first | rfl | (simp; done) | (simp [*]; done)), (by first | rfl | (simp; done) | (simp [*]; done)), H', ⟨by have := HK1.out; omega⟩, by repeat (first | exact Drawn0.refl _ | apply Drawn0.step)⟩
     ·
      rw [if_neg c5] at H
      have c5b0 : ((rd l0 x5_1) == x1_1) = false := beq_eq_false_iff_ne.mpr c5
      have c5b1 : ((rd l0 x5_1) != x1_1) = true := bne_iff_ne.mpr c5
      obtain rfl := Option.some.inj H
      have p216 : 0 ≤ (x5_1 : Int) := of_decide_eq_true (by first | (with_reducible assumption) | assumption)
      have q216 : x5_1 < (l0.length : Int) := of_decide_eq_true (by first | (with_reducible assumption) | assumption)
      obtain ⟨ad216, e216, hx216_0⟩ := Kd.at_int HR0.out x5_1 p216 q216
      cases e216
      replace p216 := eq_true p216
      replace q216 := eq_true q216
      go_wp2
      go_ret
      exact ⟨by first | rfl | (simp; done) | (simp [*]; done), by repeat (first | exact Drawn0.refl _ | apply Drawn0.step)⟩
    ·
     rw [if_neg c4] at H
     exact absurd H (by simp)
   ·
    rw [if_neg c3] at H
    have c3b0 : decide (x5_1 < (l0.length : Int)) = false := decide_eq_false c3
    clear c3
    obtain rfl := Option.some.inj H
    go_wp2
    go_ret
    exact ⟨by first | rfl | (simp; done) | (simp [*]; done), by repeat (first | exact Drawn0.refl _ | apply Drawn0.step)⟩
mutual
def laws_FnExactInOrderCode.j0 : Nat → List Int → List Int → Int → Bool → List Int → List Int → Int → Bool → Bool → Option (Bool)
 | 0, _, _, _, _, _, _, _, _, _ => none
 | k + 1, x0, x3, x4, x5, x6, x7, x8, x9, x47 => if x47 = true then (some false) else ((laws_toIntS.f k x0).bind fun t234 => ((laws_eqIntS.f k x6 t234).bind fun t237 => (if t237 = true then ((laws_markIntS.f k x6 1).bind fun bt238 => (if bt238.1 < 0 then (laws_FnExactInOrderCode.j1 k x0 x3 x4 x5 x7 true) else ((laws_eqIntS.f k x7 x3).bind fun t240 => (if t240 = true then (if x8 = x4 then (laws_FnExactInOrderCode.j1 k x0 x3 x4 x5 x7 (x9 != x5)) else (laws_FnExactInOrderCode.j1 k x0 x3 x4 x5 x7 true)) else (laws_FnExactInOrderCode.j1 k x0 x3 x4 x5 x7 true))))) else (some false))))
def laws_FnExactInOrderCode.j1 : Nat → List Int → List Int → Int → Bool → List Int → Bool → Option (Bool)
 | 0, _, _, _, _, _, _ => none
 | k + 1, x0, x3, x4, x5, x7, x73 => if x73 = true then (some false) else ((laws_markIntS.f k x7 1).bind fun bt241 => ((laws_heldIntS.f k bt241.2 1).bind fun t243 => (if t243 < 0 then (some false) else (if t243 = bt241.1 then ((laws_toIntS.f k x0).bind fun t244 => ((impl_InOrderCode.f k t244).bind fun bt247 => ((laws_eqIntS.f k bt247.1 x3).bind fun t252 => (if t252 = true then (if bt247.2.1 = x4 then (laws_FnExactInOrderCode.j2 k bt241.2 bt241.1 (bt247.2.2 != x5)) else (laws_FnExactInOrderCode.j2 k bt241.2 bt241.1 true)) else (laws_FnExactInOrderCode.j2 k bt241.2 bt241.1 true))))) else (some false)))))
def laws_FnExactInOrderCode.j2 : Nat → List Int → Int → Bool → Option (Bool)
 | 0, _, _, _ => none
 | k + 1, x7, x11, x105 => if x105 = true then (some false) else ((laws_heldIntS.f k x7 1).bind fun t253 => (if t253 < 0 then (some false) else (if t253 = x11 then (some true) else (some false))))
end
def laws_FnExactInOrderCode.f (k : Nat) (l0 : List Int) : Option (Bool) := if (l0.length : Int) > 1048576 then (some true) else ((laws_toIntS.f k l0).bind fun t217 => ((spec_InOrderCode.f k t217).bind fun bt220 => ((laws_toIntS.f k l0).bind fun t225 => ((impl_InOrderCode.f k t225).bind fun bt228 => ((laws_eqIntS.f k bt228.1 bt220.1).bind fun t233 => (if t233 = true then (if bt228.2.1 = bt220.2.1 then (laws_FnExactInOrderCode.j0 k l0 bt220.1 bt220.2.1 bt220.2.2 t225 bt228.1 bt228.2.1 bt228.2.2 (bt228.2.2 != bt220.2.2)) else (laws_FnExactInOrderCode.j0 k l0 bt220.1 bt220.2.1 bt220.2.2 t225 bt228.1 bt228.2.1 bt228.2.2 true)) else (laws_FnExactInOrderCode.j0 k l0 bt220.1 bt220.2.1 bt220.2.2 t225 bt228.1 bt228.2.1 bt228.2.2 true)))))))
theorem laws_FnExactInOrderCode.mono_l : ∀ k, (∀ y0 y1 y2 y3 y4 y5 y6 y7 y8, LeO (laws_FnExactInOrderCode.j0 k y0 y1 y2 y3 y4 y5 y6 y7 y8) (laws_FnExactInOrderCode.j0 (k + 1) y0 y1 y2 y3 y4 y5 y6 y7 y8)) ∧ (∀ y0 y1 y2 y3 y4 y5, LeO (laws_FnExactInOrderCode.j1 k y0 y1 y2 y3 y4 y5) (laws_FnExactInOrderCode.j1 (k + 1) y0 y1 y2 y3 y4 y5)) ∧ (∀ y0 y1 y2, LeO (laws_FnExactInOrderCode.j2 k y0 y1 y2) (laws_FnExactInOrderCode.j2 (k + 1) y0 y1 y2))
 | 0 => ⟨fun _ _ _ _ _ _ _ _ _ r h => by simp [laws_FnExactInOrderCode.j0] at h, fun _ _ _ _ _ _ r h => by simp [laws_FnExactInOrderCode.j1] at h, fun _ _ _ r h => by simp [laws_FnExactInOrderCode.j2] at h⟩
 | k + 1 => by
  obtain ⟨ih0, ih1, ih2⟩ := laws_FnExactInOrderCode.mono_l k
  refine ⟨?_, ?_, ?_⟩
  ·
   intro y0 y1 y2 y3 y4 y5 y6 y7 y8
   unfold laws_FnExactInOrderCode.j0
   repeat' first
   | (with_reducible exact ih0 _ _ _ _ _ _ _ _ _)
   | (with_reducible exact ih1 _ _ _ _ _ _)
   | (with_reducible exact ih2 _ _ _)
   | (with_reducible exact impl_InOrderCode.mono _ _)
   | (with_reducible exact laws_eqIntS.mono _ _ _)
   | (with_reducible exact laws_heldIntS.mono _ _ _)
   | (with_reducible exact laws_markIntS.mono _ _ _)
   | (with_reducible exact laws_toIntS.mono _ _)
   | (with_reducible exact spec_InOrderCode.mono _ _)
   | (with_reducible exact LeO.refl _)
   | (with_reducible exact LeO.none _)
   | (with_reducible refine LeO.ite ?_ ?_)
   | (with_reducible refine LeO.bind ?_ (fun _ => ?_))
   | exact ih0 _ _ _ _ _ _ _ _ _
   | exact ih1 _ _ _ _ _ _
   | exact ih2 _ _ _
   | exact impl_InOrderCode.mono _ _
   | exact laws_eqIntS.mono _ _ _
   | exact laws_heldIntS.mono _ _ _
   | exact laws_markIntS.mono _ _ _
   | exact laws_toIntS.mono _ _
   | exact spec_InOrderCode.mono _ _
   | exact LeO.none _
   | refine LeO.ite ?_ ?_
   | refine LeO.bind ?_ (fun _ => ?_)
  ·
   intro y0 y1 y2 y3 y4 y5
   unfold laws_FnExactInOrderCode.j1
   repeat' first
   | (with_reducible exact ih0 _ _ _ _ _ _ _ _ _)
   | (with_reducible exact ih1 _ _ _ _ _ _)
   | (with_reducible exact ih2 _ _ _)
   | (with_reducible exact impl_InOrderCode.mono _ _)
   | (with_reducible exact laws_eqIntS.mono _ _ _)
   | (with_reducible exact laws_heldIntS.mono _ _ _)
   | (with_reducible exact laws_markIntS.mono _ _ _)
   | (with_reducible exact laws_toIntS.mono _ _)
   | (with_reducible exact spec_InOrderCode.mono _ _)
   | (with_reducible exact LeO.refl _)
   | (with_reducible exact LeO.none _)
   | (with_reducible refine LeO.ite ?_ ?_)
   | (with_reducible refine LeO.bind ?_ (fun _ => ?_))
   | exact ih0 _ _ _ _ _ _ _ _ _
   | exact ih1 _ _ _ _ _ _
   | exact ih2 _ _ _
   | exact impl_InOrderCode.mono _ _
   | exact laws_eqIntS.mono _ _ _
   | exact laws_heldIntS.mono _ _ _
   | exact laws_markIntS.mono _ _ _
   | exact laws_toIntS.mono _ _
   | exact spec_InOrderCode.mono _ _
   | exact LeO.none _
   | refine LeO.ite ?_ ?_
   | refine LeO.bind ?_ (fun _ => ?_)
  ·
   intro y0 y1 y2
   unfold laws_FnExactInOrderCode.j2
   repeat' first
   | (with_reducible exact ih0 _ _ _ _ _ _ _ _ _)
   | (with_reducible exact ih1 _ _ _ _ _ _)
   | (with_reducible exact ih2 _ _ _)
   | (with_reducible exact impl_InOrderCode.mono _ _)
   | (with_reducible exact laws_eqIntS.mono _ _ _)
   | (with_reducible exact laws_heldIntS.mono _ _ _)
   | (with_reducible exact laws_markIntS.mono _ _ _)
   | (with_reducible exact laws_toIntS.mono _ _)
   | (with_reducible exact spec_InOrderCode.mono _ _)
   | (with_reducible exact LeO.refl _)
   | (with_reducible exact LeO.none _)
   | (with_reducible refine LeO.ite ?_ ?_)
   | (with_reducible refine LeO.bind ?_ (fun _ => ?_))
   | exact ih0 _ _ _ _ _ _ _ _ _
   | exact ih1 _ _ _ _ _ _
   | exact ih2 _ _ _
   | exact impl_InOrderCode.mono _ _
   | exact laws_eqIntS.mono _ _ _
   | exact laws_heldIntS.mono _ _ _
   | exact laws_markIntS.mono _ _ _
   | exact laws_toIntS.mono _ _
   | exact spec_InOrderCode.mono _ _
   | exact LeO.none _
   | refine LeO.ite ?_ ?_
   | refine LeO.bind ?_ (fun _ => ?_)
theorem laws_FnExactInOrderCode.mono : ∀ a0 k, LeO (laws_FnExactInOrderCode.f k a0) (laws_FnExactInOrderCode.f (k + 1) a0) := by
 intro a0 k
 obtain ⟨ih0, ih1, ih2⟩ := laws_FnExactInOrderCode.mono_l k
 unfold laws_FnExactInOrderCode.f
 repeat' first
   | (with_reducible exact ih0 _ _ _ _ _ _ _ _ _)
   | (with_reducible exact ih1 _ _ _ _ _ _)
   | (with_reducible exact ih2 _ _ _)
   | (with_reducible exact impl_InOrderCode.mono _ _)
   | (with_reducible exact laws_eqIntS.mono _ _ _)
   | (with_reducible exact laws_heldIntS.mono _ _ _)
   | (with_reducible exact laws_markIntS.mono _ _ _)
   | (with_reducible exact laws_toIntS.mono _ _)
   | (with_reducible exact spec_InOrderCode.mono _ _)
   | (with_reducible exact LeO.refl _)
   | (with_reducible exact LeO.none _)
   | (with_reducible refine LeO.ite ?_ ?_)
   | (with_reducible refine LeO.bind ?_ (fun _ => ?_))
   | exact ih0 _ _ _ _ _ _ _ _ _
   | exact ih1 _ _ _ _ _ _
   | exact ih2 _ _ _
   | exact impl_InOrderCode.mono _ _
   | exact laws_eqIntS.mono _ _ _
   | exact laws_heldIntS.mono _ _ _
   | exact laws_markIntS.mono _ _ _
   | exact laws_toIntS.mono _ _
   | exact spec_InOrderCode.mono _ _
   | exact LeO.none _
   | refine LeO.ite ?_ ?_
   | refine LeO.bind ?_ (fun _ => ?_)
set_option maxHeartbeats 8000000 in
set_option maxRecDepth 100000 in
theorem laws_FnExactInOrderCode.calls (k : Nat) (A0 : Option Addr) (c0 : Nat) (l0 : List Int) (r : Bool) (w : World) (hr0 : Kd.C (Kd.int .i64) w A0 l0.length l0) (hc0 : l0.length ≤ c0) (h : laws_FnExactInOrderCode.f k l0 = some r) :
  Calls Try.prog 3 #[.slice A0 l0.length c0] w fun e w' => e = .returned (.bool r) ∧ Below w.heap.size w w' := by
 have HR0 := Aside0.mk hr0
 have HC0 := Aside0.mk hc0
 clear hr0 hc0
 have HB := Aside0.mk (Below.refl w.heap.size w)
 have H : (if (l0.length : Int) > 1048576 then (some true) else ((laws_toIntS.f k l0).bind fun t217 => ((spec_InOrderCode.f k t217).bind fun bt220 => ((laws_toIntS.f k l0).bind fun t225 => ((impl_InOrderCode.f k t225).bind fun bt228 => ((laws_eqIntS.f k bt228.1 bt220.1).bind fun t233 => (if t233 = true then (if bt228.2.1 = bt220.2.1 then (laws_FnExactInOrderCode.j0 k l0 bt220.1 bt220.2.1 bt220.2.2 t225 bt228.1 bt228.2.1 bt228.2.2 (bt228.2.2 != bt220.2.2)) else (laws_FnExactInOrderCode.j0 k l0 bt220.1 bt220.2.1 bt220.2.2 t225 bt228.1 bt228.2.1 bt228.2.2 true)) else (laws_FnExactInOrderCode.j0 k l0 bt220.1 bt220.2.1 bt220.2.2 t225 bt228.1 bt228.2.1 bt228.2.2 true)))))))) = some r := h
 clear h
 by_cases c2 : (l0.length : Int) > 1048576
 ·
  rw [if_pos c2] at H
  have c2b0 : decide (1048576 < (l0.length : Int)) = true := decide_eq_true c2
  have c2b1 : decide (1048576 < l0.length) = true := decide_eq_true (by omega)
  clear c2
  obtain rfl := Option.some.inj H
  go_enter Try.func3, Try.ntmps3
  go_wp2
  go_ret
  exact ⟨by first | rfl | (simp [errW_none, errW_some] <;> rfl) | (simp [*, errW_none, errW_some] <;> rfl), by repeat (first | (with_reducible first | exact HB.out | apply below_alloc | apply pw_below_drewN | apply below_drew1) | exact HB.out)⟩
 ·
  rw [if_neg c2] at H
  have c2b0 : decide (1048576 < (l0.length : Int)) = false := decide_eq_false c2
  have c2b1 : decide (1048576 < l0.length) = false := decide_eq_false (by omega)
  clear c2
  replace H := Option.bind_eq_some_iff.mp H
  obtain ⟨t217, A30, H⟩ := H
  replace H : ((spec_InOrderCode.f k t217).bind fun bt220 => ((laws_toIntS.f k l0).bind fun t225 => ((impl_InOrderCode.f k t225).bind fun bt228 => ((laws_eqIntS.f k bt228.1 bt220.1).bind fun t233 => (if t233 = true then (if bt228.2.1 = bt220.2.1 then (laws_FnExactInOrderCode.j0 k l0 bt220.1 bt220.2.1 bt220.2.2 t225 bt228.1 bt228.2.1 bt228.2.2 (bt228.2.2 != bt220.2.2)) else (laws_FnExactInOrderCode.j0 k l0 bt220.1 bt220.2.1 bt220.2.2 t225 bt228.1 bt228.2.1 bt228.2.2 true)) else (laws_FnExactInOrderCode.j0 k l0 bt220.1 bt220.2.1 bt220.2.2 t225 bt228.1 bt228.2.1 bt228.2.2 true)))))) = some r := H
  have A3 := Aside0.mk A30
  clear A30
  replace H := Option.bind_eq_some_iff.mp H
  obtain ⟨⟨t220, t223, t224⟩, A40, H⟩ := H
  replace H : ((laws_toIntS.f k l0).bind fun t225 => ((impl_InOrderCode.f k t225).bind fun bt228 => ((laws_eqIntS.f k bt228.1 t220).bind fun t233 => (if t233 = true then (if bt228.2.1 = t223 then (laws_FnExactInOrderCode.j0 k l0 t220 t223 t224 t225 bt228.1 bt228.2.1 bt228.2.2 (bt228.2.2 != t224)) else (laws_FnExactInOrderCode.j0 k l0 t220 t223 t224 t225 bt228.1 bt228.2.1 bt228.2.2 true)) else (laws_FnExactInOrderCode.j0 k l0 t220 t223 t224 t225 bt228.1 bt228.2.1 bt228.2.2 true))))) = some r := H
  have A4 := Aside0.mk A40
  clear A40
  replace H := Option.bind_eq_some_iff.mp H
  obtain ⟨t225, A50, H⟩ := H
  replace H : ((impl_InOrderCode.f k t225).bind fun bt228 => ((laws_eqIntS.f k bt228.1 t220).bind fun t233 => (if t233 = true then (if bt228.2.1 = t223 then (laws_FnExactInOrderCode.j0 k l0 t220 t223 t224 t225 bt228.1 bt228.2.1 bt228.2.2 (bt228.2.2 != t224)) else (laws_FnExactInOrderCode.j0 k l0 t220 t223 t224 t225 bt228.1 bt228.2.1 bt228.2.2 true)) else (laws_FnExactInOrderCode.j0 k l0 t220 t223 t224 t225 bt228.1 bt228.2.1 bt228.2.2 true)))) = some r := H
  have A5 := Aside0.mk A50
  clear A50
  replace H := Option.bind_eq_some_iff.mp H
  obtain ⟨⟨t228, t229, t230⟩, A60, H⟩ := H
  replace H : ((laws_eqIntS.f k t228 t220).bind fun t233 => (if t233 = true then (if t229 = t223 then (laws_FnExactInOrderCode.j0 k l0 t220 t223 t224 t225 t228 t229 t230 (t230 != t224)) else (laws_FnExactInOrderCode.j0 k l0 t220 t223 t224 t225 t228 t229 t230 true)) else (laws_FnExactInOrderCode.j0 k l0 t220 t223 t224 t225 t228 t229 t230 true))) = some r := H
  have A6 := Aside0.mk A60
  clear A60
  have HC7 := Aside0.mk H
  clear H
  go_enter Try.func3, Try.ntmps3
  go_upto_region 6 with (first | ((with_reducible refine gate_callee (f := 5) rfl ?_); refine goesL_ (some 21) rfl rfl Try.func5 (by kernel_rfl) rfl #[.slice A0 l0.length c0] rfl (by (try simp only [List.map_toArray, List.map_cons, List.map_nil]); first | done | rfl | (simp only [List.length_drop, List.length_take]; rfl)) ?_; (with_reducible refine (laws_toIntS.calls k _ _ l0 t217 _ ?side1 ?side2 A3.out).mono ?_); (case side1 => repeat (first | exact HR0.out | (with_reducible refine Kd.C_alloc ?_ _) | (with_reducible refine Kd.C_drewN ?_ _) | (with_reducible refine Kd.C_drew ?_))); (case side2 => exact HC0.out); rintro e w8 ⟨v218, rfl, ho0, hb⟩; refine ⟨_, rfl, ?_⟩; have n0_ := Aside0.mk (Kd.R_lower ho0 (below_size (by repeat (first | (with_reducible first | exact HB.out | apply below_alloc | apply pw_below_drewN | apply below_drew1) | exact HB.out)))); have n1_ := Aside0.mk (below_step (by repeat (first | (with_reducible first | exact HB.out | apply below_alloc | apply pw_below_drewN | apply below_drew1) | exact HB.out)) hb); clear HB; have HO219 := n0_; have HB := n1_; clear n0_ n1_; (try clear hb); (try clear hb2); (try clear hk); (try clear hi); (try clear ho0); obtain ⟨Ao9, co9, eo9⟩ := Kd.R_slice HO219.out; subst eo9) | ((with_reducible refine gate_callee (f := 4) rfl ?_); refine goesL_ (some 22) rfl rfl Try.func4 (by kernel_rfl) rfl #[.slice Ao9 t217.length co9] rfl (by (try simp only [List.map_toArray, List.map_cons, List.map_nil]); first | done | rfl | (simp only [List.length_drop, List.length_take]; rfl)) ?_; (with_reducible refine (spec_InOrderCode.calls k _ _ t217 t220 t223 t224 _ ?side1 ?side2 A4.out).mono ?_); (case side1 => repeat (first | exact (Kd.R_reads' HO219.out).2.2 | (with_reducible refine Kd.C_alloc ?_ _) | (with_reducible refine Kd.C_drewN ?_ _) | (with_reducible refine Kd.C_drew ?_))); (case side2 => exact (Kd.R_reads' HO219.out).2.1); rintro e w10 ⟨v221, rfl, ho0, hb⟩; refine ⟨_, rfl, ?_⟩; have n0_ := Aside0.mk (Kd.R_below (by (with_reducible repeat (first | apply Kd.R_alloc | apply Kd.R_drewN | apply Kd.R_drew)); exact HO219.out) hb); have n1_ := Aside0.mk (Kd.V_lower (Kd.V_mono (ok' := fun k_ => some k_ ≠ (.slice Ao9 t217.length co9 : Value).ownBlock) ho0 (fun k_ hk_ => (Kd.fresh' (Kd.R_lt (by (with_reducible repeat (first | apply Kd.R_alloc | apply Kd.R_drewN | apply Kd.R_drew)); exact HO219.out)) k_ hk_))) (below_size (by repeat (first | (with_reducible first | exact HB.out | apply below_alloc | apply pw_below_drewN | apply below_drew1) | exact HB.out)))); have n2_ := Aside0.mk (below_step (by repeat (first | (with_reducible first | exact HB.out | apply below_alloc | apply pw_below_drewN | apply below_drew1) | exact HB.out)) hb); clear HO219; clear HB; have HO219 := n0_; have HO222 := n1_; have HB := n2_; clear n0_ n1_ n2_; (try clear hb); (try clear hb2); (try clear hk); (try clear hi); (try clear ho0)) | ((with_reducible refine gate_callee (f := 5) rfl ?_); refine goesL_ (some 27) rfl rfl Try.func5 (by kernel_rfl) rfl #[.slice A0 l0.length c0] rfl (by (try simp only [List.map_toArray, List.map_cons, List.map_nil]); first | done | rfl | (simp only [List.length_drop, List.length_take]; rfl)) ?_; (with_reducible refine (laws_toIntS.calls k _ _ l0 t225 _ ?side1 ?side2 A5.out).mono ?_); (case side1 => repeat (first | exact (Kd.C_below HR0.out HB.out) | (with_reducible refine Kd.C_alloc ?_ _) | (with_reducible refine Kd.C_drewN ?_ _) | (with_reducible refine Kd.C_drew ?_))); (case side2 => exact HC0.out); rintro e w11 ⟨v226, rfl, ho0, hb⟩; refine ⟨_, rfl, ?_⟩; have n0_ := Aside0.mk (Kd.R_elder' (by (with_reducible repeat (first | apply Kd.R_alloc | apply Kd.R_drewN | apply Kd.R_drew)); exact HO219.out) (Kd.R_base ho0) hb); have n1_ := Aside0.mk (Kd.V_elder' (by (with_reducible repeat (first | apply Kd.V_alloc | apply Kd.V_drewN | apply Kd.V_drew)); exact HO222.out) (Kd.R_base ho0) hb); have n2_ := Aside0.mk (Kd.R_lower (Kd.R_new' ho0 (Kd.R_lt (by (with_reducible repeat (first | apply Kd.R_alloc | apply Kd.R_drewN | apply Kd.R_drew)); exact HO219.out))) (below_size (by repeat (first | (with_reducible first | exact HB.out | apply below_alloc | apply pw_below_drewN | apply below_drew1) | exact HB.out)))); have n3_ := Aside0.mk (below_step (by repeat (first | (with_reducible first | exact HB.out | apply below_alloc | apply pw_below_drewN | apply below_drew1) | exact HB.out)) hb); clear HO219; clear HO222; clear HB; have HO219 := n0_; have HO222 := n1_; have HO227 := n2_; have HB := n3_; clear n0_ n1_ n2_ n3_; (try clear hb); (try clear hb2); (try clear hk); (try clear hi); (try clear ho0); obtain ⟨Ao12, co12, eo12⟩ := Kd.R_slice HO227.out; subst eo12) | ((with_reducible refine gate_callee (f := 6) rfl ?_); refine goesL_ (some 30) rfl rfl Try.func6 (by kernel_rfl) rfl #[.slice Ao12 t225.length co12] rfl (by (try simp only [List.map_toArray, List.map_cons, List.map_nil]); first | done | rfl | (simp only [List.length_drop, List.length_take]; rfl)) ?_; (with_reducible refine (impl_InOrderCode.calls k _ _ t225 t228 t229 t230 _ ?side1 ?side2 A6.out).mono ?_); (case side1 => repeat (first | exact (Kd.R_reads' HO227.out).2.2 | (with_reducible refine Kd.C_alloc ?_ _) | (with_reducible refine Kd.C_drewN ?_ _) | (with_reducible refine Kd.C_drew ?_))); (case side2 => exact (Kd.R_reads' HO227.out).2.1); rintro e w13 ⟨v231, rfl, ho0, hb⟩; refine ⟨_, rfl, ?_⟩; have n0_ := Aside0.mk (Kd.R_elder' (by (with_reducible repeat (first | apply Kd.R_alloc | apply Kd.R_drewN | apply Kd.R_drew)); exact HO219.out) (Kd.R_base ho0) hb); have n1_ := Aside0.mk (Kd.V_elder' (by (with_reducible repeat (first | apply Kd.V_alloc | apply Kd.V_drewN | apply Kd.V_drew)); exact HO222.out) (Kd.R_base ho0) hb); have n2_ := Aside0.mk (Kd.R_elder' (by (with_reducible repeat (first | apply Kd.R_alloc | apply Kd.R_drewN | apply Kd.R_drew)); exact HO227.out) (Kd.R_base ho0) hb); have n3_ := Aside0.mk (Kd.R_lower (Kd.R_new' (Kd.R_new' ho0 (Kd.R_lt (by (with_reducible repeat (first | apply Kd.R_alloc | apply Kd.R_drewN | apply Kd.R_drew)); exact HO219.out))) (Kd.R_lt (by (with_reducible repeat (first | apply Kd.R_alloc | apply Kd.R_drewN | apply Kd.R_drew)); exact HO227.out))) (below_size (by repeat (first | (with_reducible first | exact HB.out | apply below_alloc | apply pw_below_drewN | apply below_drew1) | exact HB.out)))); have n4_ := Aside0.mk (below_step (by repeat (first | (with_reducible first | exact HB.out | apply below_alloc | apply pw_below_drewN | apply below_drew1) | exact HB.out)) hb); clear HO219; clear HO222; clear HO227; clear HB; have HO219 := n0_; have HO222 := n1_; have HO227 := n2_; have HO232 := n3_; have HB := n4_; clear n0_ n1_ n2_ n3_ n4_; (try clear hb); (try clear hb2); (try clear hk); (try clear hi); (try clear ho0)))
  (try simp only [Act.put, List.setIfInBounds_toArray, List.set_cons_zero, List.set_cons_succ])
  go_cut [47] (fun v47 wc => ∃ (kq : Nat) (x47_6 : Bool), v47 = .bool x47_6 ∧ Aside0 (laws_FnExactInOrderCode.j0 kq l0 t220 t223 t224 t225 t228 t229 t230 x47_6 = some r) ∧ Aside0 (kq ≤ k) ∧ Aside0 (Kd.V (Kd.int .i64) 3 wc w.heap.size (fun k_ => some k_ ≠ ((.slice Ao12 t225.length co12) : Value).ownBlock ∧ some k_ ≠ (v231 : Value).ownBlock) v221 t220) ∧ Aside0 (Kd.R (Kd.int .i64) 3 wc w.heap.size (fun k_ => some k_ ≠ (v231 : Value).ownBlock) (.slice Ao12 t225.length co12) t225) ∧ Aside0 (Kd.R (Kd.int .i64) 3 wc w.heap.size (fun k_ => some k_ ≠ ((.slice Ao12 t225.length co12) : Value).ownBlock) v231 t228) ∧ Aside0 (Below w.heap.size w wc))
  case first =>
   have H := HC7.out
   clear HC7
   replace H := Option.bind_eq_some_iff.mp H
   obtain ⟨t233, A140, H⟩ := H
   replace H : (if t233 = true then (if t229 = t223 then (laws_FnExactInOrderCode.j0 k l0 t220 t223 t224 t225 t228 t229 t230 (t230 != t224)) else (laws_FnExactInOrderCode.j0 k l0 t220 t223 t224 t225 t228 t229 t230 true)) else (laws_FnExactInOrderCode.j0 k l0 t220 t223 t224 t225 t228 t229 t230 true)) = some r := H
   have A14 := Aside0.mk A140
   clear A140
   by_cases c15 : t233 = true
   ·
    subst c15
    have H1 : (if t229 = t223 then (laws_FnExactInOrderCode.j0 k l0 t220 t223 t224 t225 t228 t229 t230 (t230 != t224)) else (laws_FnExactInOrderCode.j0 k l0 t220 t223 t224 t225 t228 t229 t230 true)) = some r := by rw [if_pos rfl] at H; exact H
    clear H
    have H := H1
    clear H1
    by_cases c16 : t229 = t223
    ·
     rw [if_pos c16] at H
     have c16b0 : (t229 == t223) = true := beq_iff_eq.mpr c16
     have c16b1 : (t229 != t223) = false := bne_eq_false_iff_eq.mpr c16
     clear c16
     (first | rw [c16b0] | (simp only [i64_w, i32_w]; rw [c16b0]) | skip)
     have H' := Aside0.mk H
     clear H
     obtain ⟨Ao17, co17, eo17⟩ := Kd.R_slice HO232.out
     subst eo17
     obtain ⟨Ao18, co18, eo18⟩ := Kd.V_slice HO222.out
     subst eo18
     go_wp2_with (first | ((with_reducible refine gate_callee (f := 7) rfl ?_); refine goesL_ (some 36) rfl rfl Try.func7 (by kernel_rfl) rfl #[.slice Ao17 t228.length co17, .slice Ao18 t220.length co18] rfl (by (try simp only [List.map_toArray, List.map_cons, List.map_nil]); first | done | rfl | (simp only [List.length_drop, List.length_take]; rfl)) ?_; (with_reducible refine (laws_eqIntS.calls k _ _ t228 _ _ t220 true _ ?side1 ?side2 ?side3 ?side4 A14.out).mono ?_); (case side1 => repeat (first | exact (Kd.R_reads' HO232.out).2.2 | (with_reducible refine Kd.C_alloc ?_ _) | (with_reducible refine Kd.C_drewN ?_ _) | (with_reducible refine Kd.C_drew ?_))); (case side2 => exact (Kd.R_reads' HO232.out).2.1); (case side3 => repeat (first | exact (Kd.V_reads' HO222.out).2.2 | (with_reducible refine Kd.C_alloc ?_ _) | (with_reducible refine Kd.C_drewN ?_ _) | (with_reducible refine Kd.C_drew ?_))); (case side4 => exact (Kd.V_reads' HO222.out).2.1); rintro e w' ⟨rfl, ⟨nd, rfl⟩⟩; refine ⟨_, rfl, ?_⟩))
     go_meet
     case rel => exact ⟨_, ((t230 != t224)), (by first | rfl | (simp; done) | (simp [*]; done)), H', ⟨by first | omega | exact Nat.le_refl _⟩, ⟨by (with_reducible repeat (first | apply Kd.V_alloc | apply Kd.V_drewN | apply Kd.V_drew)); exact Kd.V_mono HO222.out (fun _ hk => ⟨hk.1.2, hk.2⟩)⟩, ⟨by (with_reducible repeat (first | apply Kd.R_alloc | apply Kd.R_drewN | apply Kd.R_drew)); exact Kd.R_mono HO227.out (fun _ hk => hk.2)⟩, ⟨by (with_reducible repeat (first | apply Kd.R_alloc | apply Kd.R_drewN | apply Kd.R_drew)); exact Kd.R_mono HO232.out (fun _ hk => hk.2)⟩, ⟨by repeat (first | (with_reducible first | exact HB.out | apply below_alloc | apply pw_below_drewN | apply below_drew1) | exact HB.out)⟩⟩
    ·
     rw [if_neg c16] at H
     have c16b0 : (t229 == t223) = false := beq_eq_false_iff_ne.mpr c16
     have c16b1 : (t229 != t223) = true := bne_iff_ne.mpr c16
     (first | rw [c16b0] | (simp only [i64_w, i32_w]; rw [c16b0]) | skip)
     have H' := Aside0.mk H
     clear H
     obtain ⟨Ao19, co19, eo19⟩ := Kd.R_slice HO232.out
     subst eo19
     obtain ⟨Ao20, co20, eo20⟩ := Kd.V_slice HO222.out
     subst eo20
     go_wp2_with (first | ((with_reducible refine gate_callee (f := 7) rfl ?_); refine goesL_ (some 36) rfl rfl Try.func7 (by kernel_rfl) rfl #[.slice Ao19 t228.length co19, .slice Ao20 t220.length co20] rfl (by (try simp only [List.map_toArray, List.map_cons, List.map_nil]); first | done | rfl | (simp only [List.length_drop, List.length_take]; rfl)) ?_; (with_reducible refine (laws_eqIntS.calls k _ _ t228 _ _ t220 true _ ?side1 ?side2 ?side3 ?side4 A14.out).mono ?_); (case side1 => repeat (first | exact (Kd.R_reads' HO232.out).2.2 | (with_reducible refine Kd.C_alloc ?_ _) | (with_reducible refine Kd.C_drewN ?_ _) | (with_reducible refine Kd.C_drew ?_))); (case side2 => exact (Kd.R_reads' HO232.out).2.1); (case side3 => repeat (first | exact (Kd.V_reads' HO222.out).2.2 | (with_reducible refine Kd.C_alloc ?_ _) | (with_reducible refine Kd.C_drewN ?_ _) | (with_reducible refine Kd.C_drew ?_))); (case side4 => exact (Kd.V_reads' HO222.out).2.1); rintro e w' ⟨rfl, ⟨nd, rfl⟩⟩; refine ⟨_, rfl, ?_⟩))
     go_meet
     case rel => exact ⟨_, (true), (by first | rfl | (simp; done) | (simp [*]; done)), H', ⟨by first | omega | exact Nat.le_refl _⟩, ⟨by (with_reducible repeat (first | apply Kd.V_alloc | apply Kd.V_drewN | apply Kd.V_drew)); exact Kd.V_mono HO222.out (fun _ hk => ⟨hk.1.2, hk.2⟩)⟩, ⟨by (with_reducible repeat (first | apply Kd.R_alloc | apply Kd.R_drewN | apply Kd.R_drew)); exact Kd.R_mono HO227.out (fun _ hk => hk.2)⟩, ⟨by (with_reducible repeat (first | apply Kd.R_alloc | apply Kd.R_drewN | apply Kd.R_drew)); exact Kd.R_mono HO232.out (fun _ hk => hk.2)⟩, ⟨by repeat (first | (with_reducible first | exact HB.out | apply below_alloc | apply pw_below_drewN | apply below_drew1) | exact HB.out)⟩⟩
   ·
    replace c15 := Bool.eq_false_iff.mpr c15
    subst c15
    have H1 : (laws_FnExactInOrderCode.j0 k l0 t220 t223 t224 t225 t228 t229 t230 true) = some r := by rw [if_neg (show ¬ (false = true) by decide)] at H; exact H
    clear H
    have H := H1
    clear H1
    have H' := Aside0.mk H
    clear H
    obtain ⟨Ao21, co21, eo21⟩ := Kd.R_slice HO232.out
    subst eo21
    obtain ⟨Ao22, co22, eo22⟩ := Kd.V_slice HO222.out
    subst eo22
    go_wp2_with (first | ((with_reducible refine gate_callee (f := 7) rfl ?_); refine goesL_ (some 36) rfl rfl Try.func7 (by kernel_rfl) rfl #[.slice Ao21 t228.length co21, .slice Ao22 t220.length co22] rfl (by (try simp only [List.map_toArray, List.map_cons, List.map_nil]); first | done | rfl | (simp only [List.length_drop, List.length_take]; rfl)) ?_; (with_reducible refine (laws_eqIntS.calls k _ _ t228 _ _ t220 false _ ?side1 ?side2 ?side3 ?side4 A14.out).mono ?_); (case side1 => repeat (first | exact (Kd.R_reads' HO232.out).2.2 | (with_reducible refine Kd.C_alloc ?_ _) | (with_reducible refine Kd.C_drewN ?_ _) | (with_reducible refine Kd.C_drew ?_))); (case side2 => exact (Kd.R_reads' HO232.out).2.1); (case side3 => repeat (first | exact (Kd.V_reads' HO222.out).2.2 | (with_reducible refine Kd.C_alloc ?_ _) | (with_reducible refine Kd.C_drewN ?_ _) | (with_reducible refine Kd.C_drew ?_))); (case side4 => exact (Kd.V_reads' HO222.out).2.1); rintro e w' ⟨rfl, ⟨nd, rfl⟩⟩; refine ⟨_, rfl, ?_⟩))
    go_meet
    case rel => exact ⟨_, (true), (by first | rfl | (simp; done) | (simp [*]; done)), H', ⟨by first | omega | exact Nat.le_refl _⟩, ⟨by (with_reducible repeat (first | apply Kd.V_alloc | apply Kd.V_drewN | apply Kd.V_drew)); exact Kd.V_mono HO222.out (fun _ hk => ⟨hk.1.2, hk.2⟩)⟩, ⟨by (with_reducible repeat (first | apply Kd.R_alloc | apply Kd.R_drewN | apply Kd.R_drew)); exact Kd.R_mono HO227.out (fun _ hk => hk.2)⟩, ⟨by (with_reducible repeat (first | apply Kd.R_alloc | apply Kd.R_drewN | apply Kd.R_drew)); exact Kd.R_mono HO232.out (fun _ hk => hk.2)⟩, ⟨by repeat (first | (with_reducible first | exact HB.out | apply below_alloc | apply pw_below_drewN | apply below_drew1) | exact HB.out)⟩⟩
  case rest =>
   clear HC7
   try clear c1
   try clear c2
   try clear c2b0
   try clear c2b1
   try clear p2
   try clear c3
   try clear c4
   try clear c5
   try clear c6
   try clear c7
   try clear c15
   try clear c16
   try clear c16b0
   try clear c16b1
   obtain ⟨kq, x47_6, rfl, HA, HJ6, HO_3, HO_6, HO_7, HB⟩ := hcut
   cases kq with
   | zero => exact absurd HA.out (by simp [laws_FnExactInOrderCode.j0])
   | succ kj6 =>
    have H := HA.out
    clear HA
    simp only [laws_FnExactInOrderCode.j0] at H
    by_cases c23 : x47_6 = true
    ·
     subst c23
     have H1 : (some false) = some r := by rw [if_pos rfl] at H; exact H
     clear H
     have H := H1
     clear H1
     obtain rfl := Option.some.inj H
     go_wp2
     go_ret
     exact ⟨by first | rfl | (simp [errW_none, errW_some] <;> rfl) | (simp [*, errW_none, errW_some] <;> rfl), by repeat (first | (with_reducible first | exact HB.out | apply below_alloc | apply pw_below_drewN | apply below_drew1) | exact HB.out)⟩
    ·
     replace c23 := Bool.eq_false_iff.mpr c23
     subst c23
     have H1 : ((laws_toIntS.f kj6 l0).bind fun t234 => ((laws_eqIntS.f kj6 t225 t234).bind fun t237 => (if t237 = true then ((laws_markIntS.f kj6 t225 1).bind fun bt238 => (if bt238.1 < 0 then (laws_FnExactInOrderCode.j1 kj6 l0 t220 t223 t224 t228 true) else ((laws_eqIntS.f kj6 t228 t220).bind fun t240 => (if t240 = true then (if t229 = t223 then (laws_FnExactInOrderCode.j1 kj6 l0 t220 t223 t224 t228 (t230 != t224)) else (laws_FnExactInOrderCode.j1 kj6 l0 t220 t223 t224 t228 true)) else (laws_FnExactInOrderCode.j1 kj6 l0 t220 t223 t224 t228 true))))) else (some false)))) = some r := by rw [if_neg (show ¬ (false = true) by decide)] at H; exact H
     clear H
     have H := H1
     clear H1
     replace H := Option.bind_eq_some_iff.mp H
     obtain ⟨t234, A240, H⟩ := H
     replace H : ((laws_eqIntS.f kj6 t225 t234).bind fun t237 => (if t237 = true then ((laws_markIntS.f kj6 t225 1).bind fun bt238 => (if bt238.1 < 0 then (laws_FnExactInOrderCode.j1 kj6 l0 t220 t223 t224 t228 true) else ((laws_eqIntS.f kj6 t228 t220).bind fun t240 => (if t240 = true then (if t229 = t223 then (laws_FnExactInOrderCode.j1 kj6 l0 t220 t223 t224 t228 (t230 != t224)) else (laws_FnExactInOrderCode.j1 kj6 l0 t220 t223 t224 t228 true)) else (laws_FnExactInOrderCode.j1 kj6 l0 t220 t223 t224 t228 true))))) else (some false))) = some r := H
     have A24 := Aside0.mk A240
     clear A240
     replace H := Option.bind_eq_some_iff.mp H
     obtain ⟨t237, A250, H⟩ := H
     replace H : (if t237 = true then ((laws_markIntS.f kj6 t225 1).bind fun bt238 => (if bt238.1 < 0 then (laws_FnExactInOrderCode.j1 kj6 l0 t220 t223 t224 t228 true) else ((laws_eqIntS.f kj6 t228 t220).bind fun t240 => (if t240 = true then (if t229 = t223 then (laws_FnExactInOrderCode.j1 kj6 l0 t220 t223 t224 t228 (t230 != t224)) else (laws_FnExactInOrderCode.j1 kj6 l0 t220 t223 t224 t228 true)) else (laws_FnExactInOrderCode.j1 kj6 l0 t220 t223 t224 t228 true))))) else (some false)) = some r := H
     have A25 := Aside0.mk A250
     clear A250
     by_cases c26 : t237 = true
     ·
      subst c26
      have H1 : ((laws_markIntS.f kj6 t225 1).bind fun bt238 => (if bt238.1 < 0 then (laws_FnExactInOrderCode.j1 kj6 l0 t220 t223 t224 t228 true) else ((laws_eqIntS.f kj6 t228 t220).bind fun t240 => (if t240 = true then (if t229 = t223 then (laws_FnExactInOrderCode.j1 kj6 l0 t220 t223 t224 t228 (t230 != t224)) else (laws_FnExactInOrderCode.j1 kj6 l0 t220 t223 t224 t228 true)) else (laws_FnExactInOrderCode.j1 kj6 l0 t220 t223 t224 t228 true))))) = some r := by rw [if_pos rfl] at H; exact H
      clear H
      have H := H1
      clear H1
      replace H := Option.bind_eq_some_iff.mp H
      obtain ⟨⟨t238, t239⟩, A270, H⟩ := H
      replace H : (if t238 < 0 then (laws_FnExactInOrderCode.j1 kj6 l0 t220 t223 t224 t228 true) else ((laws_eqIntS.f kj6 t228 t220).bind fun t240 => (if t240 = true then (if t229 = t223 then (laws_FnExactInOrderCode.j1 kj6 l0 t220 t223 t224 t228 (t230 != t224)) else (laws_FnExactInOrderCode.j1 kj6 l0 t220 t223 t224 t228 true)) else (laws_FnExactInOrderCode.j1 kj6 l0 t220 t223 t224 t228 true)))) = some r := H
      have A27 := Aside0.mk A270
      clear A270
      have HC28 := Aside0.mk H
      clear H
      go_upto_region 12 with (first | ((with_reducible refine gate_callee (f := 5) rfl ?_); refine goesL_ (some 50) rfl rfl Try.func5 (by kernel_rfl) rfl #[.slice A0 l0.length c0] rfl (by (try simp only [List.map_toArray, List.map_cons, List.map_nil]); first | done | rfl | (simp only [List.length_drop, List.length_take]; rfl)) ?_; (with_reducible refine (laws_toIntS.calls kj6 _ _ l0 t234 _ ?side1 ?side2 A24.out).mono ?_); (case side1 => repeat (first | exact (Kd.C_below HR0.out HB.out) | (with_reducible refine Kd.C_alloc ?_ _) | (with_reducible refine Kd.C_drewN ?_ _) | (with_reducible refine Kd.C_drew ?_))); (case side2 => exact HC0.out); rintro e w29 ⟨v235, rfl, ho0, hb⟩; refine ⟨_, rfl, ?_⟩; have n0_ := Aside0.mk (Kd.V_elder' (by (with_reducible repeat (first | apply Kd.V_alloc | apply Kd.V_drewN | apply Kd.V_drew)); exact HO_3.out) (Kd.R_base ho0) hb); have n1_ := Aside0.mk (Kd.R_elder' (by (with_reducible repeat (first | apply Kd.R_alloc | apply Kd.R_drewN | apply Kd.R_drew)); exact HO_6.out) (Kd.R_base ho0) hb); have n2_ := Aside0.mk (Kd.R_elder' (by (with_reducible repeat (first | apply Kd.R_alloc | apply Kd.R_drewN | apply Kd.R_drew)); exact HO_7.out) (Kd.R_base ho0) hb); have n3_ := Aside0.mk (Kd.R_lower (Kd.R_new' (Kd.R_new' ho0 (Kd.R_lt (by (with_reducible repeat (first | apply Kd.R_alloc | apply Kd.R_drewN | apply Kd.R_drew)); exact HO_6.out))) (Kd.R_lt (by (with_reducible repeat (first | apply Kd.R_alloc | apply Kd.R_drewN | apply Kd.R_drew)); exact HO_7.out))) (below_size (by repeat (first | (with_reducible first | exact HB.out | apply below_alloc | apply pw_below_drewN | apply below_drew1) | exact HB.out)))); have n4_ := Aside0.mk (below_step (by repeat (first | (with_reducible first | exact HB.out | apply below_alloc | apply pw_below_drewN | apply below_drew1) | exact HB.out)) hb); clear HO_3; clear HO_6; clear HO_7; clear HB; have HO_3 := n0_; have HO_6 := n1_; have HO_7 := n2_; have HO236 := n3_; have HB := n4_; clear n0_ n1_ n2_ n3_ n4_; (try clear hb); (try clear hb2); (try clear hk); (try clear hi); (try clear ho0); obtain ⟨Ao30, co30, eo30⟩ := Kd.R_slice HO236.out; subst eo30) | ((with_reducible refine gate_callee (f := 7) rfl ?_); refine goesL_ (some 51) rfl rfl Try.func7 (by kernel_rfl) rfl #[.slice Ao12 t225.length co12, .slice Ao30 t234.length co30] rfl (by (try simp only [List.map_toArray, List.map_cons, List.map_nil]); first | done | rfl | (simp only [List.length_drop, List.length_take]; rfl)) ?_; (with_reducible refine (laws_eqIntS.calls kj6 _ _ t225 _ _ t234 true _ ?side1 ?side2 ?side3 ?side4 A25.out).mono ?_); (case side1 => repeat (first | exact (Kd.R_reads' HO_6.out).2.2 | (with_reducible refine Kd.C_alloc ?_ _) | (with_reducible refine Kd.C_drewN ?_ _) | (with_reducible refine Kd.C_drew ?_))); (case side2 => exact (Kd.R_reads' HO_6.out).2.1); (case side3 => repeat (first | exact (Kd.R_reads' HO236.out).2.2 | (with_reducible refine Kd.C_alloc ?_ _) | (with_reducible refine Kd.C_drewN ?_ _) | (with_reducible refine Kd.C_drew ?_))); (case side4 => exact (Kd.R_reads' HO236.out).2.1); rintro e w' ⟨rfl, ⟨nd, rfl⟩⟩; refine ⟨_, rfl, ?_⟩) | ((with_reducible refine gate_callee (f := 8) rfl ?_); refine goesL_ (some 55) rfl rfl Try.func8 (by kernel_rfl) rfl #[.slice Ao12 t225.length co12, .int .i64 1] rfl (by (try simp only [List.map_toArray, List.map_cons, List.map_nil]); first | done | rfl | (simp only [List.length_drop, List.length_take]; rfl)) ?_; (with_reducible refine (laws_markIntS.calls kj6 (fun k_ => some k_ = (.slice Ao12 t225.length co12 : Value).ownBlock) (.slice Ao12 t225.length co12) t225 1 t238 t239 w _ ?side1 ?side2 A27.out).mono ?_); (case side1 => repeat (first | (with_reducible first | exact HB.out | apply below_alloc | apply pw_below_drewN | apply below_drew1) | exact HB.out)); (case side2 => exact Kd.R_tight rfl HO_6.out); rintro e w31 ⟨rfl, hy0, hb, hkp⟩; refine ⟨_, rfl, ?_⟩; have n0_ := Aside0.mk (Kd.V_mono (ok' := fun k_ => some k_ ≠ (.slice Ao12 t225.length co12 : Value).ownBlock ∧ some k_ ≠ (v231 : Value).ownBlock ∧ some k_ ≠ (.slice Ao30 t234.length co30 : Value).ownBlock) (Kd.V_keptB (HO_3.out) hkp (fun k_ hk_ hs_ => (hk_.1.1) hs_)) (fun k_ hk_ => ⟨hk_.1.1.1, hk_.1.1.2, hk_.1.2⟩)); have n1_ := Aside0.mk (Kd.R_reok rfl hy0 (fun k_ e_ => HO_6.out.1 k_ e_)); have n2_ := Aside0.mk (Kd.R_mono (ok' := fun k_ => some k_ ≠ (.slice Ao12 t225.length co12 : Value).ownBlock ∧ some k_ ≠ (.slice Ao30 t234.length co30 : Value).ownBlock) (Kd.R_keptB (HO_7.out) hkp (fun k_ hk_ hs_ => (hk_.1) hs_)) (fun k_ hk_ => ⟨hk_.1.1, hk_.1.2⟩)); have n3_ := Aside0.mk (Kd.R_mono (ok' := fun k_ => some k_ ≠ (.slice Ao12 t225.length co12 : Value).ownBlock ∧ some k_ ≠ (v231 : Value).ownBlock) (Kd.R_keptB (HO236.out) hkp (fun k_ hk_ hs_ => (hk_.1.2) hs_)) (fun k_ hk_ => ⟨hk_.1.1.2, hk_.1.2⟩)); have n4_ := Aside0.mk (hb); clear HO_3; clear HO_6; clear HO_7; clear HO236; clear HB; have HO_3 := n0_; have HO_6 := n1_; have HO_7 := n2_; have HO236 := n3_; have HB := n4_; clear n0_ n1_ n2_ n3_ n4_; (try clear hb); (try clear hkp); (try clear hy0)))
      (try simp only [Act.put, List.setIfInBounds_toArray, List.set_cons_zero, List.set_cons_succ])
      go_cut [73] (fun v73 wc => ∃ (kq : Nat) (x73_27 : Bool), v73 = .bool x73_27 ∧ Aside0 (laws_FnExactInOrderCode.j1 kq l0 t220 t223 t224 t228 x73_27 = some r) ∧ Aside0 (kq ≤ kj6) ∧ Aside0 (Kd.V (Kd.int .i64) 3 wc w.heap.size (fun k_ => some k_ ≠ (v231 : Value).ownBlock) v221 t220) ∧ Aside0 (Kd.R (Kd.int .i64) 3 wc w.heap.size (fun _ => True) v231 t228) ∧ Aside0 (Below w.heap.size w wc))
      case first =>
       have H := HC28.out
       clear HC28
       by_cases c32 : t238 < 0
       ·
        rw [if_pos c32] at H
        have c32b0 : decide (t238 < 0) = true := decide_eq_true c32
        clear c32
        (first | rw [c32b0] | (simp only [i64_w, i32_w]; rw [c32b0]) | skip)
        have H' := Aside0.mk H
        clear H
        go_wp2
        go_meet
        case rel => exact ⟨_, (true), (by first | rfl | (simp; done) | (simp [*]; done)), H', ⟨by have := HJ6.out; first | omega | exact Nat.le_refl _⟩, ⟨by (with_reducible repeat (first | apply Kd.V_alloc | apply Kd.V_drewN | apply Kd.V_drew)); exact Kd.V_mono HO_3.out (fun _ hk => hk.2.1)⟩, ⟨by (with_reducible repeat (first | apply Kd.R_alloc | apply Kd.R_drewN | apply Kd.R_drew)); exact Kd.R_mono HO_7.out (fun _ hk => trivial)⟩, ⟨by repeat (first | (with_reducible first | exact HB.out | apply below_alloc | apply pw_below_drewN | apply below_drew1) | exact HB.out)⟩⟩
       ·
        rw [if_neg c32] at H
        have c32b0 : decide (t238 < 0) = false := decide_eq_false c32
        clear c32
        (first | rw [c32b0] | (simp only [i64_w, i32_w]; rw [c32b0]) | skip)
        replace H := Option.bind_eq_some_iff.mp H
        obtain ⟨t240, A330, H⟩ := H
        replace H : (if t240 = true then (if t229 = t223 then (laws_FnExactInOrderCode.j1 kj6 l0 t220 t223 t224 t228 (t230 != t224)) else (laws_FnExactInOrderCode.j1 kj6 l0 t220 t223 t224 t228 true)) else (laws_FnExactInOrderCode.j1 kj6 l0 t220 t223 t224 t228 true)) = some r := H
        have A33 := Aside0.mk A330
        clear A330
        by_cases c34 : t240 = true
        ·
         subst c34
         have H1 : (if t229 = t223 then (laws_FnExactInOrderCode.j1 kj6 l0 t220 t223 t224 t228 (t230 != t224)) else (laws_FnExactInOrderCode.j1 kj6 l0 t220 t223 t224 t228 true)) = some r := by rw [if_pos rfl] at H; exact H
         clear H
         have H := H1
         clear H1
         by_cases c35 : t229 = t223
         ·
          rw [if_pos c35] at H
          have c35b0 : (t229 == t223) = true := beq_iff_eq.mpr c35
          have c35b1 : (t229 != t223) = false := bne_eq_false_iff_eq.mpr c35
          clear c35
          have H' := Aside0.mk H
          clear H
          obtain ⟨Ao36, co36, eo36⟩ := Kd.R_slice HO_7.out
          subst eo36
          obtain ⟨Ao37, co37, eo37⟩ := Kd.V_slice HO_3.out
          subst eo37
          go_wp2_with (first | (go_at_call 7; (with_reducible refine (laws_eqIntS.calls kj6 _ _ t228 _ _ t220 true _ ?side1 ?side2 ?side3 ?side4 A33.out).mono ?_); (case side1 => repeat (first | exact (Kd.R_reads' HO_7.out).2.2 | (with_reducible refine Kd.C_alloc ?_ _) | (with_reducible refine Kd.C_drewN ?_ _) | (with_reducible refine Kd.C_drew ?_))); (case side2 => exact (Kd.R_reads' HO_7.out).2.1); (case side3 => repeat (first | exact (Kd.V_reads' HO_3.out).2.2 | (with_reducible refine Kd.C_alloc ?_ _) | (with_reducible refine Kd.C_drewN ?_ _) | (with_reducible refine Kd.C_drew ?_))); (case side4 => exact (Kd.V_reads' HO_3.out).2.1); rintro e w' ⟨rfl, ⟨nd, rfl⟩⟩))
          go_meet
          case rel => exact ⟨_, ((t230 != t224)), (by first | rfl | (simp; done) | (simp [*]; done)), H', ⟨by have := HJ6.out; first | omega | exact Nat.le_refl _⟩, ⟨by (with_reducible repeat (first | apply Kd.V_alloc | apply Kd.V_drewN | apply Kd.V_drew)); exact Kd.V_mono HO_3.out (fun _ hk => hk.2.1)⟩, ⟨by (with_reducible repeat (first | apply Kd.R_alloc | apply Kd.R_drewN | apply Kd.R_drew)); exact Kd.R_mono HO_7.out (fun _ hk => trivial)⟩, ⟨by repeat (first | (with_reducible first | exact HB.out | apply below_alloc | apply pw_below_drewN | apply below_drew1) | exact HB.out)⟩⟩
         ·
          rw [if_neg c35] at H
          have c35b0 : (t229 == t223) = false := beq_eq_false_iff_ne.mpr c35
          have c35b1 : (t229 != t223) = true := bne_iff_ne.mpr c35
          have H' := Aside0.mk H
          clear H
          obtain ⟨Ao38, co38, eo38⟩ := Kd.R_slice HO_7.out
          subst eo38
          obtain ⟨Ao39, co39, eo39⟩ := Kd.V_slice HO_3.out
          subst eo39
          go_wp2_with (first | (go_at_call 7; (with_reducible refine (laws_eqIntS.calls kj6 _ _ t228 _ _ t220 true _ ?side1 ?side2 ?side3 ?side4 A33.out).mono ?_); (case side1 => repeat (first | exact (Kd.R_reads' HO_7.out).2.2 | (with_reducible refine Kd.C_alloc ?_ _) | (with_reducible refine Kd.C_drewN ?_ _) | (with_reducible refine Kd.C_drew ?_))); (case side2 => exact (Kd.R_reads' HO_7.out).2.1); (case side3 => repeat (first | exact (Kd.V_reads' HO_3.out).2.2 | (with_reducible refine Kd.C_alloc ?_ _) | (with_reducible refine Kd.C_drewN ?_ _) | (with_reducible refine Kd.C_drew ?_))); (case side4 => exact (Kd.V_reads' HO_3.out).2.1); rintro e w' ⟨rfl, ⟨nd, rfl⟩⟩))
          go_meet
          case rel => exact ⟨_, (true), (by first | rfl | (simp; done) | (simp [*]; done)), H', ⟨by have := HJ6.out; first | omega | exact Nat.le_refl _⟩, ⟨by (with_reducible repeat (first | apply Kd.V_alloc | apply Kd.V_drewN | apply Kd.V_drew)); exact Kd.V_mono HO_3.out (fun _ hk => hk.2.1)⟩, ⟨by (with_reducible repeat (first | apply Kd.R_alloc | apply Kd.R_drewN | apply Kd.R_drew)); exact Kd.R_mono HO_7.out (fun _ hk => trivial)⟩, ⟨by repeat (first | (with_reducible first | exact HB.out | apply below_alloc | apply pw_below_drewN | apply below_drew1) | exact HB.out)⟩⟩
        ·
         replace c34 := Bool.eq_false_iff.mpr c34
         subst c34
         have H1 : (laws_FnExactInOrderCode.j1 kj6 l0 t220 t223 t224 t228 true) = some r := by rw [if_neg (show ¬ (false = true) by decide)] at H; exact H
         clear H
         have H := H1
         clear H1
         have H' := Aside0.mk H
         clear H
         obtain ⟨Ao40, co40, eo40⟩ := Kd.R_slice HO_7.out
         subst eo40
         obtain ⟨Ao41, co41, eo41⟩ := Kd.V_slice HO_3.out
         subst eo41
         go_wp2_with (first | (go_at_call 7; (with_reducible refine (laws_eqIntS.calls kj6 _ _ t228 _ _ t220 false _ ?side1 ?side2 ?side3 ?side4 A33.out).mono ?_); (case side1 => repeat (first | exact (Kd.R_reads' HO_7.out).2.2 | (with_reducible refine Kd.C_alloc ?_ _) | (with_reducible refine Kd.C_drewN ?_ _) | (with_reducible refine Kd.C_drew ?_))); (case side2 => exact (Kd.R_reads' HO_7.out).2.1); (case side3 => repeat (first | exact (Kd.V_reads' HO_3.out).2.2 | (with_reducible refine Kd.C_alloc ?_ _) | (with_reducible refine Kd.C_drewN ?_ _) | (with_reducible refine Kd.C_drew ?_))); (case side4 => exact (Kd.V_reads' HO_3.out).2.1); rintro e w' ⟨rfl, ⟨nd, rfl⟩⟩))
         go_meet
         case rel => exact ⟨_, (true), (by first | rfl | (simp; done) | (simp [*]; done)), H', ⟨by have := HJ6.out; first | omega | exact Nat.le_refl _⟩, ⟨by (with_reducible repeat (first | apply Kd.V_alloc | apply Kd.V_drewN | apply Kd.V_drew)); exact Kd.V_mono HO_3.out (fun _ hk => hk.2.1)⟩, ⟨by (with_reducible repeat (first | apply Kd.R_alloc | apply Kd.R_drewN | apply Kd.R_drew)); exact Kd.R_mono HO_7.out (fun _ hk => trivial)⟩, ⟨by repeat (first | (with_reducible first | exact HB.out | apply below_alloc | apply pw_below_drewN | apply below_drew1) | exact HB.out)⟩⟩
      case rest =>
       clear HC28
       try clear c1
       try clear c2
       try clear c2b0
       try clear c2b1
       try clear p2
       try clear c3
       try clear c4
       try clear c5
       try clear c6
       try clear c7
       try clear c8
       try clear c15
       try clear c16
       try clear c16b0
       try clear c16b1
       try clear c23
       try clear c26
       try clear c32
       try clear c32b0
       try clear c34
       try clear c35
       try clear c35b0
       try clear c35b1
       try clear p2
       obtain ⟨kq, x73_27, rfl, HA, HJ27, HO_3, HO_7, HB⟩ := hcut
       cases kq with
       | zero => exact absurd HA.out (by simp [laws_FnExactInOrderCode.j1])
       | succ kj27 =>
        have H := HA.out
        clear HA
        simp only [laws_FnExactInOrderCode.j1] at H
        by_cases c42 : x73_27 = true
        ·
         subst c42
         have H1 : (some false) = some r := by rw [if_pos rfl] at H; exact H
         clear H
         have H := H1
         clear H1
         obtain rfl := Option.some.inj H
         go_wp2
         go_ret
         exact ⟨by first | rfl | (simp [errW_none, errW_some] <;> rfl) | (simp [*, errW_none, errW_some] <;> rfl), by repeat (first | (with_reducible first | exact HB.out | apply below_alloc | apply pw_below_drewN | apply below_drew1) | exact HB.out)⟩
        ·
         replace c42 := Bool.eq_false_iff.mpr c42
         subst c42
         have H1 : ((laws_markIntS.f kj27 t228 1).bind fun bt241 => ((laws_heldIntS.f kj27 bt241.2 1).bind fun t243 => (if t243 < 0 then (some false) else (if t243 = bt241.1 then ((laws_toIntS.f kj27 l0).bind fun t244 => ((impl_InOrderCode.f kj27 t244).bind fun bt247 => ((laws_eqIntS.f kj27 bt247.1 t220).bind fun t252 => (if t252 = true then (if bt247.2.1 = t223 then (laws_FnExactInOrderCode.j2 kj27 bt241.2 bt241.1 (bt247.2.2 != t224)) else (laws_FnExactInOrderCode.j2 kj27 bt241.2 bt241.1 true)) else (laws_FnExactInOrderCode.j2 kj27 bt241.2 bt241.1 true))))) else (some false))))) = some r := by rw [if_neg (show ¬ (false = true) by decide)] at H; exact H
         clear H
         have H := H1
         clear H1
         replace H := Option.bind_eq_some_iff.mp H
         obtain ⟨⟨t241, t242⟩, A430, H⟩ := H
         replace H : ((laws_heldIntS.f kj27 t242 1).bind fun t243 => (if t243 < 0 then (some false) else (if t243 = t241 then ((laws_toIntS.f kj27 l0).bind fun t244 => ((impl_InOrderCode.f kj27 t244).bind fun bt247 => ((laws_eqIntS.f kj27 bt247.1 t220).bind fun t252 => (if t252 = true then (if bt247.2.1 = t223 then (laws_FnExactInOrderCode.j2 kj27 t242 t241 (bt247.2.2 != t224)) else (laws_FnExactInOrderCode.j2 kj27 t242 t241 true)) else (laws_FnExactInOrderCode.j2 kj27 t242 t241 true))))) else (some false)))) = some r := H
         have A43 := Aside0.mk A430
         clear A430
         replace H := Option.bind_eq_some_iff.mp H
         obtain ⟨t243, A440, H⟩ := H
         replace H : (if t243 < 0 then (some false) else (if t243 = t241 then ((laws_toIntS.f kj27 l0).bind fun t244 => ((impl_InOrderCode.f kj27 t244).bind fun bt247 => ((laws_eqIntS.f kj27 bt247.1 t220).bind fun t252 => (if t252 = true then (if bt247.2.1 = t223 then (laws_FnExactInOrderCode.j2 kj27 t242 t241 (bt247.2.2 != t224)) else (laws_FnExactInOrderCode.j2 kj27 t242 t241 true)) else (laws_FnExactInOrderCode.j2 kj27 t242 t241 true))))) else (some false))) = some r := H
         have A44 := Aside0.mk A440
         clear A440
         by_cases c45 : t243 < 0
         ·
          rw [if_pos c45] at H
          have c45b0 : decide (t243 < 0) = true := decide_eq_true c45
          clear c45
          obtain rfl := Option.some.inj H
          obtain ⟨Ao46, co46, eo46⟩ := Kd.R_slice HO_7.out
          subst eo46
          go_wp2_with (first | ((with_reducible refine gate_callee (f := 8) rfl ?_); refine goesL_ (some 76) rfl rfl Try.func8 (by kernel_rfl) rfl #[.slice Ao46 t228.length co46, .int .i64 1] rfl (by (try simp only [List.map_toArray, List.map_cons, List.map_nil]); first | done | rfl | (simp only [List.length_drop, List.length_take]; rfl)) ?_; (with_reducible refine (laws_markIntS.calls kj27 (fun k_ => some k_ = (.slice Ao46 t228.length co46 : Value).ownBlock) (.slice Ao46 t228.length co46) t228 1 t241 t242 w _ ?side1 ?side2 A43.out).mono ?_); (case side1 => repeat (first | (with_reducible first | exact HB.out | apply below_alloc | apply pw_below_drewN | apply below_drew1) | exact HB.out)); (case side2 => exact Kd.R_tight rfl HO_7.out); rintro e w47 ⟨rfl, hy0, hb, hkp⟩; refine ⟨_, rfl, ?_⟩; have n0_ := Aside0.mk (Kd.V_mono (ok' := fun k_ => some k_ ≠ (.slice Ao46 t228.length co46 : Value).ownBlock) (Kd.V_keptB (HO_3.out) hkp (fun k_ hk_ hs_ => (hk_) hs_)) (fun k_ hk_ => hk_.1)); have n1_ := Aside0.mk (Kd.R_reok rfl hy0 (fun k_ e_ => HO_7.out.1 k_ e_)); have n2_ := Aside0.mk (hb); clear HO_3; clear HO_7; clear HB; have HO_3 := n0_; have HO_7 := n1_; have HB := n2_; clear n0_ n1_ n2_; (try clear hb); (try clear hkp); (try clear hy0)) | ((with_reducible refine gate_callee (f := 9) rfl ?_); refine goesL_ (some 79) rfl rfl Try.func9 (by kernel_rfl) rfl #[.slice Ao46 t242.length co46, .int .i64 1] rfl (by (try simp only [List.map_toArray, List.map_cons, List.map_nil]); first | done | (rw [show t242.length = t228.length from (Kd.R_reads' HO_7.out).1.symm] <;> rfl) | rfl | (simp only [List.length_drop, List.length_take]; rfl)) ?_; (with_reducible refine (laws_heldIntS.calls kj27 _ _ t242 1 t243 _ ?side1 ?side2 A44.out).mono ?_); (case side1 => repeat (first | exact (Kd.R_reads' HO_7.out).2.2 | (with_reducible refine Kd.C_alloc ?_ _) | (with_reducible refine Kd.C_drewN ?_ _) | (with_reducible refine Kd.C_drew ?_))); (case side2 => rw [show t242.length = t228.length from (Kd.R_reads' HO_7.out).1.symm]; exact (Kd.R_reads' HO_7.out).2.1); rintro e w' ⟨rfl, ⟨nd, rfl⟩⟩; refine ⟨_, rfl, ?_⟩))
          go_ret
          exact ⟨by first | rfl | (simp [errW_none, errW_some] <;> rfl) | (simp [*, errW_none, errW_some] <;> rfl), by repeat (first | (with_reducible first | exact HB.out | apply below_alloc | apply pw_below_drewN | apply below_drew1) | exact HB.out)⟩
         ·
          rw [if_neg c45] at H
          have c45b0 : decide (t243 < 0) = false := decide_eq_false c45
          clear c45
          by_cases c48 : t243 = t241
          ·
           rw [if_pos c48] at H
           have c48b0 : (t243 == t241) = true := beq_iff_eq.mpr c48
           have c48b1 : (t243 != t241) = false := bne_eq_false_iff_eq.mpr c48
           clear c48
           replace H := Option.bind_eq_some_iff.mp H
           obtain ⟨t244, A490, H⟩ := H
           replace H : ((impl_InOrderCode.f kj27 t244).bind fun bt247 => ((laws_eqIntS.f kj27 bt247.1 t220).bind fun t252 => (if t252 = true then (if bt247.2.1 = t223 then (laws_FnExactInOrderCode.j2 kj27 t242 t241 (bt247.2.2 != t224)) else (laws_FnExactInOrderCode.j2 kj27 t242 t241 true)) else (laws_FnExactInOrderCode.j2 kj27 t242 t241 true)))) = some r := H
           have A49 := Aside0.mk A490
           clear A490
           replace H := Option.bind_eq_some_iff.mp H
           obtain ⟨⟨t247, t248, t249⟩, A500, H⟩ := H
           replace H : ((laws_eqIntS.f kj27 t247 t220).bind fun t252 => (if t252 = true then (if t248 = t223 then (laws_FnExactInOrderCode.j2 kj27 t242 t241 (t249 != t224)) else (laws_FnExactInOrderCode.j2 kj27 t242 t241 true)) else (laws_FnExactInOrderCode.j2 kj27 t242 t241 true))) = some r := H
           have A50 := Aside0.mk A500
           clear A500
           have HC51 := Aside0.mk H
           clear H
           obtain ⟨Ao52, co52, eo52⟩ := Kd.R_slice HO_7.out
           subst eo52
           go_upto_region 23 with (first | ((with_reducible refine gate_callee (f := 8) rfl ?_); refine goesL_ (some 76) rfl rfl Try.func8 (by kernel_rfl) rfl #[.slice Ao52 t228.length co52, .int .i64 1] rfl (by (try simp only [List.map_toArray, List.map_cons, List.map_nil]); first | done | rfl | (simp only [List.length_drop, List.length_take]; rfl)) ?_; (with_reducible refine (laws_markIntS.calls kj27 (fun k_ => some k_ = (.slice Ao52 t228.length co52 : Value).ownBlock) (.slice Ao52 t228.length co52) t228 1 t241 t242 w _ ?side1 ?side2 A43.out).mono ?_); (case side1 => repeat (first | (with_reducible first | exact HB.out | apply below_alloc | apply pw_below_drewN | apply below_drew1) | exact HB.out)); (case side2 => exact Kd.R_tight rfl HO_7.out); rintro e w53 ⟨rfl, hy0, hb, hkp⟩; refine ⟨_, rfl, ?_⟩; have n0_ := Aside0.mk (Kd.V_mono (ok' := fun k_ => some k_ ≠ (.slice Ao52 t228.length co52 : Value).ownBlock) (Kd.V_keptB (HO_3.out) hkp (fun k_ hk_ hs_ => (hk_) hs_)) (fun k_ hk_ => hk_.1)); have n1_ := Aside0.mk (Kd.R_reok rfl hy0 (fun k_ e_ => HO_7.out.1 k_ e_)); have n2_ := Aside0.mk (hb); clear HO_3; clear HO_7; clear HB; have HO_3 := n0_; have HO_7 := n1_; have HB := n2_; clear n0_ n1_ n2_; (try clear hb); (try clear hkp); (try clear hy0)) | ((with_reducible refine gate_callee (f := 9) rfl ?_); refine goesL_ (some 79) rfl rfl Try.func9 (by kernel_rfl) rfl #[.slice Ao52 t242.length co52, .int .i64 1] rfl (by (try simp only [List.map_toArray, List.map_cons, List.map_nil]); first | done | (rw [show t242.length = t228.length from (Kd.R_reads' HO_7.out).1.symm] <;> rfl) | rfl | (simp only [List.length_drop, List.length_take]; rfl)) ?_; (with_reducible refine (laws_heldIntS.calls kj27 _ _ t242 1 t243 _ ?side1 ?side2 A44.out).mono ?_); (case side1 => repeat (first | exact (Kd.R_reads' HO_7.out).2.2 | (with_reducible refine Kd.C_alloc ?_ _) | (with_reducible refine Kd.C_drewN ?_ _) | (with_reducible refine Kd.C_drew ?_))); (case side2 => rw [show t242.length = t228.length from (Kd.R_reads' HO_7.out).1.symm]; exact (Kd.R_reads' HO_7.out).2.1); rintro e w' ⟨rfl, ⟨nd, rfl⟩⟩; refine ⟨_, rfl, ?_⟩) | ((with_reducible refine gate_callee (f := 5) rfl ?_); refine goesL_ (some 87) rfl rfl Try.func5 (by kernel_rfl) rfl #[.slice A0 l0.length c0] rfl (by (try simp only [List.map_toArray, List.map_cons, List.map_nil]); first | done | rfl | (simp only [List.length_drop, List.length_take]; rfl)) ?_; (with_reducible refine (laws_toIntS.calls kj27 _ _ l0 t244 _ ?side1 ?side2 A49.out).mono ?_); (case side1 => repeat (first | exact (Kd.C_below HR0.out (by repeat (first | (with_reducible first | exact HB.out | apply below_alloc | apply pw_below_drewN | apply below_drew1) | exact HB.out))) | (with_reducible refine Kd.C_alloc ?_ _) | (with_reducible refine Kd.C_drewN ?_ _) | (with_reducible refine Kd.C_drew ?_))); (case side2 => exact HC0.out); rintro e w54 ⟨v245, rfl, ho0, hb⟩; refine ⟨_, rfl, ?_⟩; have n0_ := Aside0.mk (Kd.V_elder' (by (with_reducible repeat (first | apply Kd.V_alloc | apply Kd.V_drewN | apply Kd.V_drew)); exact HO_3.out) (Kd.R_base ho0) hb); have n1_ := Aside0.mk (Kd.R_elder' (by (with_reducible repeat (first | apply Kd.R_alloc | apply Kd.R_drewN | apply Kd.R_drew)); exact HO_7.out) (Kd.R_base ho0) hb); have n2_ := Aside0.mk (Kd.R_lower (Kd.R_new' ho0 (Kd.R_lt (by (with_reducible repeat (first | apply Kd.R_alloc | apply Kd.R_drewN | apply Kd.R_drew)); exact HO_7.out))) (below_size (by repeat (first | (with_reducible first | exact HB.out | apply below_alloc | apply pw_below_drewN | apply below_drew1) | exact HB.out)))); have n3_ := Aside0.mk (below_step (by repeat (first | (with_reducible first | exact HB.out | apply below_alloc | apply pw_below_drewN | apply below_drew1) | exact HB.out)) hb); clear HO_3; clear HO_7; clear HB; have HO_3 := n0_; have HO_7 := n1_; have HO246 := n2_; have HB := n3_; clear n0_ n1_ n2_ n3_; (try clear hb); (try clear hb2); (try clear hk); (try clear hi); (try clear ho0); obtain ⟨Ao55, co55, eo55⟩ := Kd.R_slice HO246.out; subst eo55) | ((with_reducible refine gate_callee (f := 6) rfl ?_); refine goesL_ (some 88) rfl rfl Try.func6 (by kernel_rfl) rfl #[.slice Ao55 t244.length co55] rfl (by (try simp only [List.map_toArray, List.map_cons, List.map_nil]); first | done | rfl | (simp only [List.length_drop, List.length_take]; rfl)) ?_; (with_reducible refine (impl_InOrderCode.calls kj27 _ _ t244 t247 t248 t249 _ ?side1 ?side2 A50.out).mono ?_); (case side1 => repeat (first | exact (Kd.R_reads' HO246.out).2.2 | (with_reducible refine Kd.C_alloc ?_ _) | (with_reducible refine Kd.C_drewN ?_ _) | (with_reducible refine Kd.C_drew ?_))); (case side2 => exact (Kd.R_reads' HO246.out).2.1); rintro e w56 ⟨v250, rfl, ho0, hb⟩; refine ⟨_, rfl, ?_⟩; have n0_ := Aside0.mk (Kd.V_elder' (by (with_reducible repeat (first | apply Kd.V_alloc | apply Kd.V_drewN | apply Kd.V_drew)); exact HO_3.out) (Kd.R_base ho0) hb); have n1_ := Aside0.mk (Kd.R_elder' (by (with_reducible repeat (first | apply Kd.R_alloc | apply Kd.R_drewN | apply Kd.R_drew)); exact HO_7.out) (Kd.R_base ho0) hb); have n2_ := Aside0.mk (Kd.R_elder' (by (with_reducible repeat (first | apply Kd.R_alloc | apply Kd.R_drewN | apply Kd.R_drew)); exact HO246.out) (Kd.R_base ho0) hb); have n3_ := Aside0.mk (Kd.R_lower (Kd.R_new' (Kd.R_new' ho0 (Kd.R_lt (by (with_reducible repeat (first | apply Kd.R_alloc | apply Kd.R_drewN | apply Kd.R_drew)); exact HO_7.out))) (Kd.R_lt (by (with_reducible repeat (first | apply Kd.R_alloc | apply Kd.R_drewN | apply Kd.R_drew)); exact HO246.out))) (below_size (by repeat (first | (with_reducible first | exact HB.out | apply below_alloc | apply pw_below_drewN | apply below_drew1) | exact HB.out)))); have n4_ := Aside0.mk (below_step (by repeat (first | (with_reducible first | exact HB.out | apply below_alloc | apply pw_below_drewN | apply below_drew1) | exact HB.out)) hb); clear HO_3; clear HO_7; clear HO246; clear HB; have HO_3 := n0_; have HO_7 := n1_; have HO246 := n2_; have HO251 := n3_; have HB := n4_; clear n0_ n1_ n2_ n3_ n4_; (try clear hb); (try clear hb2); (try clear hk); (try clear hi); (try clear ho0)))
           (try simp only [Act.put, List.setIfInBounds_toArray, List.set_cons_zero, List.set_cons_succ])
           go_cut [105] (fun v105 wc => ∃ (kq : Nat) (x105_50 : Bool), v105 = .bool x105_50 ∧ Aside0 (laws_FnExactInOrderCode.j2 kq t242 t241 x105_50 = some r) ∧ Aside0 (kq ≤ kj27) ∧ Aside0 (Kd.R (Kd.int .i64) 3 wc w.heap.size (fun _ => True) (.slice Ao52 t228.length co52) t242) ∧ Aside0 (Below w.heap.size w wc))
           case first =>
            have H := HC51.out
            clear HC51
            replace H := Option.bind_eq_some_iff.mp H
            obtain ⟨t252, A570, H⟩ := H
            replace H : (if t252 = true then (if t248 = t223 then (laws_FnExactInOrderCode.j2 kj27 t242 t241 (t249 != t224)) else (laws_FnExactInOrderCode.j2 kj27 t242 t241 true)) else (laws_FnExactInOrderCode.j2 kj27 t242 t241 true)) = some r := H
            have A57 := Aside0.mk A570
            clear A570
            by_cases c58 : t252 = true
            ·
             subst c58
             have H1 : (if t248 = t223 then (laws_FnExactInOrderCode.j2 kj27 t242 t241 (t249 != t224)) else (laws_FnExactInOrderCode.j2 kj27 t242 t241 true)) = some r := by rw [if_pos rfl] at H; exact H
             clear H
             have H := H1
             clear H1
             by_cases c59 : t248 = t223
             ·
              rw [if_pos c59] at H
              have c59b0 : (t248 == t223) = true := beq_iff_eq.mpr c59
              have c59b1 : (t248 != t223) = false := bne_eq_false_iff_eq.mpr c59
              clear c59
              (first | rw [c59b0] | (simp only [i64_w, i32_w]; rw [c59b0]) | skip)
              have H' := Aside0.mk H
              clear H
              obtain ⟨Ao60, co60, eo60⟩ := Kd.R_slice HO251.out
              subst eo60
              obtain ⟨Ao61, co61, eo61⟩ := Kd.V_slice HO_3.out
              subst eo61
              go_wp2_with (first | ((with_reducible refine gate_callee (f := 7) rfl ?_); refine goesL_ (some 94) rfl rfl Try.func7 (by kernel_rfl) rfl #[.slice Ao60 t247.length co60, .slice Ao61 t220.length co61] rfl (by (try simp only [List.map_toArray, List.map_cons, List.map_nil]); first | done | rfl | (simp only [List.length_drop, List.length_take]; rfl)) ?_; (with_reducible refine (laws_eqIntS.calls kj27 _ _ t247 _ _ t220 true _ ?side1 ?side2 ?side3 ?side4 A57.out).mono ?_); (case side1 => repeat (first | exact (Kd.R_reads' HO251.out).2.2 | (with_reducible refine Kd.C_alloc ?_ _) | (with_reducible refine Kd.C_drewN ?_ _) | (with_reducible refine Kd.C_drew ?_))); (case side2 => exact (Kd.R_reads' HO251.out).2.1); (case side3 => repeat (first | exact (Kd.V_reads' HO_3.out).2.2 | (with_reducible refine Kd.C_alloc ?_ _) | (with_reducible refine Kd.C_drewN ?_ _) | (with_reducible refine Kd.C_drew ?_))); (case side4 => exact (Kd.V_reads' HO_3.out).2.1); rintro e w' ⟨rfl, ⟨nd, rfl⟩⟩; refine ⟨_, rfl, ?_⟩))
              go_meet
              case rel => exact ⟨_, ((t249 != t224)), (by first | rfl | (simp; done) | (simp [*]; done)), H', ⟨by have := HJ6.out; have := HJ27.out; first | omega | exact Nat.le_refl _⟩, ⟨by (with_reducible repeat (first | apply Kd.R_alloc | apply Kd.R_drewN | apply Kd.R_drew)); exact Kd.R_mono HO_7.out (fun _ hk => trivial)⟩, ⟨by repeat (first | (with_reducible first | exact HB.out | apply below_alloc | apply pw_below_drewN | apply below_drew1) | exact HB.out)⟩⟩
             ·
              rw [if_neg c59] at H
              have c59b0 : (t248 == t223) = false := beq_eq_false_iff_ne.mpr c59
              have c59b1 : (t248 != t223) = true := bne_iff_ne.mpr c59
              (first | rw [c59b0] | (simp only [i64_w, i32_w]; rw [c59b0]) | skip)
              have H' := Aside0.mk H
              clear H
              obtain ⟨Ao62, co62, eo62⟩ := Kd.R_slice HO251.out
              subst eo62
              obtain ⟨Ao63, co63, eo63⟩ := Kd.V_slice HO_3.out
              subst eo63
              go_wp2_with (first | ((with_reducible refine gate_callee (f := 7) rfl ?_); refine goesL_ (some 94) rfl rfl Try.func7 (by kernel_rfl) rfl #[.slice Ao62 t247.length co62, .slice Ao63 t220.length co63] rfl (by (try simp only [List.map_toArray, List.map_cons, List.map_nil]); first | done | rfl | (simp only [List.length_drop, List.length_take]; rfl)) ?_; (with_reducible refine (laws_eqIntS.calls kj27 _ _ t247 _ _ t220 true _ ?side1 ?side2 ?side3 ?side4 A57.out).mono ?_); (case side1 => repeat (first | exact (Kd.R_reads' HO251.out).2.2 | (with_reducible refine Kd.C_alloc ?_ _) | (with_reducible refine Kd.C_drewN ?_ _) | (with_reducible refine Kd.C_drew ?_))); (case side2 => exact (Kd.R_reads' HO251.out).2.1); (case side3 => repeat (first | exact (Kd.V_reads' HO_3.out).2.2 | (with_reducible refine Kd.C_alloc ?_ _) | (with_reducible refine Kd.C_drewN ?_ _) | (with_reducible refine Kd.C_drew ?_))); (case side4 => exact (Kd.V_reads' HO_3.out).2.1); rintro e w' ⟨rfl, ⟨nd, rfl⟩⟩; refine ⟨_, rfl, ?_⟩))
              go_meet
              case rel => exact ⟨_, (true), (by first | rfl | (simp; done) | (simp [*]; done)), H', ⟨by have := HJ6.out; have := HJ27.out; first | omega | exact Nat.le_refl _⟩, ⟨by (with_reducible repeat (first | apply Kd.R_alloc | apply Kd.R_drewN | apply Kd.R_drew)); exact Kd.R_mono HO_7.out (fun _ hk => trivial)⟩, ⟨by repeat (first | (with_reducible first | exact HB.out | apply below_alloc | apply pw_below_drewN | apply below_drew1) | exact HB.out)⟩⟩
            ·
             replace c58 := Bool.eq_false_iff.mpr c58
             subst c58
             have H1 : (laws_FnExactInOrderCode.j2 kj27 t242 t241 true) = some r := by rw [if_neg (show ¬ (false = true) by decide)] at H; exact H
             clear H
             have H := H1
             clear H1
             have H' := Aside0.mk H
             clear H
             obtain ⟨Ao64, co64, eo64⟩ := Kd.R_slice HO251.out
             subst eo64
             obtain ⟨Ao65, co65, eo65⟩ := Kd.V_slice HO_3.out
             subst eo65
             go_wp2_with (first | ((with_reducible refine gate_callee (f := 7) rfl ?_); refine goesL_ (some 94) rfl rfl Try.func7 (by kernel_rfl) rfl #[.slice Ao64 t247.length co64, .slice Ao65 t220.length co65] rfl (by (try simp only [List.map_toArray, List.map_cons, List.map_nil]); first | done | rfl | (simp only [List.length_drop, List.length_take]; rfl)) ?_; (with_reducible refine (laws_eqIntS.calls kj27 _ _ t247 _ _ t220 false _ ?side1 ?side2 ?side3 ?side4 A57.out).mono ?_); (case side1 => repeat (first | exact (Kd.R_reads' HO251.out).2.2 | (with_reducible refine Kd.C_alloc ?_ _) | (with_reducible refine Kd.C_drewN ?_ _) | (with_reducible refine Kd.C_drew ?_))); (case side2 => exact (Kd.R_reads' HO251.out).2.1); (case side3 => repeat (first | exact (Kd.V_reads' HO_3.out).2.2 | (with_reducible refine Kd.C_alloc ?_ _) | (with_reducible refine Kd.C_drewN ?_ _) | (with_reducible refine Kd.C_drew ?_))); (case side4 => exact (Kd.V_reads' HO_3.out).2.1); rintro e w' ⟨rfl, ⟨nd, rfl⟩⟩; refine ⟨_, rfl, ?_⟩))
             go_meet
             case rel => exact ⟨_, (true), (by first | rfl | (simp; done) | (simp [*]; done)), H', ⟨by have := HJ6.out; have := HJ27.out; first | omega | exact Nat.le_refl _⟩, ⟨by (with_reducible repeat (first | apply Kd.R_alloc | apply Kd.R_drewN | apply Kd.R_drew)); exact Kd.R_mono HO_7.out (fun _ hk => trivial)⟩, ⟨by repeat (first | (with_reducible first | exact HB.out | apply below_alloc | apply pw_below_drewN | apply below_drew1) | exact HB.out)⟩⟩
           case rest =>
            clear HC51
            try clear c1
            try clear c2
            try clear c2b0
            try clear c2b1
            try clear p2
            try clear c3
            try clear c4
            try clear c5
            try clear c6
            try clear c7
            try clear c8
            try clear c9
            try clear c15
            try clear c16
            try clear c16b0
            try clear c16b1
            try clear c23
            try clear c26
            try clear c32
            try clear c32b0
            try clear c34
            try clear c35
            try clear c35b0
            try clear c35b1
            try clear c42
            try clear c45
            try clear c45b0
            try clear c48
            try clear c48b0
            try clear c48b1
            try clear c58
            try clear c59
            try clear c59b0
            try clear c59b1
            try clear p2
            obtain ⟨kq, x105_50, rfl, HA, HJ50, HO_7, HB⟩ := hcut
            have hl7_50 := (Kd.R_reads' HO_7.out).1
            rw [hl7_50] at HO_7
            (try simp only [hl7_50])
            cases kq with
            | zero => exact absurd HA.out (by simp [laws_FnExactInOrderCode.j2])
            | succ kj50 =>
             have H := HA.out
             clear HA
             simp only [laws_FnExactInOrderCode.j2] at H
             by_cases c66 : x105_50 = true
             ·
              subst c66
              have H1 : (some false) = some r := by rw [if_pos rfl] at H; exact H
              clear H
              have H := H1
              clear H1
              obtain rfl := Option.some.inj H
              go_wp2
              go_ret
              exact ⟨by first | rfl | (simp [errW_none, errW_some] <;> rfl) | (simp [*, errW_none, errW_some] <;> rfl), by repeat (first | (with_reducible first | exact HB.out | apply below_alloc | apply pw_below_drewN | apply below_drew1) | exact HB.out)⟩
             ·
              replace c66 := Bool.eq_false_iff.mpr c66
              subst c66
              have H1 : ((laws_heldIntS.f kj50 t242 1).bind fun t253 => (if t253 < 0 then (some false) else (if t253 = t241 then (some true) else (some false)))) = some r := by rw [if_neg (show ¬ (false = true) by decide)] at H; exact H
              clear H
              have H := H1
              clear H1
              replace H := Option.bind_eq_some_iff.mp H
              obtain ⟨t253, A670, H⟩ := H
              replace H : (if t253 < 0 then (some false) else (if t253 = t241 then (some true) else (some false))) = some r := H
              have A67 := Aside0.mk A670
              clear A670
              by_cases c68 : t253 < 0
              ·
               rw [if_pos c68] at H
               have c68b0 : decide (t253 < 0) = true := decide_eq_true c68
               clear c68
               obtain rfl := Option.some.inj H
               go_wp2_with (first | ((with_reducible refine gate_callee (f := 9) rfl ?_); refine goesL_ (some 108) rfl rfl Try.func9 (by kernel_rfl) rfl #[.slice Ao52 t242.length co52, .int .i64 1] rfl (by (try simp only [List.map_toArray, List.map_cons, List.map_nil]); first | done | rfl | (simp only [List.length_drop, List.length_take]; rfl)) ?_; (with_reducible refine (laws_heldIntS.calls kj50 _ _ t242 1 t253 _ ?side1 ?side2 A67.out).mono ?_); (case side1 => repeat (first | exact (Kd.R_reads' HO_7.out).2.2 | (with_reducible refine Kd.C_alloc ?_ _) | (with_reducible refine Kd.C_drewN ?_ _) | (with_reducible refine Kd.C_drew ?_))); (case side2 => exact (Kd.R_reads' HO_7.out).2.1); rintro e w' ⟨rfl, ⟨nd, rfl⟩⟩; refine ⟨_, rfl, ?_⟩))
               go_ret
               exact ⟨by first | rfl | (simp [errW_none, errW_some] <;> rfl) | (simp [*, errW_none, errW_some] <;> rfl), by repeat (first | (with_reducible first | exact HB.out | apply below_alloc | apply pw_below_drewN | apply below_drew1) | exact HB.out)⟩
              ·
               rw [if_neg c68] at H
               have c68b0 : decide (t253 < 0) = false := decide_eq_false c68
               clear c68
               by_cases c69 : t253 = t241
               ·
                rw [if_pos c69] at H
                have c69b0 : (t253 == t241) = true := beq_iff_eq.mpr c69
                have c69b1 : (t253 != t241) = false := bne_eq_false_iff_eq.mpr c69
                clear c69
                obtain rfl := Option.some.inj H
                go_wp2_with (first | ((with_reducible refine gate_callee (f := 9) rfl ?_); refine goesL_ (some 108) rfl rfl Try.func9 (by kernel_rfl) rfl #[.slice Ao52 t242.length co52, .int .i64 1] rfl (by (try simp only [List.map_toArray, List.map_cons, List.map_nil]); first | done | rfl | (simp only [List.length_drop, List.length_take]; rfl)) ?_; (with_reducible refine (laws_heldIntS.calls kj50 _ _ t242 1 t253 _ ?side1 ?side2 A67.out).mono ?_); (case side1 => repeat (first | exact (Kd.R_reads' HO_7.out).2.2 | (with_reducible refine Kd.C_alloc ?_ _) | (with_reducible refine Kd.C_drewN ?_ _) | (with_reducible refine Kd.C_drew ?_))); (case side2 => exact (Kd.R_reads' HO_7.out).2.1); rintro e w' ⟨rfl, ⟨nd, rfl⟩⟩; refine ⟨_, rfl, ?_⟩))
                go_ret
                exact ⟨by first | rfl | (simp [errW_none, errW_some] <;> rfl) | (simp [*, errW_none, errW_some] <;> rfl), by repeat (first | (with_reducible first | exact HB.out | apply below_alloc | apply pw_below_drewN | apply below_drew1) | exact HB.out)⟩
               ·
                rw [if_neg c69] at H
                have c69b0 : (t253 == t241) = false := beq_eq_false_iff_ne.mpr c69
                have c69b1 : (t253 != t241) = true := bne_iff_ne.mpr c69
                obtain rfl := Option.some.inj H
                go_wp2_with (first | ((with_reducible refine gate_callee (f := 9) rfl ?_); refine goesL_ (some 108) rfl rfl Try.func9 (by kernel_rfl) rfl #[.slice Ao52 t242.length co52, .int .i64 1] rfl (by (try simp only [List.map_toArray, List.map_cons, List.map_nil]); first | done | rfl | (simp only [List.length_drop, List.length_take]; rfl)) ?_; (with_reducible refine (laws_heldIntS.calls kj50 _ _ t242 1 t253 _ ?side1 ?side2 A67.out).mono ?_); (case side1 => repeat (first | exact (Kd.R_reads' HO_7.out).2.2 | (with_reducible refine Kd.C_alloc ?_ _) | (with_reducible refine Kd.C_drewN ?_ _) | (with_reducible refine Kd.C_drew ?_))); (case side2 => exact (Kd.R_reads' HO_7.out).2.1); rintro e w' ⟨rfl, ⟨nd, rfl⟩⟩; refine ⟨_, rfl, ?_⟩))
                go_ret
                exact ⟨by first | rfl | (simp [errW_none, errW_some] <;> rfl) | (simp [*, errW_none, errW_some] <;> rfl), by repeat (first | (with_reducible first | exact HB.out | apply below_alloc | apply pw_below_drewN | apply below_drew1) | exact HB.out)⟩
          ·
           rw [if_neg c48] at H
           have c48b0 : (t243 == t241) = false := beq_eq_false_iff_ne.mpr c48
           have c48b1 : (t243 != t241) = true := bne_iff_ne.mpr c48
           obtain rfl := Option.some.inj H
           obtain ⟨Ao70, co70, eo70⟩ := Kd.R_slice HO_7.out
           subst eo70
           go_wp2_with (first | ((with_reducible refine gate_callee (f := 8) rfl ?_); refine goesL_ (some 76) rfl rfl Try.func8 (by kernel_rfl) rfl #[.slice Ao70 t228.length co70, .int .i64 1] rfl (by (try simp only [List.map_toArray, List.map_cons, List.map_nil]); first | done | rfl | (simp only [List.length_drop, List.length_take]; rfl)) ?_; (with_reducible refine (laws_markIntS.calls kj27 (fun k_ => some k_ = (.slice Ao70 t228.length co70 : Value).ownBlock) (.slice Ao70 t228.length co70) t228 1 t241 t242 w _ ?side1 ?side2 A43.out).mono ?_); (case side1 => repeat (first | (with_reducible first | exact HB.out | apply below_alloc | apply pw_below_drewN | apply below_drew1) | exact HB.out)); (case side2 => exact Kd.R_tight rfl HO_7.out); rintro e w71 ⟨rfl, hy0, hb, hkp⟩; refine ⟨_, rfl, ?_⟩; have n0_ := Aside0.mk (Kd.V_mono (ok' := fun k_ => some k_ ≠ (.slice Ao70 t228.length co70 : Value).ownBlock) (Kd.V_keptB (HO_3.out) hkp (fun k_ hk_ hs_ => (hk_) hs_)) (fun k_ hk_ => hk_.1)); have n1_ := Aside0.mk (Kd.R_reok rfl hy0 (fun k_ e_ => HO_7.out.1 k_ e_)); have n2_ := Aside0.mk (hb); clear HO_3; clear HO_7; clear HB; have HO_3 := n0_; have HO_7 := n1_; have HB := n2_; clear n0_ n1_ n2_; (try clear hb); (try clear hkp); (try clear hy0)) | ((with_reducible refine gate_callee (f := 9) rfl ?_); refine goesL_ (some 79) rfl rfl Try.func9 (by kernel_rfl) rfl #[.slice Ao70 t242.length co70, .int .i64 1] rfl (by (try simp only [List.map_toArray, List.map_cons, List.map_nil]); first | done | (rw [show t242.length = t228.length from (Kd.R_reads' HO_7.out).1.symm] <;> rfl) | rfl | (simp only [List.length_drop, List.length_take]; rfl)) ?_; (with_reducible refine (laws_heldIntS.calls kj27 _ _ t242 1 t243 _ ?side1 ?side2 A44.out).mono ?_); (case side1 => repeat (first | exact (Kd.R_reads' HO_7.out).2.2 | (with_reducible refine Kd.C_alloc ?_ _) | (with_reducible refine Kd.C_drewN ?_ _) | (with_reducible refine Kd.C_drew ?_))); (case side2 => rw [show t242.length = t228.length from (Kd.R_reads' HO_7.out).1.symm]; exact (Kd.R_reads' HO_7.out).2.1); rintro e w' ⟨rfl, ⟨nd, rfl⟩⟩; refine ⟨_, rfl, ?_⟩))
           go_ret
           exact ⟨by first | rfl | (simp [errW_none, errW_some] <;> rfl) | (simp [*, errW_none, errW_some] <;> rfl), by repeat (first | (with_reducible first | exact HB.out | apply below_alloc | apply pw_below_drewN | apply below_drew1) | exact HB.out)⟩
     ·
      replace c26 := Bool.eq_false_iff.mpr c26
      subst c26
      have H1 : (some false) = some r := by rw [if_neg (show ¬ (false = true) by decide)] at H; exact H
      clear H
      have H := H1
      clear H1
      obtain rfl := Option.some.inj H
      go_wp2_with (first | ((with_reducible refine gate_callee (f := 5) rfl ?_); refine goesL_ (some 50) rfl rfl Try.func5 (by kernel_rfl) rfl #[.slice A0 l0.length c0] rfl (by (try simp only [List.map_toArray, List.map_cons, List.map_nil]); first | done | rfl | (simp only [List.length_drop, List.length_take]; rfl)) ?_; (with_reducible refine (laws_toIntS.calls kj6 _ _ l0 t234 _ ?side1 ?side2 A24.out).mono ?_); (case side1 => repeat (first | exact (Kd.C_below HR0.out HB.out) | (with_reducible refine Kd.C_alloc ?_ _) | (with_reducible refine Kd.C_drewN ?_ _) | (with_reducible refine Kd.C_drew ?_))); (case side2 => exact HC0.out); rintro e w72 ⟨v235, rfl, ho0, hb⟩; refine ⟨_, rfl, ?_⟩; have n0_ := Aside0.mk (Kd.V_elder' (by (with_reducible repeat (first | apply Kd.V_alloc | apply Kd.V_drewN | apply Kd.V_drew)); exact HO_3.out) (Kd.R_base ho0) hb); have n1_ := Aside0.mk (Kd.R_elder' (by (with_reducible repeat (first | apply Kd.R_alloc | apply Kd.R_drewN | apply Kd.R_drew)); exact HO_6.out) (Kd.R_base ho0) hb); have n2_ := Aside0.mk (Kd.R_elder' (by (with_reducible repeat (first | apply Kd.R_alloc | apply Kd.R_drewN | apply Kd.R_drew)); exact HO_7.out) (Kd.R_base ho0) hb); have n3_ := Aside0.mk (Kd.R_lower (Kd.R_new' (Kd.R_new' ho0 (Kd.R_lt (by (with_reducible repeat (first | apply Kd.R_alloc | apply Kd.R_drewN | apply Kd.R_drew)); exact HO_6.out))) (Kd.R_lt (by (with_reducible repeat (first | apply Kd.R_alloc | apply Kd.R_drewN | apply Kd.R_drew)); exact HO_7.out))) (below_size (by repeat (first | (with_reducible first | exact HB.out | apply below_alloc | apply pw_below_drewN | apply below_drew1) | exact HB.out)))); have n4_ := Aside0.mk (below_step (by repeat (first | (with_reducible first | exact HB.out | apply below_alloc | apply pw_below_drewN | apply below_drew1) | exact HB.out)) hb); clear HO_3; clear HO_6; clear HO_7; clear HB; have HO_3 := n0_; have HO_6 := n1_; have HO_7 := n2_; have HO236 := n3_; have HB := n4_; clear n0_ n1_ n2_ n3_ n4_; (try clear hb); (try clear hb2); (try clear hk); (try clear hi); (try clear ho0); obtain ⟨Ao73, co73, eo73⟩ := Kd.R_slice HO236.out; subst eo73) | ((with_reducible refine gate_callee (f := 7) rfl ?_); refine goesL_ (some 51) rfl rfl Try.func7 (by kernel_rfl) rfl #[.slice Ao12 t225.length co12, .slice Ao73 t234.length co73] rfl (by (try simp only [List.map_toArray, List.map_cons, List.map_nil]); first | done | rfl | (simp only [List.length_drop, List.length_take]; rfl)) ?_; (with_reducible refine (laws_eqIntS.calls kj6 _ _ t225 _ _ t234 false _ ?side1 ?side2 ?side3 ?side4 A25.out).mono ?_); (case side1 => repeat (first | exact (Kd.R_reads' HO_6.out).2.2 | (with_reducible refine Kd.C_alloc ?_ _) | (with_reducible refine Kd.C_drewN ?_ _) | (with_reducible refine Kd.C_drew ?_))); (case side2 => exact (Kd.R_reads' HO_6.out).2.1); (case side3 => repeat (first | exact (Kd.R_reads' HO236.out).2.2 | (with_reducible refine Kd.C_alloc ?_ _) | (with_reducible refine Kd.C_drewN ?_ _) | (with_reducible refine Kd.C_drew ?_))); (case side4 => exact (Kd.R_reads' HO236.out).2.1); rintro e w' ⟨rfl, ⟨nd, rfl⟩⟩; refine ⟨_, rfl, ?_⟩))
      go_ret
      exact ⟨by first | rfl | (simp [errW_none, errW_some] <;> rfl) | (simp [*, errW_none, errW_some] <;> rfl), by repeat (first | (with_reducible first | exact HB.out | apply below_alloc | apply pw_below_drewN | apply below_drew1) | exact HB.out)⟩
def laws_FnExactInOrderCode.Pure : Prop := ∀ (l0 : List Int), l0.length ≤ maxLen → l0.length * 8 ≤ 140737488351232 → (∀ x ∈ l0, (Lit.int .i64 x).wf = true) → ∃ k, laws_FnExactInOrderCode.f k l0 = some true
theorem laws_FnExactInOrderCode.walk (P : laws_FnExactInOrderCode.Pure) (a0 : Option Addr) (len0 cap0 : Nat) (z0 : List Int) (w : World) (w0 : (a0 = none ∧ len0 = 0 ∧ cap0 = 0 ∧ z0 = []) ∨ ∃ x, a0 = some x ∧ len0 ≤ cap0 ∧ cap0 ≤ maxLen ∧ z0.length = cap0 ∧ (∀ i, i < z0.length → w.cell? (x.add i) = some (.int .i64 (z0.getD i 0))) ∧ ∀ n ∈ z0, (Lit.int .i64 n).wf = true) (y0 : len0 * 8 ≤ 140737488351232) :
  Calls Try.prog 3 #[.slice a0 len0 cap0] w fun e w' => e = .returned (.bool true) ∧ Below w.heap.size w w' := by
 obtain ⟨l0, rfl, hr0, hm0, hw0, hc0⟩ := ReadsInt.ofRowC w0
 obtain ⟨k, h⟩ := P l0 hm0 y0 hw0
 refine (laws_FnExactInOrderCode.calls k _ _ l0 true w (Kd.C_of_reads (d := (0 : Int)) (h1 := fun _ => rfl) hr0) hc0 h).mono ?_
 rintro e w' ⟨rfl, hd⟩
 exact ⟨rfl, hd⟩
end Go.Proofs.Ytfbohppheodpkaa.P
namespace Go.Proofs.Ytfbohppheodpkaa.M
open Go.RowKit Go.Proofs.YtfbohppheodpkaaW.PrintWords
theorem wrap64_id {x : Int} (h0 : -9223372036854775808 ≤ x) (h1 : x ≤ 9223372036854775807) : wrap64 x = x := by unfold wrap64; omega
theorem wrap64_succ (n : Nat) (h : n < 4611686018427387904) : wrap64 ((n : Int) + 1) = ((n + 1 : Nat) : Int) := by rw [wrap64_id (by omega) (by omega)]; rfl
theorem rd_nat (xs : List Int) (n : Nat) : rd xs (n : Int) = xs.getD n 0 := by simp [rd]
theorem getD_lt {α : Type} (z : α) {xs : List α} {n : Nat} (h : n < xs.length) : xs.getD n z = xs[n] := by simp [List.getD_eq_getElem?_getD, h]
theorem drop_cons_getD {α : Type} (z : α) {xs : List α} {n : Nat} (h : n < xs.length) : xs.drop n = xs.getD n z :: xs.drop (n + 1) := by
 rw [getD_lt z h]; exact List.drop_eq_getElem_cons h
theorem take_succ_getD {α : Type} (z : α) {xs : List α} {n : Nat} (h : n < xs.length) : xs.take (n + 1) = xs.take n ++ [xs.getD n z] := by
 rw [getD_lt z h, List.take_succ_eq_append_getElem h]
theorem fill_set {α : Type} (z : α) (xs : List α) (n : Nat) (h : n < xs.length) (y : α) : (xs.take n ++ List.replicate (xs.length - n) y).set n (xs.getD n z) = xs.take (n + 1) ++ List.replicate (xs.length - (n + 1)) y := by
 have hl : (xs.take n).length = n := by simp; omega
 rw [List.set_append_right _ _ (by omega), hl, Nat.sub_self, show xs.length - n = (xs.length - (n + 1)) + 1 from by omega, List.replicate_succ, List.set_cons_zero, take_succ_getD z h, List.append_assoc]
 rfl
theorem ite_eqT {α : Type} {c : Prop} [Decidable c] {a b : α} (h : c) : (if c then a else b) = a := if_pos h
theorem ite_eqF {α : Type} {c : Prop} [Decidable c] {a b : α} (h : ¬ c) : (if c then a else b) = b := if_neg h
theorem Ev.bind' {α β : Type} {g : Nat → Option α} {f : Nat → α → Option β} {a : α} {r : β} (h : Ev g a) (k : Ev (fun n => f n a) r) : Ev (fun n => (g n).bind fun t => f n t) r := Ev.bind h k
theorem Ev.pure {α : Type} {r : α} : Ev (fun _ => some r) r := Ev.now r
theorem Ev.some_bind {α β : Type} {a : α} {f : Nat → α → Option β} {r : β} (k : Ev (fun n => f n a) r) : Ev (fun n => (some a).bind fun t => f n t) r := k
theorem Ev.ifT {α : Type} {c : Prop} [Decidable c] {f g : Nat → Option α} {r : α} (h : c) (k : Ev f r) : Ev (fun n => if c then f n else g n) r := by simpa only [if_pos h] using k
theorem Ev.ifF {α : Type} {c : Prop} [Decidable c] {f g : Nat → Option α} {r : α} (h : ¬ c) (k : Ev g r) : Ev (fun n => if c then f n else g n) r := by simpa only [if_neg h] using k
end Go.Proofs.Ytfbohppheodpkaa.M
namespace Go.Proofs.Ytfbohppheodpkaa.L
open Go.RowKit Go.Proofs.Ytfbohppheodpkaa.P Go.Proofs.Ytfbohppheodpkaa.M Go.Proofs.YtfbohppheodpkaaW.PrintWords Go.Proofs.YtfbohppheodpkaaW.PrintLast Go.Proofs.YtfbohppheodpkaaW.PrintMore
set_option linter.unusedVariables false
theorem toIntS_loop (l : List Int) (hl : l.length ≤ 1048576) : ∀ (d n : Nat), n + d = l.length → Ev (fun k => laws_toIntS.l0 k l (l.take n ++ List.replicate (l.length - n) 0) (n : Int)) l := by
 intro d
 induction d with
 | zero =>
  intro n h
  refine Ev.step (fun k => laws_toIntS.l0.eq_2 ..) (Ev.ifF (by omega) ?_)
  have : l.take n ++ List.replicate (l.length - n) 0 = l := by rw [show l.length - n = 0 from by omega, List.take_of_length_le (by omega)]; simp
  rw [this]; exact Ev.now _
 | succ d ih =>
  intro n h
  have hn : n < l.length := by omega
  refine Ev.step (fun k => laws_toIntS.l0.eq_2 ..) (Ev.ifT (by omega) (Ev.ifT (by omega) (Ev.ifT (by simp; omega) ?_)))
  have := ih (n + 1) (by omega)
  rw [← fill_set 0 l n hn] at this
  simpa only [rd_nat, Int.toNat_natCast, wrap64_succ n (by omega)] using this
theorem toIntS_ev (l : List Int) (hl : l.length ≤ 1048576) : Ev (fun k => laws_toIntS.f k l) l := by
 have := toIntS_loop l hl l.length 0 (by omega)
 refine Ev.congr (fun k => by unfold laws_toIntS.f; rw [if_pos (by omega), if_pos (by simp; omega)]) ?_
 simpa using this
theorem eqIntS_loop (l m : List Int) (hl : l.length ≤ 4611686018427387903) (h : l.length = m.length) : ∀ (d n : Nat), n + d = l.length → Ev (fun k => laws_eqIntS.l0 k l m (n : Int)) (decide (l.drop n = m.drop n)) := by
 intro d
 induction d with
 | zero =>
  intro n hn
  refine Ev.step (fun k => laws_eqIntS.l0.eq_2 ..) (Ev.ifF (by omega) ?_)
  rw [List.drop_of_length_le (by omega), List.drop_of_length_le (by omega)]; simpa using Ev.now true
 | succ d ih =>
  intro n hn
  have h1 : n < l.length := by omega
  refine Ev.step (fun k => laws_eqIntS.l0.eq_2 ..) (Ev.ifT (by omega) (Ev.ifT (by omega) (Ev.ifT (by omega) ?_)))
  rw [drop_cons_getD 0 h1, drop_cons_getD 0 (show n < m.length from by omega)]
  simp only [rd_nat]
  by_cases e : l.getD n 0 = m.getD n 0
  ·
   refine Ev.ifT e ?_
   simpa only [wrap64_succ n (by omega), e, List.cons.injEq, true_and] using ih (n + 1) (by omega)
  ·
   refine Ev.ifF e ?_
   simpa only [e, List.cons.injEq, false_and, decide_false] using Ev.now false
theorem eqIntS_ev (l m : List Int) (hl : l.length ≤ 4611686018427387903) : Ev (fun k => laws_eqIntS.f k l m) (decide (l = m)) := by
 by_cases h : l.length = m.length
 ·
  refine Ev.congr (fun k => by unfold laws_eqIntS.f; rw [if_pos (by omega)]) ?_
  simpa using eqIntS_loop l m hl h l.length 0 (by omega)
 ·
  refine Ev.congr (fun k => by unfold laws_eqIntS.f; rw [if_neg (by omega)]) ?_
  have : l ≠ m := fun e => h (by rw [e])
  simpa [this] using Ev.now false
def marks (n : Nat) (l : List Int) : List Int := (List.range n).map (fun j : Nat => (j : Int) + 1) ++ l.drop n
theorem marks_length (n : Nat) (l : List Int) (h : n ≤ l.length) : (marks n l).length = l.length := by simp [marks]; omega
theorem marks_set (n : Nat) (l : List Int) (h : n < l.length) : (marks n l).set n ((n : Int) + 1) = marks (n + 1) l := by
 unfold marks
 rw [List.set_append_right _ _ (by simp), show ((List.range n).map fun j : Nat => (j : Int) + 1).length = n from by simp, Nat.sub_self, drop_cons_getD 0 h, List.set_cons_zero, List.range_succ, List.map_append, List.append_assoc]
 rfl
theorem markIntS_loop (l : List Int) (hl : l.length ≤ 4611686018427387900) : ∀ (d n : Nat), n + d = l.length → Ev (fun k => laws_markIntS.l0 k (marks n l) ((n : Int) + 1) (n : Int)) ((l.length : Int) + 1, marks l.length l) := by
 intro d
 induction d with
 | zero =>
  intro n hn
  refine Ev.step (fun k => laws_markIntS.l0.eq_2 ..) (Ev.ifF (by rw [marks_length n l (by omega)]; omega) ?_)
  rw [show n = l.length from by omega]; exact Ev.now _
 | succ d ih =>
  intro n hn
  refine Ev.step (fun k => laws_markIntS.l0.eq_2 ..) (Ev.ifT (by rw [marks_length n l (by omega)]; omega) (Ev.ifT (by omega) ?_))
  have := ih (n + 1) (by omega)
  rw [← marks_set n l (by omega)] at this
  rw [show wrap64 ((n : Int) + 1 + 1) = ((n + 1 : Nat) : Int) + 1 from by rw [wrap64_id (by omega) (by omega)]; omega]
  simpa only [Int.toNat_natCast, wrap64_succ n (by omega)] using this
theorem markIntS_ev (l : List Int) (hl : l.length ≤ 4611686018427387900) : Ev (fun k => laws_markIntS.f k l 1) ((l.length : Int) + 1, marks l.length l) := by
 have := markIntS_loop l hl l.length 0 (by omega)
 simpa [laws_markIntS.f, marks] using this
theorem marks_getD (n : Nat) (l : List Int) (j : Nat) (h : j < n) : (marks n l).getD j 0 = (j : Int) + 1 := by
 simp [marks, List.getD_eq_getElem?_getD, List.getElem?_append, h]
theorem heldIntS_loop (l : List Int) (hl : l.length ≤ 4611686018427387900) : ∀ (d n : Nat), n + d = l.length → Ev (fun k => laws_heldIntS.l0 k (marks l.length l) ((n : Int) + 1) (n : Int)) ((l.length : Int) + 1) := by
 intro d
 induction d with
 | zero =>
  intro n hn
  refine Ev.step (fun k => laws_heldIntS.l0.eq_2 ..) (Ev.ifF (by rw [marks_length _ l (by omega)]; omega) ?_)
  rw [show n = l.length from by omega]; exact Ev.now _
 | succ d ih =>
  intro n hn
  refine Ev.step (fun k => laws_heldIntS.l0.eq_2 ..) (Ev.ifT (by rw [marks_length _ l (by omega)]; omega) (Ev.ifT (by omega) (Ev.ifT (by rw [rd_nat, marks_getD _ _ _ (by omega)]) ?_)))
  rw [show wrap64 ((n : Int) + 1 + 1) = ((n + 1 : Nat) : Int) + 1 from by rw [wrap64_id (by omega) (by omega)]; omega]
  simpa only [wrap64_succ n (by omega)] using ih (n + 1) (by omega)
theorem heldIntS_ev (l : List Int) (hl : l.length ≤ 4611686018427387900) : Ev (fun k => laws_heldIntS.f k (marks l.length l) 1) ((l.length : Int) + 1) := by
 simpa [laws_heldIntS.f] using heldIntS_loop l hl l.length 0 (by omega)
def goodN (a : Int) (x : Int) : Bool := decide (1 ≤ x) && decide (x ≤ a)
theorem l1In_eq (a b c : Int) : spec_l1In.f a b c = some (decide (b ≤ a) && decide (a ≤ c)) := by
 unfold spec_l1In.f
 by_cases h : b ≤ a
 ·
  rw [if_pos (by omega)]; simp [h]
 ·
  rw [if_neg (by omega)]; simp [h]
def lenOk (l : List Int) : Bool := decide (1 ≤ l.length ∧ l.length ≤ 12)
theorem l10Numbers_loop (l : List Int) (a : Int) (hl : l.length ≤ 4611686018427387903) : ∀ (d n : Nat), n + d = l.length → Ev (fun k => spec_l10Numbers.l0 k l a (n : Int)) ((l.drop n).all (goodN a) && lenOk l) := by
 have last : ∀ n : Nat, Ev (fun k => spec_l10Numbers.j1 k l a (n : Int) false) (lenOk l) := by
  intro n
  refine Ev.step (fun k => spec_l10Numbers.j1.eq_2 ..) (Ev.ifF (by simp) ?_)
  simp only [l1In_eq]
  refine Ev.some_bind ?_
  have : (decide (1 ≤ (l.length : Int)) && decide ((l.length : Int) ≤ 12)) = lenOk l := by simp only [lenOk, Bool.decide_and]; congr 1 <;> simp <;> omega
  rw [this]; exact Ev.now _
 intro d
 induction d with
 | zero =>
  intro n hn
  refine Ev.step (fun k => spec_l10Numbers.l0.eq_2 ..) (Ev.ifF (by omega) ?_)
  rw [List.drop_of_length_le (by omega)]; simpa using last n
 | succ d ih =>
  intro n hn
  have h1 : n < l.length := by omega
  refine Ev.step (fun k => spec_l10Numbers.l0.eq_2 ..) (Ev.ifT (by omega) ?_)
  rw [drop_cons_getD 0 h1]
  by_cases h12 : n ≤ 12
  ·
   rw [show decide ((n : Int) ≤ 12) = true from by simp; omega]
   refine Ev.step (fun k => spec_l10Numbers.j1.eq_2 ..) (Ev.ifT rfl (Ev.ifT (by omega) (Ev.ifT (by omega) ?_)))
   simp only [l1In_eq, rd_nat]
   refine Ev.some_bind ?_
   by_cases hg : goodN a (l.getD n 0) = true
   ·
    refine Ev.ifT hg ?_
    simpa only [wrap64_succ n (by omega), List.all_cons, hg, Bool.true_and] using ih (n + 1) (by omega)
   ·
    refine Ev.ifF hg ?_
    simpa only [List.all_cons, show goodN a (l.getD n 0) = false from by simpa using hg, Bool.false_and] using Ev.now false
  ·
   rw [show decide ((n : Int) ≤ 12) = false from by simp; omega]
   have : ((l.getD n 0 :: l.drop (n + 1)).all (goodN a) && lenOk l) = lenOk l := by
    have : lenOk l = false := by simp [lenOk]; omega
    rw [this]; simp
   rw [this]; exact last n
theorem l10Numbers_ev (l : List Int) (a : Int) (hl : l.length ≤ 4611686018427387903) : Ev (fun k => spec_l10Numbers.f k l a) (l.all (goodN a) && lenOk l) := by
 simpa [spec_l10Numbers.f] using l10Numbers_loop l a hl l.length 0 (by omega)
theorem areIn_eq (l : List Int) (a : Int) : impl_areIn.f l a = some (l.all (goodN a) && lenOk l) := by
 unfold impl_areIn.f
 rw [Bool.and_comm]
 congr 2
 rw [List.any_eq_not_all_not, Bool.not_not]
 congr 1
 funext x
 simp [impl_areIn.p, goodN]
def fillM (acc : Int) : List Int → Int
 | [] => acc
 | x :: r => fillM (wrap64 (acc + shl .i64 1 (wrap64 (14 - x)))) r
theorem good_sub {x : Int} (h : goodN 14 x = true) : 0 ≤ wrap64 (14 - x) := by
 simp [goodN] at h
 rw [wrap64_id (by omega) (by omega)]; omega
end Go.Proofs.Ytfbohppheodpkaa.L
namespace Go.Proofs.Ytfbohppheodpkaa.M
open Go.RowKit Go.Proofs.YtfbohppheodpkaaW.PrintWords
namespace Shp
def upL (l : List Int) : List Int := l.map (· + 1)
def joinT (A C : List (List Int)) : List (List Int) := A.flatMap fun a => C.map fun b => upL (a ++ b)
def T : Nat → Nat → List (List Int)
 | 0, _ => []
 | f + 1, n => if n = 1 then [[0]] else (List.range' 1 (n - 1)).flatMap fun m => joinT (T f m) (T f (n - m))
def S : Nat → Nat → Int → List (List Int)
 | 0, _, _ => []
 | f + 1, n, d => if n = 1 then [[d]] else (List.range' 1 (n - 1)).flatMap fun m => (S f m (d + 1)).flatMap fun a => (S f (n - m) (d + 1)).map fun b => a ++ b
theorem S_eq : ∀ (f n : Nat) (d : Int), S f n d = (T f n).map fun x => x.map (· + d)
 | 0, _, _ => rfl
 | f + 1, n, d => by
  unfold S T
  by_cases h : n = 1
  ·
   rw [if_pos h, if_pos h]; simp
  ·
   rw [if_neg h, if_neg h, List.map_flatMap]
   congr 1
   funext m
   rw [S_eq f m, S_eq f (n - m)]
   unfold joinT
   rw [List.flatMap_map, List.map_flatMap]
   congr 1
   funext a
   rw [List.map_map, List.map_map]
   congr 1
   funext b
   simp only [Function.comp, upL, List.map_append, List.map_map]
   congr 1 <;> (congr 1; funext y; simp only [Function.comp]; omega)
theorem S_zero (f n : Nat) : S f n 0 = T f n := by
 rw [S_eq]
 simp
theorem flat_le {α β : Type} (f : α → List β) (c : Nat) : ∀ l : List α, (∀ x ∈ l, (f x).length ≤ c) → (l.flatMap f).length ≤ c * l.length
 | [], _ => by simp
 | x :: l, h => by
  have h1 := h x (by simp)
  have h2 := flat_le f c l fun y hy => h y (List.mem_cons_of_mem _ hy)
  rw [List.flatMap_cons, List.length_append, List.length_cons, Nat.mul_succ]; omega
theorem joinT_length (A C : List (List Int)) : (joinT A C).length = A.length * C.length := by
 unfold joinT
 induction A with
 | nil => simp
 | cons a r ih => rw [List.flatMap_cons, List.length_append, ih, List.length_map, List.length_cons, Nat.succ_mul, Nat.add_comm]
theorem T_good : ∀ (f n : Nat), 1 ≤ n → n ≤ f → ∀ x ∈ T f n, x.length = n ∧ ∀ y ∈ x, 0 ≤ y ∧ y < (n : Int)
 | 0, _, h, h', _, _ => by omega
 | f + 1, n, h1, hf, x, hx => by
  unfold T at hx
  by_cases h : n = 1
  ·
   rw [if_pos h] at hx
   obtain rfl := List.mem_singleton.1 hx
   subst h
   simp
  ·
   rw [if_neg h] at hx
   obtain ⟨m, hm, hx⟩ := List.mem_flatMap.1 hx
   rw [List.mem_range'_1] at hm
   unfold joinT at hx
   obtain ⟨a, ha, hx⟩ := List.mem_flatMap.1 hx
   obtain ⟨b, hb, rfl⟩ := List.mem_map.1 hx
   obtain ⟨la, ga⟩ := T_good f m (by omega) (by omega) a ha
   obtain ⟨lb, gb⟩ := T_good f (n - m) (by omega) (by omega) b hb
   refine ⟨by rw [upL, List.length_map, List.length_append]; omega, fun y hy => ?_⟩
   rw [upL] at hy
   obtain ⟨z, hz, rfl⟩ := List.mem_map.1 hy
   rcases List.mem_append.1 hz with hz | hz
   ·
    have := ga z hz; omega
   ·
    have := gb z hz; omega
theorem T_le : ∀ (f n : Nat), 1 ≤ n → n ≤ 8 → n ≤ f → (T f n).length ≤ 8 ^ (n - 1)
 | 0, _, h, _, h' => by omega
 | f + 1, n, h1, h8, hf => by
  unfold T
  by_cases h : n = 1
  ·
   rw [if_pos h]; subst h; simp
  ·
   rw [if_neg h]
   refine Nat.le_trans (flat_le _ (8 ^ (n - 2)) _ fun m hm => ?_) ?_
   ·
    rw [List.mem_range'_1] at hm
    rw [joinT_length]
    have e1 := T_le f m (by omega) (by omega) (by omega)
    have e2 := T_le f (n - m) (by omega) (by omega) (by omega)
    have e3 := Nat.mul_le_mul e1 e2
    rw [← Nat.pow_add, show m - 1 + (n - m - 1) = n - 2 from by omega] at e3
    exact e3
   ·
    rw [List.length_range', show n - 1 = n - 2 + 1 from by omega, Nat.pow_succ]
    exact Nat.mul_le_mul_left _ (by omega)
theorem T_big (f n : Nat) (h1 : 1 ≤ n) (h8 : n ≤ 8) (hf : n ≤ f) : (T f n).length ≤ 2097152 := by
 have h := T_le f n h1 h8 hf
 have e : (8 : Nat) ^ (n - 1) ≤ 8 ^ 7 := Nat.pow_le_pow_right (by omega) (by omega)
 have e2 : (8 : Nat) ^ 7 = 2097152 := by decide
 omega
theorem T_pos : ∀ (f n : Nat), 1 ≤ n → n ≤ f → 0 < (T f n).length
 | 0, _, h, h' => by omega
 | f + 1, n, h1, hf => by
  unfold T
  by_cases h : n = 1
  ·
   rw [if_pos h]; simp
  ·
   rw [if_neg h, show n - 1 = n - 2 + 1 from by omega, List.range'_succ, List.flatMap_cons, List.length_append, joinT_length]
   have e1 := T_pos f 1 (by omega) (by omega)
   have e2 := T_pos f (n - 1) (by omega) (by omega)
   have e3 := Nat.mul_pos e1 e2
   omega
def costM (acc : Int) : List Int → List Int → Int
 | x :: xs, w :: ws => costM (wrap64 (acc + wrap64 (x * w))) xs ws
 | _, _ => acc
theorem costM_pos : ∀ (xs ws : List Int) (acc : Int), (∀ y ∈ xs, 0 ≤ y ∧ y ≤ 1000) → (∀ y ∈ ws, 0 ≤ y ∧ y ≤ 1000) → 0 ≤ acc → acc + 1000000 * (xs.length : Int) ≤ 1000000000000 → 0 ≤ costM acc xs ws
 | [], ws, acc, _, _, h, _ => by unfold costM; exact h
 | x :: xs, [], acc, _, _, h, _ => by unfold costM; exact h
 | x :: xs, w :: ws, acc, hx, hw, h, hb => by
  unfold costM
  have h1 := hx x (by simp)
  have h2 := hw w (by simp)
  have e1 : 0 ≤ x * w := Int.mul_nonneg h1.1 h2.1
  have e2 : x * w ≤ 1000 * 1000 := Int.mul_le_mul h1.2 h2.2 h2.1 (by omega)
  rw [List.length_cons] at hb
  rw [wrap64_id (x := x * w) (by omega) (by omega), wrap64_id (by omega) (by omega)]
  exact costM_pos xs ws _ (fun y hy => hx y (List.mem_cons_of_mem _ hy)) (fun y hy => hw y (List.mem_cons_of_mem _ hy)) (by omega) (by omega)
def soonM : List Int → List Int → Bool
 | x :: xs, y :: ys => if x = y then soonM xs ys else decide (x < y)
 | _, _ => false
def cmpM : List Int → List Int → Int
 | x :: xs, y :: ys => if x = y then cmpM xs ys else if x < y then -1 else 1
 | _, _ => 0
theorem cmp_soon : ∀ xs ys : List Int, cmpM xs ys < 0 ↔ soonM xs ys = true
 | [], ys => by unfold cmpM soonM; simp
 | x :: xs, [] => by unfold cmpM soonM; simp
 | x :: xs, y :: ys => by
  unfold cmpM soonM
  by_cases h : x = y
  ·
   rw [if_pos h, if_pos h]; exact cmp_soon xs ys
  ·
   rw [if_neg h, if_neg h]
   by_cases h2 : x < y
   ·
    rw [if_pos h2]; simp [h2]
   ·
    rw [if_neg h2]; simp [h2]
def pickM (w : List Int) : List Int → List (List Int) → List Int
 | b, [] => b
 | b, x :: r => if costM 0 x w < costM 0 b w then pickM w x r else if costM 0 x w = costM 0 b w then (if soonM x b = true then pickM w x r else pickM w b r) else pickM w b r
theorem pick_mem (w : List Int) : ∀ (r : List (List Int)) (b : List Int), pickM w b r = b ∨ pickM w b r ∈ r
 | [], b => .inl rfl
 | x :: r, b => by
  have h1 : pickM w x r = b ∨ pickM w x r ∈ x :: r := by
   rcases pick_mem w r x with h | h
   ·
    exact .inr (by rw [h]; simp)
   ·
    exact .inr (List.mem_cons_of_mem _ h)
  have h2 : pickM w b r = b ∨ pickM w b r ∈ x :: r := by
   rcases pick_mem w r b with h | h
   ·
    exact .inl h
   ·
    exact .inr (List.mem_cons_of_mem _ h)
  unfold pickM
  split
  ·
   exact h1
  ·
   split
   ·
    split
    ·
     exact h1
    ·
     exact h2
   ·
    exact h2
end Shp
end Go.Proofs.Ytfbohppheodpkaa.M
namespace Go.Proofs.Ytfbohppheodpkaa.L
open Go.RowKit Go.Proofs.Ytfbohppheodpkaa.P Go.Proofs.Ytfbohppheodpkaa.M Go.Proofs.YtfbohppheodpkaaW.PrintWords Go.Proofs.YtfbohppheodpkaaW.PrintLast Go.Proofs.YtfbohppheodpkaaW.PrintMore
set_option linter.unusedVariables false
open Shp
theorem rdL_nat (xs : List (List Int)) (n : Nat) : rd_L1 xs (n : Int) = xs.getD n [] := by unfold rd_L1; rw [Int.toNat_natCast]
theorem getD_in {α : Type} (z : α) {xs : List α} {n : Nat} (h : n < xs.length) : xs.getD n z ∈ xs := by rw [getD_lt z h]; exact List.getElem_mem _
def OkI (l : List Int) : Prop := 0 < l.length ∧ l.length ≤ 1000 ∧ ∀ y ∈ l, 0 ≤ y ∧ y ≤ 1000
theorem T_ok {f n : Nat} (h1 : 1 ≤ n) (h8 : n ≤ 8) (hf : n ≤ f) {x : List Int} (hx : x ∈ T f n) : OkI x := by
 obtain ⟨e, h⟩ := T_good f n h1 hf x hx
 exact ⟨by omega, by omega, fun y hy => by have := h y hy; omega⟩
theorem trees_l4 {x0 x4 : Int} {x3 A C : List (List Int)} {i m : Nat} {b : List Int} {r : List (List Int)} (hi : m < C.length) (hb : C.getD m [] = b) (ho : OkI b) (h3 : x3.length ≤ 1000000000000) :
  ∀ (d j : Nat) (x9 : List Int), j + d = b.length → x9.length + d ≤ 10000 → Ev (fun k => spec_l10Trees.l2 k x0 (x3 ++ [x9 ++ upL (b.drop j)]) x4 A C (i : Int) (wrap64 ((m : Int) + 1))) r → Ev (fun k => spec_l10Trees.l4 k x0 x3 x4 A C (i : Int) (m : Int) x9 (j : Int)) r := by
 intro d
 induction d with
 | zero =>
  intro j x9 hj _ h
  rw [List.drop_of_length_le (by omega)] at h
  simp only [upL, List.map_nil, List.append_nil] at h
  refine Ev.step (fun k => spec_l10Trees.l4.eq_2 ..) (Ev.ifT (by omega) (Ev.ifT (by omega) ?_))
  simp only [rdL_nat, hb]
  exact Ev.ifF (by omega) (Ev.ifT (by omega) h)
 | succ d ih =>
  intro j x9 hj h9 h
  have h1 : j < b.length := by omega
  have h2 := ho.2.2 _ (getD_in 0 h1)
  have hl := ho.2.1
  refine Ev.step (fun k => spec_l10Trees.l4.eq_2 ..) (Ev.ifT (by omega) (Ev.ifT (by omega) ?_))
  simp only [rdL_nat, hb, rd_nat, wrap64_succ j (by omega), wrap64_id (x := b.getD j 0 + 1) (by omega) (by omega)]
  refine Ev.ifT (by omega) (Ev.ifT (by omega) (Ev.ifT (by omega) (ih (j + 1) _ (by omega) (by rw [List.length_append, List.length_singleton]; omega) ?_)))
  rw [drop_cons_getD 0 h1] at h
  simpa only [upL, List.map_cons, List.append_assoc, List.singleton_append] using h
theorem trees_l3 {x0 x4 : Int} {x3 A C : List (List Int)} {i m : Nat} {a : List Int} {r : List (List Int)} (hi : i < A.length) (ha : A.getD i [] = a) (ho : OkI a) :
  ∀ (d j : Nat) (x9 : List Int), j + d = a.length → x9.length + d ≤ 10000 → Ev (fun k => spec_l10Trees.l4 k x0 x3 x4 A C (i : Int) (m : Int) (x9 ++ upL (a.drop j)) 0) r → Ev (fun k => spec_l10Trees.l3 k x0 x3 x4 A C (i : Int) (m : Int) x9 (j : Int)) r := by
 intro d
 induction d with
 | zero =>
  intro j x9 hj _ h
  rw [List.drop_of_length_le (by omega)] at h
  simp only [upL, List.map_nil, List.append_nil] at h
  refine Ev.step (fun k => spec_l10Trees.l3.eq_2 ..) (Ev.ifT (by omega) (Ev.ifT (by omega) ?_))
  simp only [rdL_nat, ha]
  exact Ev.ifF (by omega) h
 | succ d ih =>
  intro j x9 hj h9 h
  have h1 : j < a.length := by omega
  have h2 := ho.2.2 _ (getD_in 0 h1)
  have hl := ho.2.1
  refine Ev.step (fun k => spec_l10Trees.l3.eq_2 ..) (Ev.ifT (by omega) (Ev.ifT (by omega) ?_))
  simp only [rdL_nat, ha, rd_nat, wrap64_succ j (by omega), wrap64_id (x := a.getD j 0 + 1) (by omega) (by omega)]
  refine Ev.ifT (by omega) (Ev.ifT (by omega) (Ev.ifT (by omega) (ih (j + 1) _ (by omega) (by rw [List.length_append, List.length_singleton]; omega) ?_)))
  rw [drop_cons_getD 0 h1] at h
  simpa only [upL, List.map_cons, List.append_assoc, List.singleton_append] using h
theorem trees_l2 {x0 x4 : Int} {A C : List (List Int)} {i : Nat} {a : List Int} {r : List (List Int)} (hi : i < A.length) (ha : A.getD i [] = a) (ho : OkI a) (hC : ∀ b ∈ C, OkI b) (hl : C.length ≤ 1000000000000) :
  ∀ (d m : Nat) (x3 : List (List Int)), m + d = C.length → x3.length + d ≤ 1000000000000 → Ev (fun k => spec_l10Trees.l1 k x0 (x3 ++ (C.drop m).map fun b => upL (a ++ b)) x4 A C (wrap64 ((i : Int) + 1))) r → Ev (fun k => spec_l10Trees.l2 k x0 x3 x4 A C (i : Int) (m : Int)) r := by
 intro d
 induction d with
 | zero =>
  intro m x3 hm _ h
  rw [List.drop_of_length_le (by omega)] at h
  simp only [List.map_nil, List.append_nil] at h
  exact Ev.step (fun k => spec_l10Trees.l2.eq_2 ..) (Ev.ifF (by omega) h)
 | succ d ih =>
  intro m x3 hm h3 h
  have h1 : m < C.length := by omega
  obtain ⟨b, hbb⟩ : ∃ b, C.getD m [] = b := ⟨_, rfl⟩
  have hb := hbb ▸ hC _ (getD_in [] h1)
  have l1 := ho.2.1
  have l2 := hb.2.1
  refine Ev.step (fun k => spec_l10Trees.l2.eq_2 ..) (Ev.ifT (by omega) ?_)
  refine trees_l3 hi ha ho a.length 0 [] (by omega) (by simp; omega) ?_
  refine trees_l4 h1 hbb hb (by omega) b.length 0 _ (by omega) (by simp only [List.nil_append, upL, List.length_map, List.drop_zero]; omega) ?_
  rw [wrap64_succ m (by omega)]
  refine ih (m + 1) _ (by omega) (by rw [List.length_append, List.length_singleton]; omega) ?_
  rw [drop_cons_getD [] h1, hbb] at h
  simpa only [upL, List.map_cons, List.map_append, List.append_assoc, List.singleton_append, List.drop_zero, List.nil_append] using h
theorem trees_l1 {x0 x4 : Int} {A C : List (List Int)} {r : List (List Int)} (hA : ∀ a ∈ A, OkI a) (hC : ∀ b ∈ C, OkI b) (hl : C.length ≤ 1000000000) (hm : A.length ≤ 1000000000) :
  ∀ (d i : Nat) (x3 : List (List Int)), i + d = A.length → x3.length + d * C.length ≤ 1000000000000 → Ev (fun k => spec_l10Trees.l0 k x0 (x3 ++ joinT (A.drop i) C) (wrap64 (x4 + 1))) r → Ev (fun k => spec_l10Trees.l1 k x0 x3 x4 A C (i : Int)) r := by
 intro d
 induction d with
 | zero =>
  intro i x3 hi _ h
  rw [List.drop_of_length_le (by omega)] at h
  simp only [joinT, List.flatMap_nil, List.append_nil] at h
  exact Ev.step (fun k => spec_l10Trees.l1.eq_2 ..) (Ev.ifF (by omega) h)
 | succ d ih =>
  intro i x3 hi h3 h
  have h1 : i < A.length := by omega
  rw [Nat.succ_mul] at h3
  refine Ev.step (fun k => spec_l10Trees.l1.eq_2 ..) (Ev.ifT (by omega) ?_)
  refine trees_l2 h1 rfl (hA _ (getD_in [] h1)) hC (by omega) C.length 0 x3 (by omega) (by omega) ?_
  rw [wrap64_succ i (by omega)]
  refine ih (i + 1) _ (by omega) (by rw [List.length_append, List.length_map, List.length_drop]; omega) ?_
  rw [drop_cons_getD [] h1] at h
  simpa only [joinT, List.flatMap_cons, List.append_assoc, List.drop_zero] using h
def restT (f n s d : Nat) : List (List Int) := (List.range' s d).flatMap fun m => joinT (T f m) (T f (n - m))
theorem trees_l0 {f n : Nat} (h8 : n ≤ 8) (hf : n ≤ f + 1) (hk : ∀ m, 1 ≤ m → m < n → Ev (fun k => spec_l10Trees.f k (m : Int)) (T f m)) :
  ∀ (d s : Nat) (x3 : List (List Int)), s + d = n → 1 ≤ s → x3.length + (restT f n s d).length ≤ 1000000000000 → Ev (fun k => spec_l10Trees.l0 k (n : Int) x3 (s : Int)) (x3 ++ restT f n s d) := by
 intro d
 induction d with
 | zero =>
  intro s x3 hs _ _
  refine Ev.step (fun k => spec_l10Trees.l0.eq_2 ..) (Ev.ifF (by omega) ?_)
  simp only [restT, List.range'_zero, List.flatMap_nil, List.append_nil]
  exact Ev.now _
 | succ d ih =>
  intro s x3 hs h1 h3
  have e : restT f n s (d + 1) = joinT (T f s) (T f (n - s)) ++ restT f n (s + 1) d := by unfold restT; rw [List.range'_succ, List.flatMap_cons]
  rw [e, List.length_append] at h3
  rw [e]
  have j1 := joinT_length (T f s) (T f (n - s))
  have e1 := hk s h1 (by omega)
  have e2 := hk (n - s) (by omega) (by omega)
  have w1 : wrap64 ((n : Int) - (s : Int)) = ((n - s : Nat) : Int) := by rw [wrap64_id (by omega) (by omega)]; omega
  refine Ev.step (fun k => spec_l10Trees.l0.eq_2 ..) (Ev.ifT (by omega) ?_)
  simp only [w1]
  refine Ev.bind e1 (Ev.bind e2 ?_)
  have b1 := T_big f s h1 (by omega) (by omega)
  have b2 := T_big f (n - s) (by omega) (by omega) (by omega)
  refine trees_l1 (fun a ha => T_ok h1 (by omega) (by omega) ha) (fun b hb => T_ok (by omega) (by omega) (by omega) hb) (by omega) (by omega) (T f s).length 0 x3 (by omega) (by omega) ?_
  rw [wrap64_succ s (by omega), List.drop_zero, ← List.append_assoc]
  exact ih (s + 1) _ (by omega) (by omega) (by rw [List.length_append]; omega)
theorem trees_ev : ∀ (f n : Nat), 1 ≤ n → n ≤ 8 → n ≤ f → Ev (fun k => spec_l10Trees.f k (n : Int)) (T f n)
 | 0, _, h, _, h' => by omega
 | f + 1, n, h1, h8, hf => by
  have hb := T_big (f + 1) n h1 h8 hf
  by_cases h : n = 1
  ·
   subst h
   exact Ev.step (fun k => spec_l10Trees.f.eq_2 ..) (Ev.ifT rfl (Ev.now _))
  ·
   have e : T (f + 1) n = restT f n 1 (n - 1) := by rw [T.eq_2, if_neg h]; rfl
   refine Ev.step (fun k => spec_l10Trees.f.eq_2 ..) (Ev.ifF (by omega) ?_)
   rw [e] at hb ⊢
   have := trees_l0 (f := f) h8 hf (fun m a b => trees_ev f m a (by omega) (by omega)) (n - 1) 1 [] (by omega) (by omega) (by simp; omega)
   simpa using this
theorem cat_eq {a b : List Int} (ha : 0 < a.length ∧ a.length ≤ 1000) (hb : 0 < b.length ∧ b.length ≤ 1000) : slices_Concat2.f a b = some (a ++ b) := by
 unfold slices_Concat2.f
 rw [if_pos ⟨ha.1, hb.1, ha.2, hb.2⟩]
def LnI (l : List Int) : Prop := 0 < l.length ∧ l.length ≤ 1000
theorem S_len {f n : Nat} {d : Int} (h1 : 1 ≤ n) (h8 : n ≤ 8) (hf : n ≤ f) {x : List Int} (hx : x ∈ S f n d) : LnI x := by
 rw [S_eq] at hx
 obtain ⟨y, hy, rfl⟩ := List.mem_map.1 hx
 have e := (T_good f n h1 hf y hy).1
 unfold LnI
 rw [List.length_map]; omega
theorem S_length (f n : Nat) (d : Int) : (S f n d).length = (T f n).length := by rw [S_eq, List.length_map]
theorem shapes_l2 {x0 x1 x6 : Int} {A C : List (List Int)} {i : Nat} {a : List Int} {r : List (List Int)} (ho : LnI a) (hC : ∀ b ∈ C, LnI b) (hl : C.length ≤ 1000000000000) :
  ∀ (d m : Nat) (x5 : List (List Int)), m + d = C.length → x5.length + d ≤ 1000000000000 → Ev (fun k => impl_shapes.l1 k x0 x1 (x5 ++ (C.drop m).map fun b => a ++ b) x6 A (A.length : Int) (wrap64 ((i : Int) + 1))) r → Ev (fun k => impl_shapes.l2 k x0 x1 x5 x6 a A (A.length : Int) (i : Int) C (C.length : Int) (m : Int)) r := by
 intro d
 induction d with
 | zero =>
  intro m x5 hm _ h
  rw [List.drop_of_length_le (by omega)] at h
  simp only [List.map_nil, List.append_nil] at h
  exact Ev.step (fun k => impl_shapes.l2.eq_2 ..) (Ev.ifF (by omega) h)
 | succ d ih =>
  intro m x5 hm h3 h
  have h1 : m < C.length := by omega
  refine Ev.step (fun k => impl_shapes.l2.eq_2 ..) (Ev.ifT (by omega) (Ev.ifT (by omega) (Ev.ifT (by omega) ?_)))
  simp only [rdL_nat, cat_eq ho (hC _ (getD_in [] h1)), wrap64_succ m (by omega)]
  refine Ev.some_bind (Ev.ifT (by omega) (ih (m + 1) _ (by omega) (by rw [List.length_append, List.length_singleton]; omega) ?_))
  rw [drop_cons_getD [] h1] at h
  simpa only [List.map_cons, List.append_assoc, List.singleton_append] using h
theorem shapes_l1 {x0 x1 x6 : Int} {A C : List (List Int)} {r : List (List Int)} (hk : Ev (fun k => impl_shapes.f k (wrap64 (x0 - x6)) (wrap64 (x1 + 1))) C) (hA : ∀ a ∈ A, LnI a) (hC : ∀ b ∈ C, LnI b) (hl : C.length ≤ 1000000000) (hm : A.length ≤ 1000000000) :
  ∀ (d i : Nat) (x5 : List (List Int)), i + d = A.length → x5.length + d * C.length ≤ 1000000000000 → Ev (fun k => impl_shapes.l0 k x0 x1 (x5 ++ (A.drop i).flatMap fun a => C.map fun b => a ++ b) (wrap64 (x6 + 1))) r → Ev (fun k => impl_shapes.l1 k x0 x1 x5 x6 A (A.length : Int) (i : Int)) r := by
 intro d
 induction d with
 | zero =>
  intro i x5 hi _ h
  rw [List.drop_of_length_le (by omega)] at h
  simp only [List.flatMap_nil, List.append_nil] at h
  exact Ev.step (fun k => impl_shapes.l1.eq_2 ..) (Ev.ifF (by omega) h)
 | succ d ih =>
  intro i x5 hi h3 h
  have h1 : i < A.length := by omega
  rw [Nat.succ_mul] at h3
  refine Ev.step (fun k => impl_shapes.l1.eq_2 ..) (Ev.ifT (by omega) (Ev.ifT (by omega) (Ev.ifT (by omega) (Ev.bind hk ?_))))
  simp only [rdL_nat]
  refine shapes_l2 (hA _ (getD_in [] h1)) hC (by omega) C.length 0 x5 (by omega) (by omega) ?_
  rw [wrap64_succ i (by omega)]
  refine ih (i + 1) _ (by omega) (by rw [List.length_append, List.length_map, List.length_drop]; omega) ?_
  rw [drop_cons_getD [] h1] at h
  simpa only [List.flatMap_cons, List.append_assoc, List.drop_zero] using h
def restS (f n : Nat) (e : Int) (s d : Nat) : List (List Int) := (List.range' s d).flatMap fun m => (S f m (e + 1)).flatMap fun a => (S f (n - m) (e + 1)).map fun b => a ++ b
theorem catS_length (A C : List (List Int)) : (A.flatMap fun a => C.map fun b => a ++ b).length = A.length * C.length := by
 induction A with
 | nil => simp
 | cons a r ih => rw [List.flatMap_cons, List.length_append, ih, List.length_map, List.length_cons, Nat.succ_mul, Nat.add_comm]
theorem shapes_l0 {f n : Nat} {e : Int} (h0 : 0 ≤ e) (he : e ≤ 1000) (h8 : n ≤ 8) (hf : n ≤ f + 1) (hk : ∀ m, 1 ≤ m → m < n → Ev (fun k => impl_shapes.f k (m : Int) (e + 1)) (S f m (e + 1))) :
  ∀ (d s : Nat) (x5 : List (List Int)), s + d = n → 1 ≤ s → x5.length + (restS f n e s d).length ≤ 1000000000000 → Ev (fun k => impl_shapes.l0 k (n : Int) e x5 (s : Int)) (x5 ++ restS f n e s d) := by
 intro d
 induction d with
 | zero =>
  intro s x5 hs _ _
  refine Ev.step (fun k => impl_shapes.l0.eq_2 ..) (Ev.ifF (by omega) ?_)
  simp only [restS, List.range'_zero, List.flatMap_nil, List.append_nil]
  exact Ev.now _
 | succ d ih =>
  intro s x5 hs h1 h3
  have er : restS f n e s (d + 1) = ((S f s (e + 1)).flatMap fun a => (S f (n - s) (e + 1)).map fun b => a ++ b) ++ restS f n e (s + 1) d := by unfold restS; rw [List.range'_succ, List.flatMap_cons]
  rw [er, List.length_append] at h3
  rw [er]
  have j1 := catS_length (S f s (e + 1)) (S f (n - s) (e + 1))
  have e1 := hk s h1 (by omega)
  have e2 := hk (n - s) (by omega) (by omega)
  have w1 : wrap64 ((n : Int) - (s : Int)) = ((n - s : Nat) : Int) := by rw [wrap64_id (by omega) (by omega)]; omega
  have w2 : wrap64 (e + 1) = e + 1 := wrap64_id (by omega) (by omega)
  refine Ev.step (fun k => impl_shapes.l0.eq_2 ..) (Ev.ifT (by omega) ?_)
  rw [w2]
  refine Ev.bind e1 ?_
  have b1 := T_big f s h1 (by omega) (by omega)
  have b2 := T_big f (n - s) (by omega) (by omega) (by omega)
  have c1 := S_length f s (e + 1)
  have c2 := S_length f (n - s) (e + 1)
  refine shapes_l1 (C := S f (n - s) (e + 1)) (by rw [w1, w2]; exact e2) (fun a ha => S_len h1 (by omega) (by omega) ha) (fun b hb => S_len (by omega) (by omega) (by omega) hb) (by omega) (by omega) (S f s (e + 1)).length 0 x5 (by omega) (by omega) ?_
  rw [wrap64_succ s (by omega), List.drop_zero, ← List.append_assoc]
  exact ih (s + 1) _ (by omega) (by omega) (by rw [List.length_append]; omega)
theorem shapes_ev : ∀ (f n : Nat) (e : Int), 1 ≤ n → n ≤ 8 → n ≤ f → 0 ≤ e → e + n ≤ 1000 → Ev (fun k => impl_shapes.f k (n : Int) e) (S f n e)
 | 0, _, _, h, _, h', _, _ => by omega
 | f + 1, n, e, h1, h8, hf, h0, he => by
  have hb := T_big (f + 1) n h1 h8 hf
  by_cases h : n = 1
  ·
   subst h
   exact Ev.step (fun k => impl_shapes.f.eq_2 ..) (Ev.ifT rfl (Ev.now _))
  ·
   have er : S (f + 1) n e = restS f n e 1 (n - 1) := by rw [S.eq_2, if_neg h]; rfl
   refine Ev.step (fun k => impl_shapes.f.eq_2 ..) (Ev.ifF (by omega) ?_)
   rw [← S_length (f + 1) n e, er] at hb
   rw [er]
   have := shapes_l0 (f := f) h0 (by omega) h8 hf (fun m a b => shapes_ev f m (e + 1) a (by omega) (by omega) (by omega) (by omega)) (n - 1) 1 [] (by omega) (by omega) (by simp; omega)
   simpa using this
theorem l10Cost_loop {a w : List Int} (hl : a.length = w.length) (hs : w.length ≤ 1000000) : ∀ (d n : Nat) (acc : Int), n + d = w.length → Ev (fun k => spec_l10Cost.l0 k a w acc (n : Int)) (costM acc (a.drop n) (w.drop n)) := by
 intro d
 induction d with
 | zero =>
  intro n acc hn
  refine Ev.step (fun k => spec_l10Cost.l0.eq_2 ..) (Ev.ifF (by omega) ?_)
  rw [List.drop_of_length_le (by omega), List.drop_of_length_le (by omega), costM]
  ·
   exact Ev.now _
  ·
   simp
 | succ d ih =>
  intro n acc hn
  refine Ev.step (fun k => spec_l10Cost.l0.eq_2 ..) (Ev.ifT (by omega) (Ev.ifT (by omega) (Ev.ifT (by omega) ?_)))
  rw [drop_cons_getD 0 (show n < a.length by omega), drop_cons_getD 0 (show n < w.length by omega), costM]
  simpa only [rd_nat, wrap64_succ n (by omega)] using ih (n + 1) _ (by omega)
theorem l10Cost_ev {a w : List Int} (hl : a.length = w.length) (hs : w.length ≤ 1000000) : Ev (fun k => spec_l10Cost.f k a w) (costM 0 a w) := by
 simpa [spec_l10Cost.f] using l10Cost_loop hl hs w.length 0 0 (by omega)
theorem costOf_loop {a w : List Int} (hl : a.length = w.length) (hs : w.length ≤ 1000000) : ∀ (d n : Nat) (acc : Int), n + d = w.length → Ev (fun k => impl_costOf.l0 k w acc a (a.length : Int) (n : Int)) (costM acc (a.drop n) (w.drop n)) := by
 intro d
 induction d with
 | zero =>
  intro n acc hn
  refine Ev.step (fun k => impl_costOf.l0.eq_2 ..) (Ev.ifF (by omega) ?_)
  rw [List.drop_of_length_le (by omega), List.drop_of_length_le (by omega), costM]
  ·
   exact Ev.now _
  ·
   simp
 | succ d ih =>
  intro n acc hn
  refine Ev.step (fun k => impl_costOf.l0.eq_2 ..) (Ev.ifT (by omega) (Ev.ifT (by omega) (Ev.ifT (by omega) (Ev.ifT (by omega) ?_))))
  rw [drop_cons_getD 0 (show n < a.length by omega), drop_cons_getD 0 (show n < w.length by omega), costM]
  simpa only [rd_nat, wrap64_succ n (by omega)] using ih (n + 1) _ (by omega)
theorem costOf_ev {a w : List Int} (hl : a.length = w.length) (hs : w.length ≤ 1000000) : Ev (fun k => impl_costOf.f k a w) (costM 0 a w) := by
 simpa [impl_costOf.f] using costOf_loop hl hs w.length 0 0 (by omega)
theorem sooner_loop {a b : List Int} (hl : a.length = b.length) (hs : a.length ≤ 1000000) : ∀ (d n : Nat), n + d = a.length → Ev (fun k => spec_l10Sooner.l0 k a b (n : Int)) (soonM (a.drop n) (b.drop n)) := by
 intro d
 induction d with
 | zero =>
  intro n hn
  refine Ev.step (fun k => spec_l10Sooner.l0.eq_2 ..) (Ev.ifF (by omega) ?_)
  rw [List.drop_of_length_le (by omega), List.drop_of_length_le (by omega), soonM]
  ·
   exact Ev.now _
  ·
   simp
 | succ d ih =>
  intro n hn
  refine Ev.step (fun k => spec_l10Sooner.l0.eq_2 ..) (Ev.ifT (by omega) (Ev.ifT (by omega) (Ev.ifT (by omega) ?_)))
  rw [drop_cons_getD 0 (show n < a.length by omega), drop_cons_getD 0 (show n < b.length by omega), soonM]
  simp only [rd_nat]
  by_cases h : a.getD n 0 = b.getD n 0
  ·
   rw [if_pos h]
   refine Ev.ifT h ?_
   simpa only [wrap64_succ n (by omega)] using ih (n + 1) (by omega)
  ·
   rw [if_neg h]
   exact Ev.ifF h (Ev.now _)
theorem sooner_ev {a b : List Int} (hl : a.length = b.length) (hs : a.length ≤ 1000000) : Ev (fun k => spec_l10Sooner.f k a b) (soonM a b) := by
 simpa [spec_l10Sooner.f] using sooner_loop hl hs a.length 0 (by omega)
theorem cmp_eq (x y : Int) : cmp_Compare_int.f x y = some (if x = y then 0 else if x < y then -1 else 1) := by
 unfold cmp_Compare_int.f cmp_isNaN_int.f
 simp only [bne_self_eq_false, Option.bind_some, Bool.false_eq_true, if_false]
 by_cases h : x = y
 ·
  subst h; simp
 ·
  by_cases h2 : x < y
  ·
   rw [if_pos h2, if_neg h, if_pos h2]
  ·
   rw [if_neg h2, if_pos (by omega), if_neg h, if_neg h2]
theorem compare_loop {a b : List Int} (hl : a.length = b.length) (hs : a.length ≤ 1000000) : ∀ (d n : Nat), n + d = a.length → Ev (fun k => slices_Compare_int_int.l0 k a b a (a.length : Int) (n : Int)) (cmpM (a.drop n) (b.drop n)) := by
 intro d
 induction d with
 | zero =>
  intro n hn
  refine Ev.step (fun k => slices_Compare_int_int.l0.eq_2 ..) (Ev.ifF (by omega) (Ev.ifF (by omega) ?_))
  rw [List.drop_of_length_le (by omega), List.drop_of_length_le (by omega), cmpM]
  ·
   exact Ev.now _
  ·
   simp
 | succ d ih =>
  intro n hn
  refine Ev.step (fun k => slices_Compare_int_int.l0.eq_2 ..) (Ev.ifT (by omega) (Ev.ifT (by omega) (Ev.ifT (by omega) (Ev.ifF (by omega) (Ev.ifT (by omega) ?_)))))
  rw [drop_cons_getD 0 (show n < a.length by omega), drop_cons_getD 0 (show n < b.length by omega), cmpM]
  simp only [rd_nat, cmp_eq]
  refine Ev.some_bind ?_
  by_cases h : a.getD n 0 = b.getD n 0
  ·
   rw [if_pos h, if_pos h]
   refine Ev.ifT rfl ?_
   simpa only [wrap64_succ n (by omega)] using ih (n + 1) (by omega)
  ·
   rw [if_neg h, if_neg h]
   refine Ev.ifF ?_ (Ev.now _)
   split <;> omega
theorem compare_ev {a b : List Int} (hl : a.length = b.length) (hs : a.length ≤ 1000000) : Ev (fun k => slices_Compare_int_int.f k a b) (cmpM a b) := by
 simpa [slices_Compare_int_int.f] using compare_loop hl hs a.length 0 (by omega)
theorem specPick {w : List Int} {L : List (List Int)} (hw : w.length ≤ 1000000) (hL : ∀ x ∈ L, x.length = w.length) (hm : L.length ≤ 1000000000) :
  ∀ (d n : Nat) (b : List Int), n + d = L.length → b.length = w.length → Ev (fun k => spec_InOrderCode.l0 k w L b (n : Int)) (pickM w b (L.drop n), costM 0 (pickM w b (L.drop n)) w, true) := by
 intro d
 induction d with
 | zero =>
  intro n b hn hb
  rw [List.drop_of_length_le (by omega)]
  exact Ev.step (fun k => spec_InOrderCode.l0.eq_2 ..) (Ev.ifF (by omega) (Ev.bind (l10Cost_ev hb hw) (Ev.now _)))
 | succ d ih =>
  intro n b hn hb
  have h1 : n < L.length := by omega
  have hx := hL _ (getD_in [] h1)
  refine Ev.step (fun k => spec_InOrderCode.l0.eq_2 ..) (Ev.ifT (by omega) (Ev.ifT (by omega) ?_))
  rw [drop_cons_getD [] h1]
  simp only [rdL_nat, wrap64_succ n (by omega)]
  generalize L.getD n [] = x at hx ⊢
  refine Ev.bind (l10Cost_ev hx hw) (Ev.bind (l10Cost_ev hb hw) ?_)
  rw [pickM]
  by_cases c1 : costM 0 x w < costM 0 b w
  ·
   rw [if_pos c1]
   exact Ev.ifT c1 (ih (n + 1) x (by omega) hx)
  ·
   rw [if_neg c1]
   refine Ev.ifF c1 ?_
   by_cases c2 : costM 0 x w = costM 0 b w
   ·
    rw [if_pos c2]
    refine Ev.ifT c2 (Ev.bind (sooner_ev (hx.trans hb.symm) (by omega)) ?_)
    by_cases c3 : soonM x b = true
    ·
     rw [if_pos c3]
     exact Ev.ifT c3 (ih (n + 1) x (by omega) hx)
    ·
     rw [if_neg c3]
     exact Ev.ifF c3 (ih (n + 1) b (by omega) hb)
   ·
    rw [if_neg c2]
    exact Ev.ifF c2 (ih (n + 1) b (by omega) hb)
theorem implPick {w : List Int} {L : List (List Int)} (hw : w.length ≤ 1000000) (hL : ∀ x ∈ L, x.length = w.length ∧ 0 ≤ costM 0 x w) (hm : L.length ≤ 1000000000) :
  ∀ (d n : Nat) (b : List Int), n + d = L.length → b.length = w.length → 0 ≤ costM 0 b w → Ev (fun k => impl_InOrderCode.l0 k w b (costM 0 b w) L (L.length : Int) (n : Int)) (pickM w b (L.drop n), costM 0 (pickM w b (L.drop n)) w, true) := by
 intro d
 induction d with
 | zero =>
  intro n b hn hb _
  rw [List.drop_of_length_le (by omega)]
  exact Ev.step (fun k => impl_InOrderCode.l0.eq_2 ..) (Ev.ifF (by omega) (Ev.now _))
 | succ d ih =>
  intro n b hn hb h0
  have h1 : n < L.length := by omega
  have hx := hL _ (getD_in [] h1)
  refine Ev.step (fun k => impl_InOrderCode.l0.eq_2 ..) (Ev.ifT (by omega) (Ev.ifT (by omega) (Ev.ifT (by omega) ?_)))
  rw [drop_cons_getD [] h1]
  simp only [rdL_nat, wrap64_succ n (by omega)]
  generalize L.getD n [] = x at hx ⊢
  refine Ev.bind (costOf_ev hx.1 hw) (Ev.ifF (by omega) ?_)
  rw [pickM]
  by_cases c1 : costM 0 x w < costM 0 b w
  ·
   rw [if_pos c1]
   exact Ev.ifT c1 (ih (n + 1) x (by omega) hx.1 hx.2)
  ·
   rw [if_neg c1]
   refine Ev.ifF c1 ?_
   by_cases c2 : costM 0 x w = costM 0 b w
   ·
    rw [if_pos c2]
    refine Ev.ifT c2 (Ev.bind (compare_ev (hx.1.trans hb.symm) (by omega)) ?_)
    by_cases c3 : soonM x b = true
    ·
     rw [if_pos c3]
     exact Ev.ifT ((cmp_soon x b).2 c3) (ih (n + 1) x (by omega) hx.1 hx.2)
    ·
     rw [if_neg c3]
     exact Ev.ifF (fun h => c3 ((cmp_soon x b).1 h)) (ih (n + 1) b (by omega) hb h0)
   ·
    rw [if_neg c2]
    exact Ev.ifF c2 (ih (n + 1) b (by omega) hb h0)
theorem implFirst {w : List Int} {L : List (List Int)} (hw : w.length ≤ 1000000) (hL : ∀ x ∈ L, x.length = w.length ∧ 0 ≤ costM 0 x w) (hm : L.length ≤ 1000000000) (h1 : 0 < L.length) :
  Ev (fun k => impl_InOrderCode.l0 k w [] (-1) L (L.length : Int) 0) (pickM w (L.getD 0 []) (L.drop 1), costM 0 (pickM w (L.getD 0 []) (L.drop 1)) w, true) := by
 have hx := hL _ (getD_in [] h1)
 refine Ev.step (fun k => impl_InOrderCode.l0.eq_2 ..) (Ev.ifT (by omega) (Ev.ifT (by omega) (Ev.ifT (by omega) ?_)))
 rw [show rd_L1 L 0 = L.getD 0 [] from rdL_nat L 0]
 refine Ev.bind (costOf_ev hx.1 hw) (Ev.ifT (by omega) ?_)
 rw [show wrap64 (0 + 1) = ((1 : Nat) : Int) from wrap64_id (by omega) (by omega)]
 exact implPick hw hL hm (L.length - 1) 1 (L.getD 0 []) (by omega) hx.1 hx.2
end Go.Proofs.Ytfbohppheodpkaa.L
namespace Go.Proofs.Ytfbohppheodpkaa.Pure
open Go.RowKit Go.Proofs.Ytfbohppheodpkaa.P Go.Proofs.Ytfbohppheodpkaa.M Go.Proofs.YtfbohppheodpkaaW.PrintWords Go.Proofs.YtfbohppheodpkaaW.PrintLast Go.Proofs.YtfbohppheodpkaaW.PrintMore
set_option linter.unusedVariables false
open Go.Proofs.Ytfbohppheodpkaa.L
open Shp
theorem both (l : List Int) (hl : l.length ≤ 1048576) : ∃ r : List Int × Int × Bool, r.1.length ≤ 1000 ∧ Ev (fun k => spec_InOrderCode.f k l) r ∧ Ev (fun k => impl_InOrderCode.f k l) r := by
 have h1 := l10Numbers_ev l 999 (by omega)
 unfold spec_InOrderCode.f impl_InOrderCode.f
 simp only [areIn_eq]
 have sN : Ev (fun k => spec_InOrderCode.j0 k l true) ([], 0, false) := Ev.step (fun k => spec_InOrderCode.j0.eq_2 ..) (Ev.ifT rfl (Ev.now _))
 have iN : Ev (fun k => impl_InOrderCode.j0 k l true) ([], 0, false) := Ev.step (fun k => impl_InOrderCode.j0.eq_2 ..) (Ev.ifT rfl (Ev.now _))
 cases hg : (l.all (goodN 999) && lenOk l) with
 | false =>
  rw [hg] at h1
  exact ⟨([], 0, false), by simp, Ev.bind h1 (Ev.ifF Bool.false_ne_true sN), Ev.some_bind (Ev.ifF Bool.false_ne_true iN)⟩
 | true =>
  rw [hg] at h1
  by_cases h8 : (l.length : Int) > 8
  ·
   have e : decide ((l.length : Int) > 8) = true := decide_eq_true h8
   rw [e]
   exact ⟨([], 0, false), by simp, Ev.bind h1 (Ev.ifT rfl sN), Ev.some_bind (Ev.ifT rfl iN)⟩
  ·
   have e : decide ((l.length : Int) > 8) = false := decide_eq_false h8
   rw [e]
   obtain ⟨hga, hlo⟩ := Bool.and_eq_true_iff.1 hg
   have hlo := of_decide_eq_true hlo
   have hw : ∀ y ∈ l, 0 ≤ y ∧ y ≤ 1000 := fun y hy => by
    have := List.all_eq_true.1 hga y hy
    simp only [goodN, Bool.and_eq_true, decide_eq_true_eq] at this
    omega
   by_cases hn : (l.length : Int) = 1
   ·
    exact ⟨([1], rd l 0, true), by simp, Ev.bind h1 (Ev.ifT rfl (Ev.step (fun k => spec_InOrderCode.j0.eq_2 ..) (Ev.ifF Bool.false_ne_true (Ev.ifT hn (Ev.ifT (by omega) (Ev.now _)))))),
     Ev.some_bind (Ev.ifT rfl (Ev.step (fun k => impl_InOrderCode.j0.eq_2 ..) (Ev.ifF Bool.false_ne_true (Ev.ifT hn (Ev.ifT (by omega) (Ev.now _))))))⟩
   ·
    have t1 := trees_ev l.length l.length hlo.1 (by omega) (Nat.le_refl _)
    have t2 := shapes_ev l.length l.length 0 hlo.1 (by omega) (Nat.le_refl _) (by omega) (by omega)
    rw [S_zero] at t2
    have hp := T_pos l.length l.length hlo.1 (Nat.le_refl _)
    have hb := T_big l.length l.length hlo.1 (by omega) (Nat.le_refl _)
    have hL : ∀ x ∈ T l.length l.length, x.length = l.length ∧ 0 ≤ costM 0 x l := fun x hx => by
     have hx2 := (T_good _ _ hlo.1 (Nat.le_refl _) x hx).1
     have hx3 := (T_ok hlo.1 (by omega) (Nat.le_refl _) hx).2.2
     exact ⟨hx2, costM_pos x l 0 hx3 hw (by omega) (by omega)⟩
    generalize T l.length l.length = L at t1 t2 hp hb hL
    have hg0 := hL _ (getD_in [] hp)
    refine ⟨(pickM l (L.getD 0 []) (L.drop 1), costM 0 (pickM l (L.getD 0 []) (L.drop 1)) l, true), ?_, ?_, ?_⟩
    ·
     have hq : (pickM l (L.getD 0 []) (L.drop 1)).length = l.length := by
      rcases pick_mem l (L.drop 1) (L.getD 0 []) with h | h
      ·
       rw [h]; exact hg0.1
      ·
       exact (hL _ (List.mem_of_mem_drop h)).1
     show (pickM l (L.getD 0 []) (L.drop 1)).length ≤ 1000
     omega
    ·
     refine Ev.bind h1 (Ev.ifT rfl (Ev.step (fun k => spec_InOrderCode.j0.eq_2 ..) (Ev.ifF Bool.false_ne_true (Ev.ifF hn (Ev.bind t1 (Ev.ifT (by omega) ?_))))))
     rw [show rd_L1 L 0 = L.getD 0 [] from rdL_nat L 0]
     exact specPick (by omega) (fun x hx => (hL x hx).1) (by omega) (L.length - 1) 1 _ (by omega) hg0.1
    ·
     exact Ev.some_bind (Ev.ifT rfl (Ev.step (fun k => impl_InOrderCode.j0.eq_2 ..) (Ev.ifF Bool.false_ne_true (Ev.ifF hn (Ev.bind t2 (implFirst (by omega) hL (by omega) hp))))))
theorem FnExactInOrderCode : laws_FnExactInOrderCode.Pure := by
 intro l _ _ _
 by_cases hb : (l.length : Int) > 1048576
 ·
  exact ⟨0, by unfold laws_FnExactInOrderCode.f; rw [if_pos hb]⟩
 have hl : l.length ≤ 1048576 := by omega
 obtain ⟨r, hr, h1, h2⟩ := both l hl
 have ht := toIntS_ev l hl
 have hq := eqIntS_ev r.1 r.1 (by omega)
 refine Ev.rounds ?_
 unfold laws_FnExactInOrderCode.f
 refine Ev.ifF hb (Ev.bind ht (Ev.bind h1 (Ev.bind ht (Ev.bind h2 (Ev.bind hq (Ev.ifT (by simp) (Ev.ifT rfl ?_)))))))
 refine Ev.step (fun k => laws_FnExactInOrderCode.j0.eq_2 ..) (Ev.ifF (by simp) (Ev.bind ht (Ev.bind (eqIntS_ev l l (by omega)) (Ev.ifT (by simp) (Ev.bind (markIntS_ev l (by omega)) (Ev.ifF (by omega) (Ev.bind hq (Ev.ifT (by simp) (Ev.ifT rfl ?_)))))))))
 refine Ev.step (fun k => laws_FnExactInOrderCode.j1.eq_2 ..) (Ev.ifF (by simp) (Ev.bind (markIntS_ev r.1 (by omega)) (Ev.bind (heldIntS_ev r.1 (by omega)) (Ev.ifF (by omega) (Ev.ifT rfl (Ev.bind ht (Ev.bind h2 (Ev.bind hq (Ev.ifT (by simp) (Ev.ifT rfl ?_))))))))))
 exact Ev.step (fun k => laws_FnExactInOrderCode.j2.eq_2 ..) (Ev.ifF (by simp) (Ev.bind (heldIntS_ev r.1 (by omega)) (Ev.ifF (by omega) (Ev.ifT rfl (Ev.now _)))))
end Go.Proofs.Ytfbohppheodpkaa.Pure
namespace Go.Proofs.Ytfbohppheodpkaa.fnExactInOrderCode
open Go.ChangeShapes Go.WideShapes Go.ChangeAt Go.RowKit
open Go.ChangeMaps (open_string shut_string)
set_option linter.unusedVariables false
theorem own : ownKnob Try.prog.godebug = none := by kernel_rfl
theorem laidOut : laidOutB Try.prog = true := by kernel_rfl
def IsRow (k : IntKind) (w : World) (a : Option Addr) (len cap : Nat) (zs : List Int) : Prop :=
  (a = none ∧ len = 0 ∧ cap = 0 ∧ zs = []) ∨
  ∃ x, a = some x ∧ len ≤ cap ∧ cap ≤ maxLen ∧ zs.length = cap ∧ (∀ i, i < zs.length → w.cell? (x.add i) = some (.int k (zs.getD i 0))) ∧ ∀ n ∈ zs, (Lit.int k n).wf = true
set_option maxRecDepth 100000 in
theorem lifted (os : Os) (started : os.Started) (H : Type) (enc : TypeId × Value → H) :
    ReturnsInHanded {} Try.checked os 3 .any (Rows.fnExactInOrderCodeSpec.pre6 enc Try.prog Try.f3 Rows.fnExactInOrderCodeRow.domain false) (Rows.fnExactInOrderCodeSpec.post enc Try.prog Try.f3 false true false false) := by
  refine returnsInHanded_of_change_sized (C := Try.checked) own started (by kernel_rfl) Try.func3
    (ChangeSpec.witness6 (enc := enc) (C := Try.checked) false ⟨#[], #[.slice none 0 0], []⟩ 8 (by kernel_rfl) (by kernel_rfl) (by kernel_rfl) (by kernel_rfl)) ?_
  intro W base args ds gs before hval0 hW hcnd hsz0 _
  have hsz : (DataW.weightsEach Try.prog (Try.f3.params.toList ++ Rows.fnExactInOrderCodeSpec.plain.varTypes Try.prog) (ds ++ gs)).all (· ≤ reachBytes) = true := hsz0
  have hval : ∀ (j : Nat) t v, Try.f3.params[j]? = some t → args[j]? = some v → Value.okWide Try.prog W .any base t v := hval0
  have hW' := hW
  obtain ⟨p, q, hA0, hV, rfl, hfz, hnd⟩ := hW
  have hA : DataW.TrodAll enc Try.prog W 0 (fun _ => true) true Try.f3.params.toList args.toList ds p := hA0
  rw [Try.params3] at hA hval hsz
  obtain ⟨v0, vs0, d0, ds0, p0, q0, hargs, rfl, rfl, h0, r0⟩ := trodAll_cons hA
  obtain ⟨rfl, rfl, rfl⟩ := trodAll_nil r0
  obtain rfl : args = #[v0] := by cases args; simp_all
  obtain ⟨rfl, rfl⟩ := trodVars_none hV
  obtain ⟨a0, len0, cap0, rfl⟩ := okWide_slice Try.underlying22 (hval 0 22 v0 rfl rfl)
  have k0 := h0
  have lt0 : ∀ x ∈ p0, x.block < W.heap.size := by obtain ⟨m, hm⟩ := k0; exact DataW.trod_lt m _ _ _ hm
  obtain ⟨z0, w0⟩ : ∃ zs, IsRow .i64 W a0 len0 cap0 zs := by
    obtain ⟨fuel, hf⟩ := h0
    rcases open_ints Try.underlying22 Try.underlying3 (by kernel_rfl) hf with ⟨hcs, _⟩ | ⟨x, l, c, zs, hcs, _, hl, hm, hz, _, hcell, hwz⟩
    · simp [Value.cells] at hcs
      obtain ⟨rfl, rfl, rfl⟩ := hcs
      exact ⟨[], .inl ⟨rfl, rfl, rfl, rfl⟩⟩
    · simp [Value.cells] at hcs
      obtain ⟨rfl, rfl, rfl⟩ := hcs
      exact ⟨zs, .inr ⟨_, rfl, hl, hm, by simpa using hz, hcell, hwz⟩⟩
  have y0 : len0 * 8 ≤ 140737488351232 := Go.Proofs.YtfbohppheodpkaaW.PrintWords.sized_ints hsz (j := 0) (t := 22) rfl rfl Try.underlying22 Try.underlying3 (by kernel_rfl) (by kernel_rfl) h0
  clear hA0 hval0 hsz0 hsz
  refine (P.laws_FnExactInOrderCode.walk Pure.FnExactInOrderCode a0 len0 cap0 z0 W w0 y0).mono fun e W' ⟨he, bel⟩ => ?_
  subst he
  exact ⟨_, rfl, _, _, _, [], _, [], hW', trodAll_mk1 (shut_bool Try.underlying4 _), (trodAll_cons_mk (Below.trod laidOut (by kernel_rfl) (of_decide_eq_true (by kernel_rfl)) k0 bel lt0) trodAll_mk0), rfl, bel.frame _, fun h => by cases h⟩
theorem over : Rows.fnExactInOrderCodeRow.holds Try.pinned (OpenSpec.ofChange Rows.fnExactInOrderCodeSpec) :=
  OpenClaim.holds_of_wide 3 Try.f3 rfl rfl rfl rfl rfl rfl rfl ⟨rfl, rfl, rfl, rfl, rfl⟩ rfl rfl rfl rfl rfl (by kernel_rfl) Try.func3 (by kernel_rfl)
    (of_decide_eq_true (by kernel_rfl)) (by unfold Func.isWrapper; first | (rw [if_pos (by decide +kernel)]; kernel_rfl) | (rw [if_neg (by decide +kernel)]; exact ⟨rfl, rfl⟩))
    (fun os started H enc _ => lifted os started H enc)
theorem proved : Rows.FnExactInOrderCodeSaid := over
end Go.Proofs.Ytfbohppheodpkaa.fnExactInOrderCode
namespace Go.Proofs.Ytfbohppheodpkaa
theorem fnExactInOrderCode_holds : Rows.FnExactInOrderCodeSaid := fnExactInOrderCode.proved
end Go.Proofs.Ytfbohppheodpkaa
