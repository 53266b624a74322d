/-
  Part 2 of the proof that FnSubstrings returns true for every input: the functions that it reaches, each with its contract, and the law.
  Conditions: those of the given statement, no others.
-/
import Derived.Test.YtblcdgnihmcdpaaGreatDoorCFnSubstringsW0
import Derived.Shelf.Abstract
import Derived.Maps.OwnOps
import Derived.Maps.Views
import Derived.Sort.Walk0
import Derived.Test.YtblcdgnihmcdpaaGreatDoorCFnSubstrings0
set_option linter.unusedVariables false
set_option linter.unusedSimpArgs false
set_option maxHeartbeats 8000000
set_option maxRecDepth 100000
namespace Go.Proofs.YtblcdgnihmcdpaaGreatDoor.P
open Go.RowKit Go.Proofs.YtblcdgnihmcdpaaGreatDoorW.PrintWords Go.Proofs.YtblcdgnihmcdpaaGreatDoorW.PrintLast Go.Proofs.YtblcdgnihmcdpaaGreatDoorW.PrintMore
attribute [local go_sem] max2_int min2_int max_two min_two max_three min_three max_four min_four
def iF12.f (k : Nat) (a0 : ByteArray) (a1 : ByteArray) : Option (List Int × Bool) := (iF20.f a0).bind fun t314 => (if t314 = true then ((iF20.f a1).bind fun t315 => (if t315 = true then (if a1.toList = ([] : List UInt8) then (some (([] : List Int), false)) else ((iF23.f k a0 a1).bind fun t316 => (some (t316, true)))) else (some (([] : List Int), false)))) else (some (([] : List Int), false)))
theorem iF12.mono : ∀ a0 a1 k, LeO (iF12.f k a0 a1) (iF12.f (k + 1) a0 a1) := by
 intro a0 a1 k
 unfold iF12.f
 repeat' with_reducible first | exact iF23.mono _ _ _ | exact LeO.refl _ | exact LeO.none _ | refine LeO.ite ?_ ?_ | refine LeO.bind ?_ (fun _ => ?_)
theorem iF12.calls (k : Nat) (a0 : ByteArray) (a1 : ByteArray) (r1 : List Int) (r2 : Bool) (w : World) (h : iF12.f k a0 a1 = some (r1, r2)) :
  Calls Tryz.prog 21 #[.string a0, .string a1] w fun e w' => ∃ v0_ : Value, e = .returned (.tuple #[v0_, .bool r2]) ∧ Kd.R (Kd.int .i64) 3 w' w.heap.size (fun _ => True) v0_ r1 ∧ Below w.heap.size w w' := by
 have HB := Aside0.mk (Below.refl w.heap.size w)
 have H : ((iF20.f a0).bind fun t314 => (if t314 = true then ((iF20.f a1).bind fun t315 => (if t315 = true then (if a1.toList = ([] : List UInt8) then (some (([] : List Int), false)) else ((iF23.f k a0 a1).bind fun t316 => (some (t316, true)))) else (some (([] : List Int), false)))) else (some (([] : List Int), false)))) = some (r1, r2) := h
 clear h
 replace H := Option.bind_eq_some_iff.mp H
 obtain ⟨t314, A30, H⟩ := H
 replace H : (if t314 = true then ((iF20.f a1).bind fun t315 => (if t315 = true then (if a1.toList = ([] : List UInt8) then (some (([] : List Int), false)) else ((iF23.f k a0 a1).bind fun t316 => (some (t316, true)))) else (some (([] : List Int), false)))) else (some (([] : List Int), false))) = some (r1, r2) := H
 have A3 := Aside0.mk A30
 clear A30
 by_cases c4 : t314 = true
 rotate_left
 ·
  replace c4 := Bool.eq_false_iff.mpr c4
  subst c4
  replace H : (some (([] : List Int), false)) = some (r1, r2) := by rw [if_neg (show ¬ (false = true) by decide)] at H; exact H
  simp only [Option.some.injEq, Prod.mk.injEq] at H
  obtain ⟨rfl, rfl⟩ := H
  go_enter Tryz.func21, Tryz.ntmps21
  go_wp2_with (first | ((with_reducible refine gate_callee (f := 48) rfl ?_); refine goesL_ (some 7) rfl rfl Tryz.func48 (by kernel_rfl) rfl #[.string a0] rfl (by (try simp only [List.map_toArray, List.map_cons, List.map_nil]); first | done | rfl | (simp only [List.length_drop, List.length_take]; rfl)) ?_; (with_reducible refine (iF20.calls a0 false _ A3.out).mono ?_); rintro e w16 ⟨rfl, hb⟩; refine ⟨_, rfl, ?_⟩; have n0_ := Aside0.mk (below_step (by repeat (first | (with_reducible first | exact HB.out | apply below_alloc | apply pw_below_drewN | apply below_drew1) | exact HB.out)) hb); clear HB; have HB := n0_; clear n0_; (try clear hb); (try clear hb2); (try clear hk); (try clear hi)))
  go_ret2
  exact ⟨_, by first | rfl | (simp [errW_none, errW_some] <;> rfl) | (simp [*, errW_none, errW_some] <;> rfl), by first | exact Kd.R_nil _ _ _ _ _ | exact Kd.N_nil _ _ _ _ _ | exact Kd.V_nil _ _ _ _ _ | exact Kd.Q_nil _ _ _ _ _ | exact Kd.S_nil _ _ _ _ _, by repeat (first | (with_reducible first | exact HB.out | apply below_alloc | apply pw_below_drewN | apply below_drew1) | exact HB.out)⟩
 subst c4
 replace H : ((iF20.f a1).bind fun t315 => (if t315 = true then (if a1.toList = ([] : List UInt8) then (some (([] : List Int), false)) else ((iF23.f k a0 a1).bind fun t316 => (some (t316, true)))) else (some (([] : List Int), false)))) = some (r1, r2) := by rw [if_pos rfl] at H; exact H
 replace H := Option.bind_eq_some_iff.mp H
 obtain ⟨t315, A50, H⟩ := H
 replace H : (if t315 = true then (if a1.toList = ([] : List UInt8) then (some (([] : List Int), false)) else ((iF23.f k a0 a1).bind fun t316 => (some (t316, true)))) else (some (([] : List Int), false))) = some (r1, r2) := H
 have A5 := Aside0.mk A50
 clear A50
 by_cases c6 : t315 = true
 rotate_left
 ·
  replace c6 := Bool.eq_false_iff.mpr c6
  subst c6
  replace H : (some (([] : List Int), false)) = some (r1, r2) := by rw [if_neg (show ¬ (false = true) by decide)] at H; exact H
  simp only [Option.some.injEq, Prod.mk.injEq] at H
  obtain ⟨rfl, rfl⟩ := H
  go_enter Tryz.func21, Tryz.ntmps21
  go_wp2_with (first | ((with_reducible refine gate_callee (f := 48) rfl ?_); refine goesL_ (some 7) rfl rfl Tryz.func48 (by kernel_rfl) rfl #[.string a0] rfl (by (try simp only [List.map_toArray, List.map_cons, List.map_nil]); first | done | rfl | (simp only [List.length_drop, List.length_take]; rfl)) ?_; (with_reducible refine (iF20.calls a0 true _ A3.out).mono ?_); rintro e w14 ⟨rfl, hb⟩; refine ⟨_, rfl, ?_⟩; have n0_ := Aside0.mk (below_step (by repeat (first | (with_reducible first | exact HB.out | apply below_alloc | apply pw_below_drewN | apply below_drew1) | exact HB.out)) hb); clear HB; have HB := n0_; clear n0_; (try clear hb); (try clear hb2); (try clear hk); (try clear hi)) | (go_at_call 48; (with_reducible refine (iF20.calls a1 false _ A5.out).mono ?_); rintro e w15 ⟨rfl, hb⟩; have n0_ := Aside0.mk (below_step (by repeat (first | (with_reducible first | exact HB.out | apply below_alloc | apply pw_below_drewN | apply below_drew1) | exact HB.out)) hb); clear HB; have HB := n0_; clear n0_; (try clear hb); (try clear hb2); (try clear hk); (try clear hi)))
  go_ret2
  exact ⟨_, by first | rfl | (simp [errW_none, errW_some] <;> rfl) | (simp [*, errW_none, errW_some] <;> rfl), by first | exact Kd.R_nil _ _ _ _ _ | exact Kd.N_nil _ _ _ _ _ | exact Kd.V_nil _ _ _ _ _ | exact Kd.Q_nil _ _ _ _ _ | exact Kd.S_nil _ _ _ _ _, by repeat (first | (with_reducible first | exact HB.out | apply below_alloc | apply pw_below_drewN | apply below_drew1) | exact HB.out)⟩
 subst c6
 replace H : (if a1.toList = ([] : List UInt8) then (some (([] : List Int), false)) else ((iF23.f k a0 a1).bind fun t316 => (some (t316, true)))) = some (r1, r2) := by rw [if_pos rfl] at H; exact H
 by_cases c7 : a1.toList = ([] : List UInt8)
 ·
  rw [if_pos c7] at H
  have c7b0 : (a1.toList == ([] : List UInt8)) = true := beq_iff_eq.mpr c7
  have c7b1 : (a1.toList != ([] : List UInt8)) = false := bne_eq_false_iff_eq.mpr c7
  clear c7
  simp only [Option.some.injEq, Prod.mk.injEq] at H
  obtain ⟨rfl, rfl⟩ := H
  go_enter Tryz.func21, Tryz.ntmps21
  go_wp2_with (first | ((with_reducible refine gate_callee (f := 48) rfl ?_); refine goesL_ (some 7) rfl rfl Tryz.func48 (by kernel_rfl) rfl #[.string a0] rfl (by (try simp only [List.map_toArray, List.map_cons, List.map_nil]); first | done | rfl | (simp only [List.length_drop, List.length_take]; rfl)) ?_; (with_reducible refine (iF20.calls a0 true _ A3.out).mono ?_); rintro e w8 ⟨rfl, hb⟩; refine ⟨_, rfl, ?_⟩; have n0_ := Aside0.mk (below_step (by repeat (first | (with_reducible first | exact HB.out | apply below_alloc | apply pw_below_drewN | apply below_drew1) | exact HB.out)) hb); clear HB; have HB := n0_; clear n0_; (try clear hb); (try clear hb2); (try clear hk); (try clear hi)) | (go_at_call 48; (with_reducible refine (iF20.calls a1 true _ A5.out).mono ?_); rintro e w9 ⟨rfl, hb⟩; have n0_ := Aside0.mk (below_step (by repeat (first | (with_reducible first | exact HB.out | apply below_alloc | apply pw_below_drewN | apply below_drew1) | exact HB.out)) hb); clear HB; have HB := n0_; clear n0_; (try clear hb); (try clear hb2); (try clear hk); (try clear hi)))
  go_ret2
  exact ⟨_, by first | rfl | (simp [errW_none, errW_some] <;> rfl) | (simp [*, errW_none, errW_some] <;> rfl), by first | exact Kd.R_nil _ _ _ _ _ | exact Kd.N_nil _ _ _ _ _ | exact Kd.V_nil _ _ _ _ _ | exact Kd.Q_nil _ _ _ _ _ | exact Kd.S_nil _ _ _ _ _, by repeat (first | (with_reducible first | exact HB.out | apply below_alloc | apply pw_below_drewN | apply below_drew1) | exact HB.out)⟩
 rw [if_neg c7] at H
 have c7b0 : (a1.toList == ([] : List UInt8)) = false := beq_eq_false_iff_ne.mpr c7
 have c7b1 : (a1.toList != ([] : List UInt8)) = true := bne_iff_ne.mpr c7
 replace H := Option.bind_eq_some_iff.mp H
 obtain ⟨t316, A100, H⟩ := H
 replace H : (some (t316, true)) = some (r1, r2) := H
 have A10 := Aside0.mk A100
 clear A100
 simp only [Option.some.injEq, Prod.mk.injEq] at H
 obtain ⟨rfl, rfl⟩ := H
 go_enter Tryz.func21, Tryz.ntmps21
 go_wp2_with (first | ((with_reducible refine gate_callee (f := 48) rfl ?_); refine goesL_ (some 7) rfl rfl Tryz.func48 (by kernel_rfl) rfl #[.string a0] rfl (by (try simp only [List.map_toArray, List.map_cons, List.map_nil]); first | done | rfl | (simp only [List.length_drop, List.length_take]; rfl)) ?_; (with_reducible refine (iF20.calls a0 true _ A3.out).mono ?_); rintro e w11 ⟨rfl, hb⟩; refine ⟨_, rfl, ?_⟩; have n0_ := Aside0.mk (below_step (by repeat (first | (with_reducible first | exact HB.out | apply below_alloc | apply pw_below_drewN | apply below_drew1) | exact HB.out)) hb); clear HB; have HB := n0_; clear n0_; (try clear hb); (try clear hb2); (try clear hk); (try clear hi)) | (go_at_call 48; (with_reducible refine (iF20.calls a1 true _ A5.out).mono ?_); rintro e w12 ⟨rfl, hb⟩; have n0_ := Aside0.mk (below_step (by repeat (first | (with_reducible first | exact HB.out | apply below_alloc | apply pw_below_drewN | apply below_drew1) | exact HB.out)) hb); clear HB; have HB := n0_; clear n0_; (try clear hb); (try clear hb2); (try clear hk); (try clear hi)) | ((with_reducible refine gate_callee (f := 58) rfl ?_); refine goesL_ (some 20) rfl rfl Tryz.func58 (by kernel_rfl) rfl #[.string a0, .string a1] rfl (by (try simp only [List.map_toArray, List.map_cons, List.map_nil]); first | done | rfl | (simp only [List.length_drop, List.length_take]; rfl)) ?_; (with_reducible refine (iF23.calls k a0 a1 t316 _ A10.out).mono ?_); rintro e w13 ⟨v317, rfl, ho0, hb⟩; refine ⟨_, rfl, ?_⟩; have n0_ := Aside0.mk (Kd.R_lower ho0 (below_size (by repeat (first | (with_reducible first | exact HB.out | apply below_alloc | apply pw_below_drewN | apply below_drew1) | exact HB.out)))); have n1_ := Aside0.mk (below_step (by repeat (first | (with_reducible first | exact HB.out | apply below_alloc | apply pw_below_drewN | apply below_drew1) | exact HB.out)) hb); clear HB; have HO318 := n0_; have HB := n1_; clear n0_ n1_; (try clear hb); (try clear hb2); (try clear hk); (try clear hi); (try clear ho0)))
 go_ret2
 exact ⟨_, by first | rfl | (simp [errW_none, errW_some] <;> rfl) | (simp [*, errW_none, errW_some] <;> rfl), by (with_reducible repeat (first | apply Kd.R_alloc | apply Kd.R_drewN | apply Kd.R_drew)); exact HO318.out, by repeat (first | (with_reducible first | exact HB.out | apply below_alloc | apply pw_below_drewN | apply below_drew1) | exact HB.out)⟩
def sF62.l0 : Nat → ByteArray → ByteArray → List Int → Int → Option (List Int)
 | 0, _, _, _, _ => none
 | k + 1, x0, x1, x5, x6 => if (wrap64 (x6 + (x1.size : Int))) ≤ (x0.size : Int) then (if 0 ≤ x6 then (if x6 ≤ (wrap64 (x6 + (x1.size : Int))) then (if (x0.extract (x6 : Int).toNat ((wrap64 (x6 + (x1.size : Int))) : Int).toNat).toList = x1.toList then (if x5.length < 17592186044416 then (sF62.l0 k x0 x1 (x5 ++ [x6]) (wrap64 (x6 + 1))) else (none)) else (sF62.l0 k x0 x1 x5 (wrap64 (x6 + 1)))) else (none)) else (none)) else (some x5)
def sF62.f (k : Nat) (a0 : ByteArray) (a1 : ByteArray) : Option (List Int) := sF62.l0 k a0 a1 (([] : List Int)) 0
theorem sF62.mono_l : ∀ k, (∀ y0 y1 y2 y3, LeO (sF62.l0 k y0 y1 y2 y3) (sF62.l0 (k + 1) y0 y1 y2 y3))
 | 0 => fun _ _ _ _ r h => by simp [sF62.l0] at h
 | k + 1 => by
  have ih0 := sF62.mono_l k
  intro y0 y1 y2 y3
  unfold sF62.l0
  repeat' with_reducible first | exact ih0 _ _ _ _ | exact LeO.refl _ | exact LeO.none _ | refine LeO.ite ?_ ?_ | refine LeO.bind ?_ (fun _ => ?_)
theorem sF62.mono : ∀ a0 a1 k, LeO (sF62.f k a0 a1) (sF62.f (k + 1) a0 a1) := by
 intro a0 a1 k
 have ih0 := sF62.mono_l k
 unfold sF62.f
 repeat' with_reducible first | exact ih0 _ _ _ _ | exact LeO.refl _ | exact LeO.none _ | refine LeO.ite ?_ ?_ | refine LeO.bind ?_ (fun _ => ?_)
theorem sF62.calls (k : Nat) (a0 : ByteArray) (a1 : ByteArray) (r : List Int) (w : World) (h : sF62.f k a0 a1 = some r) :
  Calls Tryz.prog 59 #[.string a0, .string a1] w fun e w' => ∃ v0_ : Value, e = .returned (v0_) ∧ Kd.R (Kd.int .i64) 3 w' w.heap.size (fun _ => True) v0_ r ∧ Below w.heap.size w w' := by
 have HB := Aside0.mk (Below.refl w.heap.size w)
 have H : (sF62.l0 k a0 a1 (([] : List Int)) 0) = some r := h
 clear h
 obtain ⟨y319, hy319⟩ : ∃ y_ : List Int, y_ = (([] : List Int)) := ⟨_, rfl⟩
 replace H : (sF62.l0 k a0 a1 y319 0) = some r := by (try rw [hy319]); first | with_reducible exact H | with_reducible exact oS_ H | exact H
 have Ny319 := Aside0.mk hy319
 clear hy319
 have H' := Aside0.mk H
 clear H
 go_enter Tryz.func59, Tryz.ntmps59
 go_wp2_with (first | ((with_reducible refine gate_dst (N := 7) rfl ?_); refine Kd.R_lit (Kd.int .i64) _ 3 ?hg (N := 7) ?hd (xs := ([] : List Int)) (inner := []) (ok := fun _ => True) (okp := fun _ => True) ?hr ?hp (fun _ hk => hk) trivial (Below.refl _ _) (Nat.le_refl _) (by simp) ?_; (case hd => rfl); (case hg => rfl); (case hr => first | (go_simp; done) | (go_simp; rfl)); (case hp => exact (Reps.none _ _)); intro v320 w3 ho4 hb hg_ hnew_; clear hg_ hnew_; (first | rw [← Ny319.out] at ho4 | (simp only [Int.reduceToNat] at ho4; rw [← Ny319.out] at ho4)); have n0_ := Aside0.mk (Kd.R_lower ho4 (below_size (by repeat (first | (with_reducible first | exact HB.out | apply below_alloc | apply pw_below_drewN | apply below_drew1) | exact HB.out)))); have n1_ := Aside0.mk (below_step (by repeat (first | (with_reducible first | exact HB.out | apply below_alloc | apply pw_below_drewN | apply below_drew1) | exact HB.out)) hb); clear HB; have HO321 := n0_; have HB := n1_; clear n0_ n1_; clear hb ho4))
 go_loopg [5, 6] k (fun kq v5 v6 w' => ∃ (x5_1 : List Int) (x6_1 : Int), v6 = .int .i64 x6_1 ∧ Aside0 (sF62.l0 kq a0 a1 x5_1 x6_1 = some r) ∧ Aside0 (kq ≤ k) ∧ Aside0 (Kd.R (Kd.int .i64) 3 w' w.heap.size (fun _ => True) v5 x5_1) ∧ Aside0 (Below w.heap.size w w'))
 case atStart => exact ⟨(y319), (0), (by first | rfl | (simp; done) | (simp [*]; done)), H', ⟨Nat.le_refl _⟩, ⟨by (with_reducible repeat (first | apply Kd.R_alloc | apply Kd.R_drewN | apply Kd.R_drew)); exact HO321.out⟩, ⟨by repeat (first | (with_reducible first | exact HB.out | apply below_alloc | apply pw_below_drewN | apply below_drew1) | exact HB.out)⟩⟩
 clear H'
 try clear p2
 obtain ⟨x5_1, x6_1, rfl, HA, HK1, HO_5, HB⟩ := hrel
 cases gk with
 | zero => exact absurd HA.out (by simp [sF62.l0])
 | succ k1 =>
  have H := HA.out
  clear HA
  simp only [sF62.l0] at H
  by_cases c5 : (wrap64 (x6_1 + (a1.size : Int))) ≤ (a0.size : Int)
  rotate_left
  ·
   rw [if_neg c5] at H
   have c5b0 : decide ((wrap64 (x6_1 + (a1.size : Int))) ≤ (a0.size : Int)) = false := dF_ c5
   clear c5
   obtain rfl := Option.some.inj H
   go_wp2
   go_ret
   exact ⟨_, by first | rfl | (simp [errW_none, errW_some] <;> rfl) | (simp [*, errW_none, errW_some] <;> rfl), by (with_reducible repeat (first | apply Kd.R_alloc | apply Kd.R_drewN | apply Kd.R_drew)); exact HO_5.out, by repeat (first | (with_reducible first | exact HB.out | apply below_alloc | apply pw_below_drewN | apply below_drew1) | exact HB.out)⟩
  rw [if_pos c5] at H
  have c5b0 : decide ((wrap64 (x6_1 + (a1.size : Int))) ≤ (a0.size : Int)) = true := dT_ c5
  clear c5
  by_cases c6 : 0 ≤ x6_1
  rotate_left
  ·
   rw [if_neg c6] at H
   exact absurd H (by simp)
  rw [if_pos c6] at H
  have c6b0 := eq_true c6
  have c6b1 : decide (0 ≤ x6_1) = true := dT_ c6
  clear c6
  by_cases c7 : x6_1 ≤ (wrap64 (x6_1 + (a1.size : Int)))
  rotate_left
  ·
   rw [if_neg c7] at H
   exact absurd H (by simp)
  rw [if_pos c7] at H
  have c7b0 := eq_true c7
  have c7b1 : decide (x6_1 ≤ (wrap64 (x6_1 + (a1.size : Int)))) = true := dT_ c7
  have c8b0 := eq_true (oD_ (by first | (with_reducible assumption) | assumption) : (wrap64 (x6_1 + (a1.size : Int))) ≤ (a0.size : Int))
  by_cases c9 : (a0.extract (x6_1 : Int).toNat ((wrap64 (x6_1 + (a1.size : Int))) : Int).toNat).toList = a1.toList
  ·
   rw [if_pos c9] at H
   have c9b0 : ((a0.extract (x6_1 : Int).toNat ((wrap64 (x6_1 + (a1.size : Int))) : Int).toNat).toList == a1.toList) = true := beq_iff_eq.mpr c9
   have c9b1 : ((a0.extract (x6_1 : Int).toNat ((wrap64 (x6_1 + (a1.size : Int))) : Int).toNat).toList != a1.toList) = false := bne_eq_false_iff_eq.mpr c9
   clear c9
   by_cases c10 : x5_1.length < 17592186044416
   ·
    rw [if_pos c10] at H
    have LMc10 := Aside0.mk c10
    clear c10
    obtain ⟨y322, hy322⟩ : ∃ y_ : List Int, y_ = (x5_1 ++ [x6_1]) := ⟨_, rfl⟩
    replace H : (sF62.l0 k1 a0 a1 y322 (wrap64 (x6_1 + 1))) = some r := by (try rw [hy322]); first | with_reducible exact H | with_reducible exact oS_ H | exact H
    have Ny322 := Aside0.mk hy322
    clear hy322
    have H' := Aside0.mk H
    clear H
    go_wp2_with (first | ((with_reducible refine gate_builtin (b := .append) (xs := #[.tmp 26, .tmp 28]) rfl ?_); at_builtin; refine Kd.R_append (Kd.int .i64) (w0 := w) w.heap.size rfl (.tmp 26) (.tmp 28) 32 3 (.int .i64 0) 8 rfl Tryz.underlying32 info3 rfl (by decide) (by omega) u5 x5_1 x6_1 [.int .i64 x6_1] (fun _ => True) (fun _ => False) rfl rfl ?aP (fun _ hk => hk.elim) ?aF ?aO ?aB ?aS ?aL ?_; (case aP => exact rfl); (case aB => exact (by repeat (first | (with_reducible first | exact HB.out | apply below_alloc | apply pw_below_drewN | apply below_drew1) | exact HB.out))); (case aF => exact (fun _ _ => trivial)); (case aO => exact (by (with_reducible repeat (first | apply Kd.R_alloc | apply Kd.R_drewN | apply Kd.R_drew)); exact HO_5.out)); (case aS => exact (below_size (by repeat (first | (with_reducible first | exact HB.out | apply below_alloc | apply pw_below_drewN | apply below_drew1) | exact HB.out)))); (case aL => have := LMc10.out; omega); intro v323 w11 ho hb hg hat; rw [← Ny322.out] at ho; have n0_ := Aside0.mk (hb); have n1_ := Aside0.mk (ho); clear HB; clear HO_5; have HB := n0_; have HO324 := n1_; clear n0_ n1_; clear ho hb hg hat))
    go_roundg k1
    case measure => have := HK1.out; omega
    case rel => exact ⟨(y322), (wrap64 (x6_1 + 1)), (by first | rfl | (simp; done) | (simp [*]; done)), H', ⟨by have := HK1.out; omega⟩, ⟨by (with_reducible repeat (first | apply Kd.R_alloc | apply Kd.R_drewN | apply Kd.R_drew)); exact HO324.out⟩, ⟨by repeat (first | (with_reducible first | exact HB.out | apply below_alloc | apply pw_below_drewN | apply below_drew1) | exact HB.out)⟩⟩
   rw [if_neg c10] at H
   exact absurd H (by simp)
  rw [if_neg c9] at H
  have c9b0 : ((a0.extract (x6_1 : Int).toNat ((wrap64 (x6_1 + (a1.size : Int))) : Int).toNat).toList == a1.toList) = false := beq_eq_false_iff_ne.mpr c9
  have c9b1 : ((a0.extract (x6_1 : Int).toNat ((wrap64 (x6_1 + (a1.size : Int))) : Int).toNat).toList != a1.toList) = true := bne_iff_ne.mpr c9
  have H' := Aside0.mk H
  clear H
  go_wp2
  go_roundg k1
  case measure => have := HK1.out; omega
  case rel => exact ⟨(x5_1), (wrap64 (x6_1 + 1)), (by first | rfl | (simp; done) | (simp [*]; done)), H', ⟨by have := HK1.out; omega⟩, ⟨by (with_reducible repeat (first | apply Kd.R_alloc | apply Kd.R_drewN | apply Kd.R_drew)); exact HO_5.out⟩, ⟨by repeat (first | (with_reducible first | exact HB.out | apply below_alloc | apply pw_below_drewN | apply below_drew1) | exact HB.out)⟩⟩
def sF43.f (k : Nat) (a0 : ByteArray) (a1 : ByteArray) : Option (List Int × Bool) := (sF66.f k a0).bind fun t325 => (if t325 = true then ((sF66.f k a1).bind fun t326 => (if t326 = true then (if a1.toList = ([] : List UInt8) then (some ((([] : List Int)), false)) else ((sF62.f k a0 a1).bind fun t330 => (some (t330, true)))) else (some ((([] : List Int)), false)))) else (some ((([] : List Int)), false)))
theorem sF43.mono : ∀ a0 a1 k, LeO (sF43.f k a0 a1) (sF43.f (k + 1) a0 a1) := by
 intro a0 a1 k
 unfold sF43.f
 repeat' with_reducible first | exact sF62.mono _ _ _ | exact sF66.mono _ _ | exact LeO.refl _ | exact LeO.none _ | refine LeO.ite ?_ ?_ | refine LeO.bind ?_ (fun _ => ?_)
theorem sF43.calls (k : Nat) (a0 : ByteArray) (a1 : ByteArray) (r1 : List Int) (r2 : Bool) (w : World) (h : sF43.f k a0 a1 = some (r1, r2)) :
  Calls Tryz.prog 22 #[.string a0, .string a1] w fun e w' => ∃ v0_ : Value, e = .returned (.tuple #[v0_, .bool r2]) ∧ Kd.R (Kd.int .i64) 3 w' w.heap.size (fun _ => True) v0_ r1 ∧ Below w.heap.size w w' := by
 have HB := Aside0.mk (Below.refl w.heap.size w)
 have H : ((sF66.f k a0).bind fun t325 => (if t325 = true then ((sF66.f k a1).bind fun t326 => (if t326 = true then (if a1.toList = ([] : List UInt8) then (some ((([] : List Int)), false)) else ((sF62.f k a0 a1).bind fun t330 => (some (t330, true)))) else (some ((([] : List Int)), false)))) else (some ((([] : List Int)), false)))) = some (r1, r2) := h
 clear h
 replace H := Option.bind_eq_some_iff.mp H
 obtain ⟨t325, A30, H⟩ := H
 replace H : (if t325 = true then ((sF66.f k a1).bind fun t326 => (if t326 = true then (if a1.toList = ([] : List UInt8) then (some ((([] : List Int)), false)) else ((sF62.f k a0 a1).bind fun t330 => (some (t330, true)))) else (some ((([] : List Int)), false)))) else (some ((([] : List Int)), false))) = some (r1, r2) := H
 have A3 := Aside0.mk A30
 clear A30
 by_cases c4 : t325 = true
 rotate_left
 ·
  replace c4 := Bool.eq_false_iff.mpr c4
  subst c4
  replace H : (some ((([] : List Int)), false)) = some (r1, r2) := by rw [if_neg (show ¬ (false = true) by decide)] at H; exact H
  obtain ⟨y336, hy336⟩ : ∃ y_ : List Int, y_ = (([] : List Int)) := ⟨_, rfl⟩
  replace H : (some (y336, false)) = some (r1, r2) := by (try rw [hy336]); first | with_reducible exact H | with_reducible exact oS_ H | exact H
  have Ny336 := Aside0.mk hy336
  clear hy336
  simp only [Option.some.injEq, Prod.mk.injEq] at H
  obtain ⟨rfl, rfl⟩ := H
  go_enter Tryz.func22, Tryz.ntmps22
  go_wp2_with (first | ((with_reducible refine gate_callee (f := 45) rfl ?_); refine goesL_ (some 7) rfl rfl Tryz.func45 (by kernel_rfl) rfl #[.string a0] rfl (by (try simp only [List.map_toArray, List.map_cons, List.map_nil]); first | done | rfl | (simp only [List.length_drop, List.length_take]; rfl)) ?_; (with_reducible refine (sF66.calls k a0 false _ A3.out).mono ?_); rintro e w' ⟨rfl, ⟨nd, rfl⟩⟩; refine ⟨_, rfl, ?_⟩) | ((with_reducible refine gate_dst (N := 18) rfl ?_); refine Kd.R_lit (Kd.int .i64) _ 3 ?hg (N := 18) ?hd (xs := ([] : List Int)) (inner := []) (ok := fun _ => True) (okp := fun _ => True) ?hr ?hp (fun _ hk => hk) trivial (Below.refl _ _) (Nat.le_refl _) (by simp) ?_; (case hd => rfl); (case hg => rfl); (case hr => first | (go_simp; done) | (go_simp; rfl)); (case hp => exact (Reps.none _ _)); intro v337 w14 ho15 hb hg_ hnew_; clear hg_ hnew_; (first | rw [← Ny336.out] at ho15 | (simp only [Int.reduceToNat] at ho15; rw [← Ny336.out] at ho15)); have n0_ := Aside0.mk (Kd.R_lower ho15 (below_size (by repeat (first | (with_reducible first | exact HB.out | apply below_alloc | apply pw_below_drewN | apply below_drew1) | exact HB.out)))); have n1_ := Aside0.mk (below_step (by repeat (first | (with_reducible first | exact HB.out | apply below_alloc | apply pw_below_drewN | apply below_drew1) | exact HB.out)) hb); clear HB; have HO338 := n0_; have HB := n1_; clear n0_ n1_; clear hb ho15))
  go_ret2
  exact ⟨_, by first | rfl | (simp [errW_none, errW_some] <;> rfl) | (simp [*, errW_none, errW_some] <;> rfl), by (with_reducible repeat (first | apply Kd.R_alloc | apply Kd.R_drewN | apply Kd.R_drew)); exact HO338.out, by repeat (first | (with_reducible first | exact HB.out | apply below_alloc | apply pw_below_drewN | apply below_drew1) | exact HB.out)⟩
 subst c4
 replace H : ((sF66.f k a1).bind fun t326 => (if t326 = true then (if a1.toList = ([] : List UInt8) then (some ((([] : List Int)), false)) else ((sF62.f k a0 a1).bind fun t330 => (some (t330, true)))) else (some ((([] : List Int)), false)))) = some (r1, r2) := by rw [if_pos rfl] at H; exact H
 replace H := Option.bind_eq_some_iff.mp H
 obtain ⟨t326, A50, H⟩ := H
 replace H : (if t326 = true then (if a1.toList = ([] : List UInt8) then (some ((([] : List Int)), false)) else ((sF62.f k a0 a1).bind fun t330 => (some (t330, true)))) else (some ((([] : List Int)), false))) = some (r1, r2) := H
 have A5 := Aside0.mk A50
 clear A50
 by_cases c6 : t326 = true
 rotate_left
 ·
  replace c6 := Bool.eq_false_iff.mpr c6
  subst c6
  replace H : (some ((([] : List Int)), false)) = some (r1, r2) := by rw [if_neg (show ¬ (false = true) by decide)] at H; exact H
  obtain ⟨y333, hy333⟩ : ∃ y_ : List Int, y_ = (([] : List Int)) := ⟨_, rfl⟩
  replace H : (some (y333, false)) = some (r1, r2) := by (try rw [hy333]); first | with_reducible exact H | with_reducible exact oS_ H | exact H
  have Ny333 := Aside0.mk hy333
  clear hy333
  simp only [Option.some.injEq, Prod.mk.injEq] at H
  obtain ⟨rfl, rfl⟩ := H
  go_enter Tryz.func22, Tryz.ntmps22
  go_wp2_with (first | ((with_reducible refine gate_callee (f := 45) rfl ?_); refine goesL_ (some 7) rfl rfl Tryz.func45 (by kernel_rfl) rfl #[.string a0] rfl (by (try simp only [List.map_toArray, List.map_cons, List.map_nil]); first | done | rfl | (simp only [List.length_drop, List.length_take]; rfl)) ?_; (with_reducible refine (sF66.calls k a0 true _ A3.out).mono ?_); rintro e w' ⟨rfl, ⟨nd, rfl⟩⟩; refine ⟨_, rfl, ?_⟩) | (go_at_call 45; (with_reducible refine (sF66.calls k a1 false _ A5.out).mono ?_); rintro e w' ⟨rfl, ⟨nd, rfl⟩⟩) | ((with_reducible refine gate_dst (N := 18) rfl ?_); refine Kd.R_lit (Kd.int .i64) _ 3 ?hg (N := 18) ?hd (xs := ([] : List Int)) (inner := []) (ok := fun _ => True) (okp := fun _ => True) ?hr ?hp (fun _ hk => hk) trivial (Below.refl _ _) (Nat.le_refl _) (by simp) ?_; (case hd => rfl); (case hg => rfl); (case hr => first | (go_simp; done) | (go_simp; rfl)); (case hp => exact (Reps.none _ _)); intro v334 w12 ho13 hb hg_ hnew_; clear hg_ hnew_; (first | rw [← Ny333.out] at ho13 | (simp only [Int.reduceToNat] at ho13; rw [← Ny333.out] at ho13)); have n0_ := Aside0.mk (Kd.R_lower ho13 (below_size (by repeat (first | (with_reducible first | exact HB.out | apply below_alloc | apply pw_below_drewN | apply below_drew1) | exact HB.out)))); have n1_ := Aside0.mk (below_step (by repeat (first | (with_reducible first | exact HB.out | apply below_alloc | apply pw_below_drewN | apply below_drew1) | exact HB.out)) hb); clear HB; have HO335 := n0_; have HB := n1_; clear n0_ n1_; clear hb ho13))
  go_ret2
  exact ⟨_, by first | rfl | (simp [errW_none, errW_some] <;> rfl) | (simp [*, errW_none, errW_some] <;> rfl), by (with_reducible repeat (first | apply Kd.R_alloc | apply Kd.R_drewN | apply Kd.R_drew)); exact HO335.out, by repeat (first | (with_reducible first | exact HB.out | apply below_alloc | apply pw_below_drewN | apply below_drew1) | exact HB.out)⟩
 subst c6
 replace H : (if a1.toList = ([] : List UInt8) then (some ((([] : List Int)), false)) else ((sF62.f k a0 a1).bind fun t330 => (some (t330, true)))) = some (r1, r2) := by rw [if_pos rfl] at H; exact H
 by_cases c7 : a1.toList = ([] : List UInt8)
 ·
  rw [if_pos c7] at H
  have c7b0 : (a1.toList == ([] : List UInt8)) = true := beq_iff_eq.mpr c7
  have c7b1 : (a1.toList != ([] : List UInt8)) = false := bne_eq_false_iff_eq.mpr c7
  clear c7
  obtain ⟨y327, hy327⟩ : ∃ y_ : List Int, y_ = (([] : List Int)) := ⟨_, rfl⟩
  replace H : (some (y327, false)) = some (r1, r2) := by (try rw [hy327]); first | with_reducible exact H | with_reducible exact oS_ H | exact H
  have Ny327 := Aside0.mk hy327
  clear hy327
  simp only [Option.some.injEq, Prod.mk.injEq] at H
  obtain ⟨rfl, rfl⟩ := H
  go_enter Tryz.func22, Tryz.ntmps22
  go_wp2_with (first | ((with_reducible refine gate_callee (f := 45) rfl ?_); refine goesL_ (some 7) rfl rfl Tryz.func45 (by kernel_rfl) rfl #[.string a0] rfl (by (try simp only [List.map_toArray, List.map_cons, List.map_nil]); first | done | rfl | (simp only [List.length_drop, List.length_take]; rfl)) ?_; (with_reducible refine (sF66.calls k a0 true _ A3.out).mono ?_); rintro e w' ⟨rfl, ⟨nd, rfl⟩⟩; refine ⟨_, rfl, ?_⟩) | (go_at_call 45; (with_reducible refine (sF66.calls k a1 true _ A5.out).mono ?_); rintro e w' ⟨rfl, ⟨nd, rfl⟩⟩) | ((with_reducible refine gate_dst (N := 18) rfl ?_); refine Kd.R_lit (Kd.int .i64) _ 3 ?hg (N := 18) ?hd (xs := ([] : List Int)) (inner := []) (ok := fun _ => True) (okp := fun _ => True) ?hr ?hp (fun _ hk => hk) trivial (Below.refl _ _) (Nat.le_refl _) (by simp) ?_; (case hd => rfl); (case hg => rfl); (case hr => first | (go_simp; done) | (go_simp; rfl)); (case hp => exact (Reps.none _ _)); intro v328 w8 ho9 hb hg_ hnew_; clear hg_ hnew_; (first | rw [← Ny327.out] at ho9 | (simp only [Int.reduceToNat] at ho9; rw [← Ny327.out] at ho9)); have n0_ := Aside0.mk (Kd.R_lower ho9 (below_size (by repeat (first | (with_reducible first | exact HB.out | apply below_alloc | apply pw_below_drewN | apply below_drew1) | exact HB.out)))); have n1_ := Aside0.mk (below_step (by repeat (first | (with_reducible first | exact HB.out | apply below_alloc | apply pw_below_drewN | apply below_drew1) | exact HB.out)) hb); clear HB; have HO329 := n0_; have HB := n1_; clear n0_ n1_; clear hb ho9))
  go_ret2
  exact ⟨_, by first | rfl | (simp [errW_none, errW_some] <;> rfl) | (simp [*, errW_none, errW_some] <;> rfl), by (with_reducible repeat (first | apply Kd.R_alloc | apply Kd.R_drewN | apply Kd.R_drew)); exact HO329.out, by repeat (first | (with_reducible first | exact HB.out | apply below_alloc | apply pw_below_drewN | apply below_drew1) | exact HB.out)⟩
 rw [if_neg c7] at H
 have c7b0 : (a1.toList == ([] : List UInt8)) = false := beq_eq_false_iff_ne.mpr c7
 have c7b1 : (a1.toList != ([] : List UInt8)) = true := bne_iff_ne.mpr c7
 replace H := Option.bind_eq_some_iff.mp H
 obtain ⟨t330, A100, H⟩ := H
 replace H : (some (t330, true)) = some (r1, r2) := H
 have A10 := Aside0.mk A100
 clear A100
 simp only [Option.some.injEq, Prod.mk.injEq] at H
 obtain ⟨rfl, rfl⟩ := H
 go_enter Tryz.func22, Tryz.ntmps22
 go_wp2_with (first | ((with_reducible refine gate_callee (f := 45) rfl ?_); refine goesL_ (some 7) rfl rfl Tryz.func45 (by kernel_rfl) rfl #[.string a0] rfl (by (try simp only [List.map_toArray, List.map_cons, List.map_nil]); first | done | rfl | (simp only [List.length_drop, List.length_take]; rfl)) ?_; (with_reducible refine (sF66.calls k a0 true _ A3.out).mono ?_); rintro e w' ⟨rfl, ⟨nd, rfl⟩⟩; refine ⟨_, rfl, ?_⟩) | (go_at_call 45; (with_reducible refine (sF66.calls k a1 true _ A5.out).mono ?_); rintro e w' ⟨rfl, ⟨nd, rfl⟩⟩) | ((with_reducible refine gate_callee (f := 59) rfl ?_); refine goesL_ (some 21) rfl rfl Tryz.func59 (by kernel_rfl) rfl #[.string a0, .string a1] rfl (by (try simp only [List.map_toArray, List.map_cons, List.map_nil]); first | done | rfl | (simp only [List.length_drop, List.length_take]; rfl)) ?_; (with_reducible refine (sF62.calls k a0 a1 t330 _ A10.out).mono ?_); rintro e w11 ⟨v331, rfl, ho0, hb⟩; refine ⟨_, rfl, ?_⟩; have n0_ := Aside0.mk (Kd.R_lower ho0 (below_size (by repeat (first | (with_reducible first | exact HB.out | apply below_alloc | apply pw_below_drewN | apply below_drew1) | exact HB.out)))); have n1_ := Aside0.mk (below_step (by repeat (first | (with_reducible first | exact HB.out | apply below_alloc | apply pw_below_drewN | apply below_drew1) | exact HB.out)) hb); clear HB; have HO332 := n0_; have HB := n1_; clear n0_ n1_; (try clear hb); (try clear hb2); (try clear hk); (try clear hi); (try clear ho0)))
 go_ret2
 exact ⟨_, by first | rfl | (simp [errW_none, errW_some] <;> rfl) | (simp [*, errW_none, errW_some] <;> rfl), by (with_reducible repeat (first | apply Kd.R_alloc | apply Kd.R_drewN | apply Kd.R_drew)); exact HO332.out, by repeat (first | (with_reducible first | exact HB.out | apply below_alloc | apply pw_below_drewN | apply below_drew1) | exact HB.out)⟩
set_option maxHeartbeats 2000000 in
theorem xF1.calls (p : ByteArray → Bool) (g : Nat) (lb : Array Value) (eg : ∀ args w, (callFunc g args).run Tryz.prog w = .ok (.enter g args) w) (A0 : Option Addr) (c0 : Nat) (l0 : List ByteArray) (w : World)
  (hr0 : Kd.C Kd.string w A0 l0.length l0) (hbig : l0.length ≤ 9223372036854775807) (hp : PredBS Tryz.prog g lb Value.string p l0 w) :
  Calls Tryz.prog 86 #[.slice A0 l0.length c0, .func (.func g) #[] lb] w fun e w' => e = .returned (.bool (l0.any p)) ∧ Below w.heap.size w w' := by
 have HC := Aside0.mk (xF3.calls p g lb eg A0 c0 l0 w hr0 hbig hp)
 clear hp hr0
 go_enter Tryz.func86, Tryz.ntmps86
 go_wp2_with (go_at_call 93; refine HC.out.mono ?_; rintro e w' ⟨rfl, hb0⟩; have hb := Aside0.mk hb0; clear hb0)
 go_ret
 exact ⟨by rw [← idxByS_any p l0 0]; rfl, hb.out⟩
def iF21.f (a0 : ByteArray) : Option (Bool) := if (a0.size : Int) ≤ 12 then ((iF17.f a0).bind fun t339 => (some t339)) else (some false)
theorem iF21.calls (a0 : ByteArray) (r : Bool) (w : World) (h : iF21.f a0 = some r) :
  Calls Tryz.prog 88 #[.string a0] w fun e w' => e = .returned (.bool r) ∧ Below w.heap.size w w' := by
 have HB := Aside0.mk (Below.refl w.heap.size w)
 have H : (if (a0.size : Int) ≤ 12 then ((iF17.f a0).bind fun t339 => (some t339)) else (some false)) = some r := h
 clear h
 by_cases c2 : (a0.size : Int) ≤ 12
 ·
  rw [if_pos c2] at H
  have c2b0 : decide ((a0.size : Int) ≤ 12) = true := dT_ c2
  have c2b1 : decide (a0.size ≤ 12) = true := dT_ (by omega)
  clear c2
  replace H := Option.bind_eq_some_iff.mp H
  obtain ⟨t339, A30, H⟩ := H
  replace H : (some t339) = some r := H
  have A3 := Aside0.mk A30
  clear A30
  obtain rfl := Option.some.inj H
  go_enter Tryz.func88, Tryz.ntmps88
  go_wp2_with (first | (go_at_call 78; (with_reducible refine (iF17.calls a0 t339 _ A3.out).mono ?_); rintro e w4 ⟨rfl, hb⟩; have n0_ := Aside0.mk (below_step (by repeat (first | (with_reducible first | exact HB.out | apply below_alloc | apply pw_below_drewN | apply below_drew1) | exact HB.out)) hb); clear HB; have HB := n0_; clear n0_; (try clear hb); (try clear hb2); (try clear hk); (try clear hi)))
  go_ret
  exact ⟨by first | rfl | (simp [errW_none, errW_some] <;> rfl) | (simp [*, errW_none, errW_some] <;> rfl), by repeat (first | (with_reducible first | exact HB.out | apply below_alloc | apply pw_below_drewN | apply below_drew1) | exact HB.out)⟩
 rw [if_neg c2] at H
 have c2b0 : decide ((a0.size : Int) ≤ 12) = false := dF_ c2
 have c2b1 : decide (a0.size ≤ 12) = false := dF_ (by omega)
 clear c2
 obtain rfl := Option.some.inj H
 go_enter Tryz.func88, Tryz.ntmps88
 go_wp2
 go_ret
 exact ⟨by first | rfl | (simp [errW_none, errW_some] <;> rfl) | (simp [*, errW_none, errW_some] <;> rfl), by repeat (first | (with_reducible first | exact HB.out | apply below_alloc | apply pw_below_drewN | apply below_drew1) | exact HB.out)⟩
def iF16.p (x : ByteArray) : Option Bool := (iF21.f x).bind fun b => some (!b)
def iF16.f (l0 : List ByteArray) : Option Bool := anyf iF16.p l0
set_option maxHeartbeats 1000000 in
theorem iF16.lit (x : ByteArray) (b : Bool) (W : World) (h : iF16.p x = some b) : Calls Tryz.prog 87 #[.string x] W fun e W' => e = .returned (.bool b) ∧ Below W.heap.size W W' := by
 unfold iF16.p at h
 obtain ⟨c, hc, h⟩ := Option.bind_eq_some_iff.1 h
 have HC := Aside0.mk (iF21.calls x c W hc)
 obtain rfl := Option.some.inj h
 clear h hc
 go_enter Tryz.func87, Tryz.ntmps87
 go_wp2_with fail
 refine HC.out.mono ?_
 rintro e W' ⟨rfl, hb⟩
 have HB := Aside0.mk hb
 clear hb
 go_wp2_with fail
 go_ret
 exact ⟨rfl, HB.out⟩
theorem iF16.calls (A0 : Option Addr) (c0 : Nat) (l0 : List ByteArray) (r : Bool) (w : World) (hr0 : Kd.C Kd.string w A0 l0.length l0) (hc0 : l0.length ≤ c0) (h : iF16.f l0 = some r) :
  Calls Tryz.prog 86 #[.slice A0 l0.length c0, .func (.func 87) #[] #[]] w fun e w' => e = .returned (.bool r) ∧ Below w.heap.size w w' := by
 obtain ⟨q, hq, rfl⟩ := anyf_some h
 refine xF1.calls q 87 #[] (Go.Proofs.enters_of Tryz.func87 (by kernel_rfl) rfl) A0 c0 l0 w hr0 hr0.2.1 ?_
 intro W x hx _
 exact iF16.lit x (q x) W (hq x hx)
end Go.Proofs.YtblcdgnihmcdpaaGreatDoor.P
namespace Go.Proofs.YtblcdgnihmcdpaaGreatDoor.P
open Go.RowKit Go.Proofs.YtblcdgnihmcdpaaGreatDoorW.PrintWords Go.Proofs.YtblcdgnihmcdpaaGreatDoorW.PrintLast Go.Proofs.YtblcdgnihmcdpaaGreatDoorW.PrintMore
attribute [local go_sem] max2_int min2_int max_two min_two max_three min_three max_four min_four
open Go.Maps
namespace SM
theorem law : Keyed Tryz.prog 9 := string_keyed Tryz.underlying9
theorem zeroE (w : World) : (zeroValue 3).run Tryz.prog w = .ok (.int .i64 0) w := by kernel_rfl
noncomputable abbrev elem : Value → Option (DataW Unit × List MemPlace) := plainElem Tryz.prog 3
def dat : List ByteArray → DataW Unit
 | [] => .map []
 | x :: r => (dat r).put (.string x.data.toList) (.lit (.int .i64 (r.length : Int)))
def atR : List ByteArray → ByteArray → Int
 | [], _ => 0
 | x :: r, p => if x.data.toList = p.data.toList then (r.length : Int) else atR r p
def at_ (l : List ByteArray) (p : ByteArray) : Int := atR l.reverse p
theorem isMap : ∀ l, IsMap (dat l)
 | [] => ⟨[], rfl⟩
 | x :: r => by
  obtain ⟨es, h⟩ := isMap r
  rw [dat, h]
  exact ⟨_, rfl⟩
theorem dat_at : ∀ (l : List ByteArray) (p : ByteArray), (dat l).atKey (.string p.data.toList) (.lit (.int .i64 0)) = .lit (.int .i64 (atR l p))
 | [], _ => rfl
 | x :: r, p => by
  by_cases h : x.data.toList = p.data.toList
  ·
   rw [atR, if_pos h, dat, h]
   exact atKey_put_same (isMap r) (show Go.WideAt.IsKeyLit (.string _) from trivial) _ _
  rw [atR, if_neg h, dat]
  refine (atKey_put_other (fun e => h ?_) _ _).trans (dat_at r p)
  injection e with e
  exact e.symm
def Is (w : World) (b : Nat) (l : List ByteArray) : Prop := w.ownsMap Tryz.prog 9 elem b l.length (dat l.reverse)
theorem Is.made (w : World) : Is (w.alloc (.map #[] 0)) w.heap.size [] := World.ownsMap_made w _ _ _
theorem Is.obj {w : World} {b : Nat} {l : List ByteArray} (h : Is w b l) : ∃ es ck, w.heap[b]? = some (.map es ck) := by
 obtain ⟨es, ck, hb, _⟩ := h
 exact ⟨es, ck, hb⟩
theorem Is.moved {w w1 : World} {b : Nat} {l : List ByteArray} (h : Is w b l) (e : w1.heap[b]? = w.heap[b]?) : Is w1 b l := by
 obtain ⟨es, ck, hb, F, hs, hD⟩ := h
 exact ⟨es, ck, e.trans hb, F, hs, hD⟩
theorem Is.lt {w : World} {b : Nat} {l : List ByteArray} (h : Is w b l) : b < w.heap.size := World.ownsMap.lt h
theorem Is.below {w w1 : World} {b : Nat} {l : List ByteArray} (h : Is w b l) (hb : Below w.heap.size w w1) : Is w1 b l := h.moved (hb.block b h.lt)
theorem Is.alloc {w : World} {b : Nat} {l : List ByteArray} (h : Is w b l) (o : Obj) : Is (w.alloc o) b l := World.ownsMap.alloc h o
theorem Is.drewN {w : World} {b : Nat} {l : List ByteArray} (h : Is w b l) (n : Nat) : Is (w.drewN n) b l := h.moved rfl
theorem Is.drew {w : World} {b : Nat} {l : List ByteArray} (h : Is w b l) : Is w.drew b l := h.moved rfl
theorem Is.far {w : World} {b : Nat} {l : List ByteArray} (h : Is w b l) {p : Addr} (hp : b ≠ p.block) (u : Value) : Is (w.setCell p u) b l := h.moved (Below.heap_setCell w p u b hp)
theorem Is.grown {w w1 : World} {b : Nat} {l : List ByteArray} {row : Option Nat} (h : Is w b l) (hg : w.grownBy w1 row) (hne : some b ≠ row) : Is w1 b l := h.moved (hg.block b h.lt hne)
theorem Is.ne {α : Type} {d : Kd α} {e base : Nat} {ok : Nat → Prop} {w : World} {v : Value} {xs : List α} {b : Nat} {l : List ByteArray} (h : Is w b l) (hr : d.R e w base ok v xs) : some b ≠ v.ownBlock := fun e_ => by
 obtain ⟨es, ck, hb⟩ := h.obj
 obtain ⟨cells, hc⟩ := Kd.R_typed hr b e_.symm
 rw [hb] at hc
 cases hc
theorem Is.ne_block {w : World} {b g t : Nat} {cs : Array Value} {l : List ByteArray} (h : Is w b l) (hc : w.heap[g]? = some (.cells cs t (0, 0))) : b ≠ g := fun e_ => by
 obtain ⟨es, ck, hb⟩ := h.obj
 subst e_
 rw [hb] at hc
 cases hc
theorem R_over {α : Type} {d : Kd α} {e base : Nat} {ok : Nat → Prop} {w w1 : World} {v : Value} {xs : List α} {b : Nat} {l : List ByteArray} (hr : d.R e w base ok v xs) (h : Is w b l) (hg : w.grownBy w1 (some b)) : d.R e w1 base ok v xs := by
 refine Kd.R_mono (Kd.R_move (Kd.R_bound hr) (fun k hk => hg.block k hk.2.2.1 (fun he => ?_))) (fun _ hk => hk.1)
 obtain ⟨_, _, _, q, hq, cells, hc⟩ := hk
 obtain ⟨es, ck, hb⟩ := h.obj
 cases he
 rw [hb] at hc
 cases hc
theorem put {w : World} {ops : Array Oper} {rest : List Oper} {o : Oper} {a : Act} {Q : Exit → Act → World → Prop} (hg : o.guard = none) (m x v : Operand) (t : TypeId) (ht : Tryz.prog.underlying t = some (.map 9 3)) (hop : o.op = Op.mapUpdate t m x v)
  (b : Nat) (l : List ByteArray) (hm : a.eval m = .map (some b)) (h : Is w b l) (hn : l.length < 4294967296) (p : ByteArray) (hp : p.size ≤ maxLen) (hx : a.eval x = .string p) (hv : a.eval v = .int .i64 (l.length : Int))
  (hK : ∀ w', Is w' b (l ++ [p]) → w.grownBy w' (some b) → wpList Tryz.prog ops Q rest (a.put o.dst undef) w') : wpList Tryz.prog ops Q (o :: rest) a w := by
 refine wpList_mapUpdate_own w hg m x v t hop 9 3 law ht elem b l.length (dat l.reverse) hm h (by unfold maxLen; omega) (.string p) (.int .i64 (l.length : Int)) (.string p.data.toList) hx hv (Go.WideMaps.keyOf_string_mk Tryz.underlying9 hp) (.lit (.int .i64 (l.length : Int))) [] (plainElem_int Tryz.underlying3 (WalkArith.wf_i64 ⟨by omega, by omega⟩)) ?_
 intro w1 h1 h2
 refine hK w1 ?_ h2
 unfold Is
 rw [List.length_append, List.reverse_append]
 show w1.ownsMap _ _ _ b (l.length + 1) ((dat l.reverse).put _ (.lit (.int .i64 (l.reverse.length : Int))))
 rw [List.length_reverse]
 exact h1
theorem get {w : World} {b : Nat} {l : List ByteArray} (h : Is w b l) (t : TypeId) (ht : Tryz.prog.underlying t = some (.map 9 3)) (p : ByteArray) (hp : p.size ≤ maxLen) :
  (Instr.lookup t (.map (some b)) (.string p) false).run Tryz.prog w = .ok (.int .i64 (at_ l p)) w := by
 obtain ⟨c, hrun, hat, _⟩ := World.ownsMap.lookup_int h law ht Tryz.underlying3 (zeroE w) (Go.WideMaps.keyOf_string_mk Tryz.underlying9 hp)
 rw [dat_at] at hat
 simp only [DataW.lit.injEq, Lit.int.injEq, true_and] at hat
 have e1 : at_ l p = c := hat
 rw [e1]
 exact hrun
def has_ (l : List ByteArray) (p : ByteArray) : Bool := l.any fun x => decide (x.data.toList = p.data.toList)
theorem has_cons (x : ByteArray) (r : List ByteArray) (p : ByteArray) : has_ (x :: r) p = (decide (x.data.toList = p.data.toList) || has_ r p) := rfl
theorem dat_at2 : ∀ (l : List ByteArray) (p : ByteArray) (z : DataW Unit), (dat l).atKey (.string p.data.toList) z = if has_ l p = true then .lit (.int .i64 (atR l p)) else z
 | [], _, _ => rfl
 | x :: r, p, z => by
  by_cases h : x.data.toList = p.data.toList
  ·
   rw [if_pos (by rw [has_cons, decide_eq_true h]; rfl), atR, if_pos h, dat, h]
   exact atKey_put_same (isMap r) (show Go.WideAt.IsKeyLit (.string _) from trivial) _ _
  rw [dat, atR, if_neg h, show has_ (x :: r) p = has_ r p from by rw [has_cons, decide_eq_false h]; rfl]
  refine (atKey_put_other (fun e => h ?_) _ _).trans (dat_at2 r p z)
  injection e with e
  exact e.symm
theorem atR_none : ∀ (l : List ByteArray) (p : ByteArray), has_ l p = false → atR l p = 0
 | [], _, _ => rfl
 | x :: r, p, h => by
  rw [has_cons, Bool.or_eq_false_iff] at h
  rw [atR, if_neg (of_decide_eq_false h.1)]
  exact atR_none r p h.2
theorem get2 {w : World} {b : Nat} {l : List ByteArray} (h : Is w b l) (t : TypeId) (ht : Tryz.prog.underlying t = some (.map 9 3)) (p : ByteArray) (hp : p.size ≤ maxLen) :
  (Instr.lookup t (.map (some b)) (.string p) true).run Tryz.prog w = .ok (.tuple #[.int .i64 (at_ l p), .bool (has_ l p)]) w := by
 have hrev : has_ l.reverse p = has_ l p := List.any_reverse
 obtain ⟨es, ck, hb, F, hs, hD⟩ := h
 rcases Maps.fit_look true law ht (zeroE w) hb F (Go.WideMaps.keyOf_string_mk Tryz.underlying9 hp) with ⟨hrun, _, hat⟩ | ⟨e0, y, _, _, hrun, hRv, hat, _⟩
 ·
  have h0 := hat .nil
  rw [← hD, dat_at2, hrev] at h0
  cases hh : has_ l p with
  | true => rw [hh, if_pos rfl] at h0; cases h0
  | false =>
   have e : at_ l p = 0 := atR_none _ _ (hrev.trans hh)
   rw [e]
   exact hrun
 obtain ⟨c, hc, rfl, _⟩ := plainElem_int_inv Tryz.underlying3 hRv
 have h0 := hat .nil
 rw [← hD, dat_at2, hrev] at h0
 cases hh : has_ l p with
 | true =>
  rw [hh, if_pos rfl] at h0
  simp only [DataW.lit.injEq, Lit.int.injEq, true_and] at h0
  have e : at_ l p = c := h0
  rw [e, ← hc]
  exact hrun
 | false => rw [hh, if_neg Bool.false_ne_true] at h0; cases h0
theorem put_step {w : World} {b : Nat} {l : List ByteArray} (h : Is w b l) (t : TypeId) (ht : Tryz.prog.underlying t = some (.map 9 3)) (hn : l.length < 4294967296) (p : ByteArray) (hp : p.size ≤ maxLen) :
  ∃ w', (Instr.mapUpdate t (.map (some b)) (.string p) (.int .i64 (l.length : Int))).run Tryz.prog w = .ok () w' ∧ Is w' b (l ++ [p]) ∧ w.grownBy w' (some b) := by
 obtain ⟨w', h1, h2, h3⟩ := World.ownsMap.update (val := .int .i64 (l.length : Int)) (d := .lit (.int .i64 (l.length : Int))) (ps := []) h law ht (by unfold maxLen; omega) (Go.WideMaps.keyOf_string_mk Tryz.underlying9 hp) (plainElem_int Tryz.underlying3 (WalkArith.wf_i64 ⟨by omega, by omega⟩))
 refine ⟨w', h1, ?_, h3⟩
 unfold Is
 rw [List.length_append, List.reverse_append]
 show w'.ownsMap _ _ _ b (l.length + 1) ((dat l.reverse).put _ (.lit (.int .i64 (l.reverse.length : Int))))
 rw [List.length_reverse]
 exact h2
theorem made {W : World} {ops : Array Oper} {rest : List Oper} {o : Oper} {a : Act} {Q : Exit → Act → World → Prop} (hgd : o.guard = none) {N : Tmp} (_hd : o.dst = some N)
  (hrun : (execOp a.eval o).run Tryz.prog W = .ok (.value (.map (some W.heap.size))) (W.alloc (.map #[] 0)))
  (h : ∀ g, g = W.heap.size → ∀ w1, Is w1 g [] → Below W.heap.size W w1 → wpList Tryz.prog ops Q rest (a.put o.dst (.map (some g))) w1) : wpList Tryz.prog ops Q (o :: rest) a W :=
 Kd.event_run hgd hrun (h _ rfl _ (Is.made W) (below_alloc (Below.refl _ _) _))
def okL (l : List ByteArray) : Bool := (l.all fun s_ => decide (s_.size ≤ 4294967296)) && decide (l.length ≤ 4294967296)
theorem okL.size {l : List ByteArray} (h : okL l = true) (i : Int) (h0 : 0 ≤ i) (h1 : i < (l.length : Int)) : (rdOf ByteArray.empty l i).size ≤ 4294967296 := by
 unfold okL at h
 rw [Bool.and_eq_true] at h
 have hi : i.toNat < l.length := by omega
 have hm : rdOf ByteArray.empty l i ∈ l := by
  unfold rdOf
  rw [List.getD_eq_getElem?_getD, List.getElem?_eq_getElem hi]
  exact List.getElem_mem _
 simpa using List.all_eq_true.1 h.1 _ hm
theorem okL.len {l : List ByteArray} (h : okL l = true) : l.length ≤ 4294967296 := by
 unfold okL at h
 rw [Bool.and_eq_true] at h
 simpa using h.2
theorem size_ext (s : ByteArray) (i : Nat) (h : s.size ≤ 4294967296) : (s.extract 0 i).size ≤ maxLen := by
 rw [ByteArray.size_extract]
 unfold maxLen
 omega
theorem take_rd (l : List ByteArray) (i : Int) (h0 : 0 ≤ i) (h1 : i < (l.length : Int)) : List.take i.toNat l ++ [rdOf ByteArray.empty l i] = List.take (i.toNat + 1) l := by
 have hi : i.toNat < l.length := by omega
 rw [List.take_succ_eq_append_getElem hi]
 unfold rdOf
 rw [List.getD_eq_getElem?_getD, List.getElem?_eq_getElem hi]
 rfl
theorem next_rd (l : List ByteArray) (i : Int) {lm : List ByteArray} (lm2 : List ByteArray) (h1 : lm2 = lm ++ [rdOf ByteArray.empty l i]) (h2 : lm ++ [rdOf ByteArray.empty l i] = List.take (i.toNat + 1) l) (h3 : (lm.length : Int) = i) (h4 : lm.length < l.length) (h5 : okL l = true) : List.take ((wrap64 (i + 1) : Int).toNat) l = lm2 := by
 have h6 := okL.len h5
 have hw : wrap64 (i + 1) = i + 1 := by unfold wrap64; omega
 rw [hw, h1, h2]
 congr 1
 omega
end SM
end Go.Proofs.YtblcdgnihmcdpaaGreatDoor.P
namespace Go.Proofs.YtblcdgnihmcdpaaGreatDoor.P
open Go.RowKit Go.Proofs.YtblcdgnihmcdpaaGreatDoorW.PrintWords Go.Proofs.YtblcdgnihmcdpaaGreatDoorW.PrintLast Go.Proofs.YtblcdgnihmcdpaaGreatDoorW.PrintMore
attribute [local go_sem] max2_int min2_int max_two min_two max_three min_three max_four min_four
def xF6.f (a0 : ByteArray) : Option (Bool) := some (a0.toList != a0.toList)
theorem xF6.calls (a0 : ByteArray) (r : Bool) (w : World) (h : xF6.f a0 = some r) :
  Calls Tryz.prog 157 #[.string a0] w fun e w' => e = .returned (.bool r) ∧ Drawn0 w w' := by
 have H : (some (a0.toList != a0.toList)) = some r := h
 clear h
 obtain rfl := Option.some.inj H
 go_enter Tryz.func157, Tryz.ntmps157
 go_wp2
 go_ret
 exact ⟨by first | rfl | (simp; done) | (simp [*]; done), by repeat (first | exact Drawn0.refl _ | apply Drawn0.step)⟩
def xF5.f (a0 : ByteArray) (a1 : ByteArray) : Option (Bool) := (xF6.f a0).bind fun t340 => (if t340 = true then ((xF6.f a1).bind fun t341 => (if t341 = true then (some (Op.bytesLess a0.toList a1.toList)) else (some true))) else (some (Op.bytesLess a0.toList a1.toList)))
theorem xF5.calls (a0 : ByteArray) (a1 : ByteArray) (r : Bool) (w : World) (h : xF5.f a0 a1 = some r) :
  Calls Tryz.prog 141 #[.string a0, .string a1] w fun e w' => e = .returned (.bool r) ∧ Drawn0 w w' := by
 have H : ((xF6.f a0).bind fun t340 => (if t340 = true then ((xF6.f a1).bind fun t341 => (if t341 = true then (some (Op.bytesLess a0.toList a1.toList)) else (some true))) else (some (Op.bytesLess a0.toList a1.toList)))) = some r := h
 clear h
 replace H := Option.bind_eq_some_iff.mp H
 obtain ⟨t340, A30, H⟩ := H
 replace H : (if t340 = true then ((xF6.f a1).bind fun t341 => (if t341 = true then (some (Op.bytesLess a0.toList a1.toList)) else (some true))) else (some (Op.bytesLess a0.toList a1.toList))) = some r := H
 have A3 := Aside0.mk A30
 clear A30
 by_cases c4 : t340 = true
 rotate_left
 ·
  replace c4 := Bool.eq_false_iff.mpr c4
  subst c4
  replace H : (some (Op.bytesLess a0.toList a1.toList)) = some r := by rw [if_neg (show ¬ (false = true) by decide)] at H; exact H
  obtain rfl := Option.some.inj H
  go_enter Tryz.func141, Tryz.ntmps141
  go_wp2_with (first | ((with_reducible refine gate_callee (f := 157) rfl ?_); refine goesL_ (some 6) rfl rfl Tryz.func157 (by kernel_rfl) rfl #[.string a0] rfl (by (try simp only [List.map_toArray, List.map_cons, List.map_nil]); first | done | rfl | (simp only [List.length_drop, List.length_take]; rfl)) ?_; (with_reducible refine (xF6.calls a0 false _ A3.out).mono ?_); rintro e w' ⟨rfl, ⟨nd, rfl⟩⟩; refine ⟨_, rfl, ?_⟩))
  go_ret
  exact ⟨by first | rfl | (simp; done) | (simp [*]; done), by repeat (first | exact Drawn0.refl _ | apply Drawn0.step)⟩
 subst c4
 replace H : ((xF6.f a1).bind fun t341 => (if t341 = true then (some (Op.bytesLess a0.toList a1.toList)) else (some true))) = some r := by rw [if_pos rfl] at H; exact H
 replace H := Option.bind_eq_some_iff.mp H
 obtain ⟨t341, A50, H⟩ := H
 replace H : (if t341 = true then (some (Op.bytesLess a0.toList a1.toList)) else (some true)) = some r := H
 have A5 := Aside0.mk A50
 clear A50
 by_cases c6 : t341 = true
 ·
  subst c6
  replace H : (some (Op.bytesLess a0.toList a1.toList)) = some r := by rw [if_pos rfl] at H; exact H
  obtain rfl := Option.some.inj H
  go_enter Tryz.func141, Tryz.ntmps141
  go_wp2_with (first | ((with_reducible refine gate_callee (f := 157) rfl ?_); refine goesL_ (some 6) rfl rfl Tryz.func157 (by kernel_rfl) rfl #[.string a0] rfl (by (try simp only [List.map_toArray, List.map_cons, List.map_nil]); first | done | rfl | (simp only [List.length_drop, List.length_take]; rfl)) ?_; (with_reducible refine (xF6.calls a0 true _ A3.out).mono ?_); rintro e w' ⟨rfl, ⟨nd, rfl⟩⟩; refine ⟨_, rfl, ?_⟩) | (go_at_call 157; (with_reducible refine (xF6.calls a1 true _ A5.out).mono ?_); rintro e w' ⟨rfl, ⟨nd, rfl⟩⟩))
  go_ret
  exact ⟨by first | rfl | (simp; done) | (simp [*]; done), by repeat (first | exact Drawn0.refl _ | apply Drawn0.step)⟩
 replace c6 := Bool.eq_false_iff.mpr c6
 subst c6
 replace H : (some true) = some r := by rw [if_neg (show ¬ (false = true) by decide)] at H; exact H
 obtain rfl := Option.some.inj H
 go_enter Tryz.func141, Tryz.ntmps141
 go_wp2_with (first | ((with_reducible refine gate_callee (f := 157) rfl ?_); refine goesL_ (some 6) rfl rfl Tryz.func157 (by kernel_rfl) rfl #[.string a0] rfl (by (try simp only [List.map_toArray, List.map_cons, List.map_nil]); first | done | rfl | (simp only [List.length_drop, List.length_take]; rfl)) ?_; (with_reducible refine (xF6.calls a0 true _ A3.out).mono ?_); rintro e w' ⟨rfl, ⟨nd, rfl⟩⟩; refine ⟨_, rfl, ?_⟩) | (go_at_call 157; (with_reducible refine (xF6.calls a1 false _ A5.out).mono ?_); rintro e w' ⟨rfl, ⟨nd, rfl⟩⟩))
 go_ret
 exact ⟨by first | rfl | (simp; done) | (simp [*]; done), by repeat (first | exact Drawn0.refl _ | apply Drawn0.step)⟩
def xF35.f (a0 : ByteArray) : Option (Bool) := some (a0.toList != a0.toList)
theorem xF35.calls (a0 : ByteArray) (r : Bool) (w : World) (h : xF35.f a0 = some r) :
  Calls Tryz.prog 142 #[.string a0] w fun e w' => e = .returned (.bool r) ∧ Drawn0 w w' := by
 have H : (some (a0.toList != a0.toList)) = some r := h
 clear h
 obtain rfl := Option.some.inj H
 go_enter Tryz.func142, Tryz.ntmps142
 go_wp2
 go_ret
 exact ⟨by first | rfl | (simp; done) | (simp [*]; done), by repeat (first | exact Drawn0.refl _ | apply Drawn0.step)⟩
def xF34.l0 : Nat → List ByteArray → ByteArray → Int → Int → Int → Option (Int × Bool)
 | 0, _, _, _, _, _ => none
 | k + 1, x0, x1, x6, x7, x8 => if x7 < x8 then (if 0 ≤ (wrap64 ((IntKind.u64.wrap (wrap64 (x7 + x8))) / 2)) then (if (wrap64 ((IntKind.u64.wrap (wrap64 (x7 + x8))) / 2)) < (x0.length : Int) then ((xF5.f (rdOf ByteArray.empty x0 (wrap64 ((IntKind.u64.wrap (wrap64 (x7 + x8))) / 2))) x1).bind fun t343 => (if t343 = true then (xF34.l0 k x0 x1 x6 (wrap64 ((wrap64 ((IntKind.u64.wrap (wrap64 (x7 + x8))) / 2)) + 1)) x8) else (xF34.l0 k x0 x1 x6 x7 (wrap64 ((IntKind.u64.wrap (wrap64 (x7 + x8))) / 2))))) else (none)) else (none)) else (if x7 < x6 then (if 0 ≤ x7 then (if x7 < (x0.length : Int) then (if (rdOf ByteArray.empty x0 x7).toList = x1.toList then (some (x7, true)) else ((xF35.f (rdOf ByteArray.empty x0 x7)).bind fun t346 => (if t346 = true then ((xF35.f x1).bind fun t347 => (some (x7, t347))) else (some (x7, false))))) else (none)) else (none)) else (some (x7, false)))
def xF34.f (k : Nat) (l0 : List ByteArray) (a1 : ByteArray) : Option (Int × Bool) := xF34.l0 k l0 a1 (l0.length : Int) 0 (l0.length : Int)
theorem xF34.mono_l : ∀ k, (∀ y0 y1 y2 y3 y4, LeO (xF34.l0 k y0 y1 y2 y3 y4) (xF34.l0 (k + 1) y0 y1 y2 y3 y4))
 | 0 => fun _ _ _ _ _ r h => by simp [xF34.l0] at h
 | k + 1 => by
  have ih0 := xF34.mono_l k
  intro y0 y1 y2 y3 y4
  unfold xF34.l0
  repeat' with_reducible first | exact ih0 _ _ _ _ _ | exact LeO.refl _ | exact LeO.none _ | refine LeO.ite ?_ ?_ | refine LeO.bind ?_ (fun _ => ?_)
theorem xF34.mono : ∀ a0 a1 k, LeO (xF34.f k a0 a1) (xF34.f (k + 1) a0 a1) := by
 intro a0 a1 k
 have ih0 := xF34.mono_l k
 unfold xF34.f
 repeat' with_reducible first | exact ih0 _ _ _ _ _ | exact LeO.refl _ | exact LeO.none _ | refine LeO.ite ?_ ?_ | refine LeO.bind ?_ (fun _ => ?_)
theorem xF34.calls (k : Nat) (A0 : Option Addr) (c0 : Nat) (l0 : List ByteArray) (a1 : ByteArray) (r1 : Int) (r2 : Bool) (w : World) (hr0 : Kd.C Kd.string w A0 l0.length l0) (hc0 : l0.length ≤ c0) (h : xF34.f k l0 a1 = some (r1, r2)) :
  Calls Tryz.prog 125 #[.slice A0 l0.length c0, .string a1] w fun e w' => e = .returned (.tuple #[.int .i64 r1, .bool r2]) ∧ Drawn0 w w' := by
 have HR0 := Aside0.mk hr0
 have HC0 := Aside0.mk hc0
 clear hr0 hc0
 have H : (xF34.l0 k l0 a1 (l0.length : Int) 0 (l0.length : Int)) = some (r1, r2) := h
 clear h
 have H' := Aside0.mk H
 clear H
 go_enter Tryz.func125, Tryz.ntmps125
 go_wp2
 go_loopg [7, 8] k (fun kq v7 v8 w' => ∃ (x7_1 : Int) (x8_1 : Int), v7 = .int .i64 x7_1 ∧ v8 = .int .i64 x8_1 ∧ Aside0 (xF34.l0 kq l0 a1 (l0.length : Int) x7_1 x8_1 = some (r1, r2)) ∧ Aside0 (kq ≤ k) ∧ Drawn0 w w')
 case atStart => exact ⟨(0), ((l0.length : Int)), (by first | rfl | (simp; done) | (simp [*]; done)), (by first | rfl | (simp; done) | (simp [*]; done)), H', ⟨Nat.le_refl _⟩, by repeat (first | exact Drawn0.refl _ | apply Drawn0.step)⟩
 clear H'
 try clear c1
 try clear p2
 obtain ⟨x7_1, x8_1, rfl, rfl, HA, HK1, ⟨m1, rfl⟩⟩ := hrel
 cases gk with
 | zero => exact absurd HA.out (by simp [xF34.l0])
 | succ k1 =>
  have H := HA.out
  clear HA
  simp only [xF34.l0] at H
  by_cases c3 : x7_1 < x8_1
  ·
   rw [if_pos c3] at H
   have c3b0 : decide (x7_1 < x8_1) = true := dT_ c3
   clear c3
   obtain ⟨ji4, hji4⟩ : ∃ j_ : Int, (wrap64 ((IntKind.u64.wrap (wrap64 (x7_1 + x8_1))) / 2)) = j_ := ⟨_, rfl⟩
   replace H : (if 0 ≤ (ji4) then (if (ji4) < (l0.length : Int) then ((xF5.f (rdOf ByteArray.empty l0 (ji4)) a1).bind fun t343 => (if t343 = true then (xF34.l0 k1 l0 a1 (l0.length : Int) (wrap64 ((ji4) + 1)) x8_1) else (xF34.l0 k1 l0 a1 (l0.length : Int) x7_1 ji4))) else (none)) else (none)) = some (r1, r2) := by first | (rw [hji4] at H; exact H) | (simp only [hji4] at H ⊢; exact H)
   have hji4w : (IntKind.i64.wrap ((IntKind.u64.wrap (wrap64 (x7_1 + x8_1))) / 2)) = ji4 := (i64_w _).trans hji4
   by_cases c5 : 0 ≤ (ji4)
   rotate_left
   ·
    rw [if_neg c5] at H
    exact absurd H (by simp)
   rw [if_pos c5] at H
   have c5b0 : decide (0 ≤ (ji4)) = true := dT_ c5
   clear c5
   by_cases c6 : (ji4) < (l0.length : Int)
   rotate_left
   ·
    rw [if_neg c6] at H
    exact absurd H (by simp)
   rw [if_pos c6] at H
   have c6b0 : decide ((ji4) < (l0.length : Int)) = true := dT_ c6
   clear c6
   replace H := Option.bind_eq_some_iff.mp H
   obtain ⟨t343, A70, H⟩ := H
   replace H : (if t343 = true then (xF34.l0 k1 l0 a1 (l0.length : Int) (wrap64 ((ji4) + 1)) x8_1) else (xF34.l0 k1 l0 a1 (l0.length : Int) x7_1 ji4)) = some (r1, r2) := H
   have A7 := Aside0.mk A70
   clear A70
   by_cases c8 : t343 = true
   ·
    subst c8
    replace H : (xF34.l0 k1 l0 a1 (l0.length : Int) (wrap64 ((ji4) + 1)) x8_1) = some (r1, r2) := by rw [if_pos rfl] at H; exact H
    have H' := Aside0.mk H
    clear H
    have p342 : 0 ≤ ((ji4) : Int) := oD_ (by first | (with_reducible assumption) | assumption)
    have q342 : (ji4) < (l0.length : Int) := oD_ (by first | (with_reducible assumption) | assumption)
    obtain ⟨ad342, e342, hx342_0⟩ := Kd.at_string HR0.out (ji4) p342 q342
    cases e342
    replace p342 := eq_true p342
    replace q342 := eq_true q342
    go_wp2_with (first | ((with_reducible refine gate_callee (f := 141) rfl ?_); refine goesL_ (some 27) rfl rfl Tryz.func141 (by kernel_rfl) rfl #[.string (rdOf ByteArray.empty l0 (ji4)), .string a1] rfl (by (try simp only [List.map_toArray, List.map_cons, List.map_nil]); first | done | (simp only [hji4]; rfl) | rfl | (simp only [List.length_drop, List.length_take]; rfl)) ?_; (with_reducible refine (xF5.calls (rdOf ByteArray.empty l0 (ji4)) a1 true _ A7.out).mono ?_); rintro e w' ⟨rfl, ⟨nd, rfl⟩⟩; refine ⟨_, rfl, ?_⟩))
    go_roundg k1
    case measure => have := HK1.out; omega
    case rel => exact ⟨(wrap64 ((ji4) + 1)), (x8_1), (by first | rfl | (simp; done) | (simp only [← hji4] <;> (first | rfl | simp)) | (simp [*]; done)), (by first | rfl | (simp; done) | (simp [*]; done)), H', ⟨by have := HK1.out; omega⟩, by repeat (first | exact Drawn0.refl _ | apply Drawn0.step)⟩
   replace c8 := Bool.eq_false_iff.mpr c8
   subst c8
   replace H : (xF34.l0 k1 l0 a1 (l0.length : Int) x7_1 ji4) = some (r1, r2) := by rw [if_neg (show ¬ (false = true) by decide)] at H; exact H
   have H' := Aside0.mk H
   clear H
   have p342 : 0 ≤ ((ji4) : Int) := oD_ (by first | (with_reducible assumption) | assumption)
   have q342 : (ji4) < (l0.length : Int) := oD_ (by first | (with_reducible assumption) | assumption)
   obtain ⟨ad342, e342, hx342_0⟩ := Kd.at_string HR0.out (ji4) p342 q342
   cases e342
   replace p342 := eq_true p342
   replace q342 := eq_true q342
   go_wp2_with (first | ((with_reducible refine gate_callee (f := 141) rfl ?_); refine goesL_ (some 27) rfl rfl Tryz.func141 (by kernel_rfl) rfl #[.string (rdOf ByteArray.empty l0 (ji4)), .string a1] rfl (by (try simp only [List.map_toArray, List.map_cons, List.map_nil]); first | done | (simp only [hji4]; rfl) | rfl | (simp only [List.length_drop, List.length_take]; rfl)) ?_; (with_reducible refine (xF5.calls (rdOf ByteArray.empty l0 (ji4)) a1 false _ A7.out).mono ?_); rintro e w' ⟨rfl, ⟨nd, rfl⟩⟩; refine ⟨_, rfl, ?_⟩))
   go_roundg k1
   case measure => have := HK1.out; omega
   case rel => exact ⟨(x7_1), (ji4), (by first | rfl | (simp; done) | (simp [*]; done)), (by first | rfl | (simp; done) | (simp only [← hji4] <;> (first | rfl | simp)) | (simp [*]; done)), H', ⟨by have := HK1.out; omega⟩, by repeat (first | exact Drawn0.refl _ | apply Drawn0.step)⟩
  rw [if_neg c3] at H
  have c3b0 : decide (x7_1 < x8_1) = false := dF_ c3
  clear c3
  by_cases c9 : x7_1 < (l0.length : Int)
  rotate_left
  ·
   rw [if_neg c9] at H
   have c9b0 : decide (x7_1 < (l0.length : Int)) = false := dF_ c9
   clear c9
   simp only [Option.some.injEq, Prod.mk.injEq] at H
   obtain ⟨rfl, rfl⟩ := H
   go_wp2
   go_ret2
   exact ⟨by first | rfl | (simp; done) | (simp [*]; done), by repeat (first | exact Drawn0.refl _ | apply Drawn0.step)⟩
  rw [if_pos c9] at H
  have c9b0 : decide (x7_1 < (l0.length : Int)) = true := dT_ c9
  clear c9
  by_cases c10 : 0 ≤ x7_1
  rotate_left
  ·
   rw [if_neg c10] at H
   exact absurd H (by simp)
  rw [if_pos c10] at H
  have c10b0 : decide (0 ≤ x7_1) = true := dT_ c10
  clear c10
  by_cases c11 : x7_1 < (l0.length : Int)
  rotate_left
  ·
   rw [if_neg c11] at H
   exact absurd H (by simp)
  rw [if_pos c11] at H
  have c11b0 : decide (x7_1 < (l0.length : Int)) = true := dT_ c11
  clear c11
  by_cases c12 : (rdOf ByteArray.empty l0 x7_1).toList = a1.toList
  ·
   rw [if_pos c12] at H
   have c12b0 : ((rdOf ByteArray.empty l0 x7_1).toList == a1.toList) = true := beq_iff_eq.mpr c12
   have c12b1 : ((rdOf ByteArray.empty l0 x7_1).toList != a1.toList) = false := bne_eq_false_iff_eq.mpr c12
   clear c12
   simp only [Option.some.injEq, Prod.mk.injEq] at H
   obtain ⟨rfl, rfl⟩ := H
   have p344 : 0 ≤ (x7_1 : Int) := oD_ (by first | (with_reducible assumption) | assumption)
   have q344 : x7_1 < (l0.length : Int) := oD_ (by first | (with_reducible assumption) | assumption)
   obtain ⟨ad344, e344, hx344_0⟩ := Kd.at_string HR0.out x7_1 p344 q344
   cases e344
   replace p344 := eq_true p344
   replace q344 := eq_true q344
   go_wp2
   go_ret2
   exact ⟨by first | rfl | (simp; done) | (simp [*]; done), by repeat (first | exact Drawn0.refl _ | apply Drawn0.step)⟩
  rw [if_neg c12] at H
  have c12b0 : ((rdOf ByteArray.empty l0 x7_1).toList == a1.toList) = false := beq_eq_false_iff_ne.mpr c12
  have c12b1 : ((rdOf ByteArray.empty l0 x7_1).toList != a1.toList) = true := bne_iff_ne.mpr c12
  replace H := Option.bind_eq_some_iff.mp H
  obtain ⟨t346, A130, H⟩ := H
  replace H : (if t346 = true then ((xF35.f a1).bind fun t347 => (some (x7_1, t347))) else (some (x7_1, false))) = some (r1, r2) := H
  have A13 := Aside0.mk A130
  clear A130
  by_cases c14 : t346 = true
  ·
   subst c14
   replace H : ((xF35.f a1).bind fun t347 => (some (x7_1, t347))) = some (r1, r2) := by rw [if_pos rfl] at H; exact H
   replace H := Option.bind_eq_some_iff.mp H
   obtain ⟨t347, A150, H⟩ := H
   replace H : (some (x7_1, t347)) = some (r1, r2) := H
   have A15 := Aside0.mk A150
   clear A150
   simp only [Option.some.injEq, Prod.mk.injEq] at H
   obtain ⟨rfl, rfl⟩ := H
   have p344 : 0 ≤ (x7_1 : Int) := oD_ (by first | (with_reducible assumption) | assumption)
   have q344 : x7_1 < (l0.length : Int) := oD_ (by first | (with_reducible assumption) | assumption)
   obtain ⟨ad344, e344, hx344_0⟩ := Kd.at_string HR0.out x7_1 p344 q344
   cases e344
   replace p344 := eq_true p344
   replace q344 := eq_true q344
   have p345 : 0 ≤ (x7_1 : Int) := oD_ (by first | (with_reducible assumption) | assumption)
   have q345 : x7_1 < (l0.length : Int) := oD_ (by first | (with_reducible assumption) | assumption)
   obtain ⟨ad345, e345, hx345_0⟩ := Kd.at_string HR0.out x7_1 p345 q345
   obtain rfl : ad344 = ad345 := (by injection e345)
   replace p345 := eq_true p345
   replace q345 := eq_true q345
   go_wp2_with (first | (go_at_call 142; (with_reducible refine (xF35.calls (rdOf ByteArray.empty l0 x7_1) true _ A13.out).mono ?_); rintro e w' ⟨rfl, ⟨nd, rfl⟩⟩) | (go_at_call 142; (with_reducible refine (xF35.calls a1 t347 _ A15.out).mono ?_); rintro e w' ⟨rfl, ⟨nd, rfl⟩⟩))
   go_ret2
   exact ⟨by first | rfl | (simp; done) | (simp [*]; done), by repeat (first | exact Drawn0.refl _ | apply Drawn0.step)⟩
  replace c14 := Bool.eq_false_iff.mpr c14
  subst c14
  replace H : (some (x7_1, false)) = some (r1, r2) := by rw [if_neg (show ¬ (false = true) by decide)] at H; exact H
  simp only [Option.some.injEq, Prod.mk.injEq] at H
  obtain ⟨rfl, rfl⟩ := H
  have p344 : 0 ≤ (x7_1 : Int) := oD_ (by first | (with_reducible assumption) | assumption)
  have q344 : x7_1 < (l0.length : Int) := oD_ (by first | (with_reducible assumption) | assumption)
  obtain ⟨ad344, e344, hx344_0⟩ := Kd.at_string HR0.out x7_1 p344 q344
  cases e344
  replace p344 := eq_true p344
  replace q344 := eq_true q344
  have p345 : 0 ≤ (x7_1 : Int) := oD_ (by first | (with_reducible assumption) | assumption)
  have q345 : x7_1 < (l0.length : Int) := oD_ (by first | (with_reducible assumption) | assumption)
  obtain ⟨ad345, e345, hx345_0⟩ := Kd.at_string HR0.out x7_1 p345 q345
  obtain rfl : ad344 = ad345 := (by injection e345)
  replace p345 := eq_true p345
  replace q345 := eq_true q345
  go_wp2_with (first | (go_at_call 142; (with_reducible refine (xF35.calls (rdOf ByteArray.empty l0 x7_1) false _ A13.out).mono ?_); rintro e w' ⟨rfl, ⟨nd, rfl⟩⟩))
  go_ret2
  exact ⟨by first | rfl | (simp; done) | (simp [*]; done), by repeat (first | exact Drawn0.refl _ | apply Drawn0.step)⟩
mutual
def iF28.l0 : Nat → List ByteArray → List ByteArray → List ByteArray → Int → Int → Option ((List (S46)))
 | 0, _, _, _, _, _ => none
 | k + 1, x0, x3, x15, x16, x17 => if x17 < x16 then (if 0 ≤ x17 then (if x17 < (x15.length : Int) then (iF28.l1 k x0 x3 (rdOf ByteArray.empty x15 x17) x15 x16 x17 ((rdOf ByteArray.empty x15 x17).size : Int) 0) else (none)) else (none)) else ((iF25.f x3).bind fun t356 => (if SM.okL t356 = true then (iF28.l2 k x0 t356 (t356.length : Int) 0 ([] : List (S46))) else none))
def iF28.l1 : Nat → List ByteArray → List ByteArray → ByteArray → List ByteArray → Int → Int → Int → Int → Option ((List (S46)))
 | 0, _, _, _, _, _, _, _, _ => none
 | k + 1, x0, x3, x5, x15, x16, x17, x22, x23 => if x23 < x22 then (if 0 ≤ (wrap64 (x23 + 1)) then (if (wrap64 (x23 + 1)) ≤ (x5.size : Int) then (if x3.length < 8796093022208 then (iF28.l1 k x0 (x3 ++ [x5.extract 0 ((wrap64 (x23 + 1)) : Int).toNat]) x5 x15 x16 x17 x22 (wrap64 (x23 + 1))) else (none)) else (none)) else (none)) else (iF28.l0 k x0 x3 x15 x16 (wrap64 (x17 + 1)))
def iF28.l2 : Nat → List ByteArray → List ByteArray → Int → Int → List (S46) → Option ((List (S46)))
 | 0, _, _, _, _, _ => none
 | k + 1, x0, x39, x40, x41, x360000 => if x41 < x40 then (if 0 ≤ x41 then (if x41 < (x39.length : Int) then ((xF34.f k x0 (rdOf ByteArray.empty x39 x41)).bind fun bt361 => (if (rdOf ByteArray.empty x39 x41).toList = ([] : List UInt8) then (if x360000.length < 5864062014805 then (iF28.l2 k x0 x39 x40 (wrap64 (x41 + 1)) (x360000 ++ [(⟨(-1), (-1), bt361.2⟩ : S46)])) else (none)) else (if 0 ≤ (wrap64 (((rdOf ByteArray.empty x39 x41).size : Int) - 1)) then (if (wrap64 (((rdOf ByteArray.empty x39 x41).size : Int) - 1)) < ((rdOf ByteArray.empty x39 x41).size : Int) then (if (wrap64 (((rdOf ByteArray.empty x39 x41).size : Int) - 1)) ≤ ((rdOf ByteArray.empty x39 x41).size : Int) then (if x360000.length < 5864062014805 then (iF28.l2 k x0 x39 x40 (wrap64 (x41 + 1)) (x360000 ++ [(⟨((bt (rdOf ByteArray.empty x39 x41) (wrap64 (((rdOf ByteArray.empty x39 x41).size : Int) - 1))) - 97) % 256, SM.at_ (List.take ((x41 : Int).toNat + 1) x39) ((rdOf ByteArray.empty x39 x41).extract 0 ((wrap64 (((rdOf ByteArray.empty x39 x41).size : Int) - 1)) : Int).toNat), bt361.2⟩ : S46)])) else (none)) else (none)) else (none)) else (none)))) else (none)) else (none)) else (some x360000)
end
def iF28.f (k : Nat) (l0 : List ByteArray) : Option ((List (S46))) := iF28.l0 k l0 (([(⟨#[]⟩ : ByteArray)] : List ByteArray)) l0 (l0.length : Int) 0
theorem iF28.mono_l : ∀ k, (∀ y0 y1 y2 y3 y4, LeO (iF28.l0 k y0 y1 y2 y3 y4) (iF28.l0 (k + 1) y0 y1 y2 y3 y4)) ∧ (∀ y0 y1 y2 y3 y4 y5 y6 y7, LeO (iF28.l1 k y0 y1 y2 y3 y4 y5 y6 y7) (iF28.l1 (k + 1) y0 y1 y2 y3 y4 y5 y6 y7)) ∧ (∀ y0 y1 y2 y3 y4, LeO (iF28.l2 k y0 y1 y2 y3 y4) (iF28.l2 (k + 1) y0 y1 y2 y3 y4))
 | 0 => ⟨fun _ _ _ _ _ r h => by simp [iF28.l0] at h, fun _ _ _ _ _ _ _ _ r h => by simp [iF28.l1] at h, fun _ _ _ _ _ r h => by simp [iF28.l2] at h⟩
 | k + 1 => by
  obtain ⟨ih0, ih1, ih2⟩ := iF28.mono_l k
  refine ⟨?_, ?_, ?_⟩
  ·
   intro y0 y1 y2 y3 y4
   unfold iF28.l0
   repeat' with_reducible first | exact ih0 _ _ _ _ _ | exact ih1 _ _ _ _ _ _ _ _ | exact ih2 _ _ _ _ _ | exact xF34.mono _ _ _ | exact LeO.refl _ | exact LeO.none _ | refine LeO.ite ?_ ?_ | refine LeO.bind ?_ (fun _ => ?_)
  ·
   intro y0 y1 y2 y3 y4 y5 y6 y7
   unfold iF28.l1
   repeat' with_reducible first | exact ih0 _ _ _ _ _ | exact ih1 _ _ _ _ _ _ _ _ | exact ih2 _ _ _ _ _ | exact xF34.mono _ _ _ | exact LeO.refl _ | exact LeO.none _ | refine LeO.ite ?_ ?_ | refine LeO.bind ?_ (fun _ => ?_)
  intro y0 y1 y2 y3 y4
  unfold iF28.l2
  repeat' with_reducible first | exact ih0 _ _ _ _ _ | exact ih1 _ _ _ _ _ _ _ _ | exact ih2 _ _ _ _ _ | exact xF34.mono _ _ _ | exact LeO.refl _ | exact LeO.none _ | refine LeO.ite ?_ ?_ | refine LeO.bind ?_ (fun _ => ?_)
theorem iF28.mono : ∀ a0 k, LeO (iF28.f k a0) (iF28.f (k + 1) a0) := by
 intro a0 k
 obtain ⟨ih0, ih1, ih2⟩ := iF28.mono_l k
 unfold iF28.f
 repeat' with_reducible first | exact ih0 _ _ _ _ _ | exact ih1 _ _ _ _ _ _ _ _ | exact ih2 _ _ _ _ _ | exact xF34.mono _ _ _ | exact LeO.refl _ | exact LeO.none _ | refine LeO.ite ?_ ?_ | refine LeO.bind ?_ (fun _ => ?_)
def iF28.T20 : Bool × List (List Nat × List Nat) := (true, [([], []), ([], []), ([1], [1]), ([2], [2]), ([0, 3], [0, 3]), ([4], [4]), ([5], [5]), ([], []), ([], []), ([], []), ([9], [9]), ([10], [10]), ([8, 11], [8, 11]), ([7, 12], [7, 12]), ([0, 1, 2, 3, 4, 5, 6], []), ([14, 6, 0, 1, 2, 3, 4, 5, 6], [6, 14]), ([0, 1, 2, 3, 4, 5, 6, 7, 8, 9, 10, 11, 12, 13, 14, 15], []), ([16, 13, 15, 0, 1, 2, 3, 4, 5, 6, 7, 8, 9, 10, 11, 12, 13, 14, 15], [13, 16])])
def iF28.B20 : List Nat := [0, 0, 2, 6, 15, 31, 63, 0, 0, 0, 512, 1536, 3840, 8064, 127, 16511, 65535, 131071]
theorem iF28.tab20 : rtab .any (opsOf Tryz.f102 20) = iF28.T20 := by kernel_rfl
theorem iF28.bits20 : waitsOk iF28.T20.2 iF28.B20 = true := by kernel_rfl
set_option maxHeartbeats 60000000 in
theorem iF28.calls (k : Nat) (A0 : Option Addr) (c0 : Nat) (l0 : List ByteArray) (r : List (S46)) (w : World) (hr0 : Kd.C Kd.string w A0 l0.length l0) (hc0 : l0.length ≤ c0) (h : iF28.f k l0 = some r) :
  Calls Tryz.prog 102 #[.slice A0 l0.length c0] w fun e w' => ∃ v0_ : Value, e = .returned (.agg #[v0_]) ∧ Kd.R k46 46 w' w.heap.size (fun _ => True) v0_ r ∧ Below w.heap.size w w' := by
 have hu41 := Tryz.underlying41
 have hu46 := Tryz.underlying46
 have HR0 := Aside0.mk hr0
 have HC0 := Aside0.mk hc0
 clear hr0 hc0
 have HB := Aside0.mk (Below.refl w.heap.size w)
 have H : (iF28.l0 k l0 (([(⟨#[]⟩ : ByteArray)] : List ByteArray)) l0 (l0.length : Int) 0) = some r := h
 clear h
 obtain ⟨y349, hy349⟩ : ∃ y_ : List ByteArray, y_ = (([(⟨#[]⟩ : ByteArray)] : List ByteArray)) := ⟨_, rfl⟩
 replace H : (iF28.l0 k l0 y349 l0 (l0.length : Int) 0) = some r := by (try rw [hy349]); first | with_reducible exact H | with_reducible exact oS_ H | exact H
 have Ny349 := Aside0.mk hy349
 clear hy349
 have H' := Aside0.mk H
 clear H
 go_enter Tryz.func102, Tryz.ntmps102
 go_wp2_with (first | ((with_reducible refine gate_dst (N := 2) rfl ?_); refine box_event ?hg (N := 2) ?hd (cs := #[.slice none 0 0]) (t := 41) ?hr ?_; (case hd => rfl); (case hg => rfl); (case hr => first | (go_simp; done) | (go_simp; rfl)); intro gb348 hg w2 hbox hb; have n0_ := Aside0.mk (below_step (by repeat (first | (with_reducible first | exact HB.out | apply below_alloc | apply pw_below_drewN | apply below_drew1) | exact HB.out)) hb); have n1_ := Aside0.mk (hbox); have n2_ := Aside0.mk ((by rw [hg]; exact (below_size (by repeat (first | (with_reducible first | exact HB.out | apply below_alloc | apply pw_below_drewN | apply below_drew1) | exact HB.out))) : w.heap.size ≤ gb348)); have n3_ := Aside0.mk ((by rw [hg]; exact (below_size (by repeat (first | (with_reducible first | exact HB.out | apply below_alloc | apply pw_below_drewN | apply below_drew1) | exact HB.out))) : w.heap.size ≤ gb348)); clear HB; have HB := n0_; have BK348 := n1_; have GW348 := n2_; have GW348 := n3_; clear n0_ n1_ n2_ n3_; clear hb hbox hg) | ((with_reducible refine gate_dst (N := 14) rfl ?_); refine Kd.R_lit Kd.string _ 9 ?hg (N := 14) ?hd (xs := ([(⟨#[]⟩ : ByteArray)] : List ByteArray)) (inner := [.string (⟨#[]⟩ : ByteArray)]) (ok := fun _ => True) (okp := fun _ => True) ?hr ?hp (fun _ hk => hk) trivial (Below.refl _ _) (Nat.le_refl _) (by simp) ?_; (case hd => rfl); (case hg => rfl); (case hr => first | (go_simp; done) | (go_simp; rfl)); (case hp => exact (Reps.one (show Kd.M Kd.string _ _ _ (⟨#[]⟩ : ByteArray) [.string (⟨#[]⟩ : ByteArray)] from rfl) (Reps.none _ _))); intro v350 w3 ho4 hb hg_ hnew_; clear hg_ hnew_; (first | rw [← Ny349.out] at ho4 | (simp only [Int.reduceToNat] at ho4; rw [← Ny349.out] at ho4)); have n0_ := Aside0.mk (Kd.R_lower ho4 (below_size (by repeat (first | (with_reducible first | exact HB.out | apply below_alloc | apply pw_below_drewN | apply below_drew1 | refine below_set ?_ GW348.out) | exact HB.out)))); have n1_ := Aside0.mk (blk_below (g := gb348) (o := .cells #[.slice none 0 0] 41 (0, 0)) (by (with_reducible repeat (first | refine blk_drewN ?_ _ | refine blk_drew ?_ | refine blk_alloc ?_ _)); exact BK348.out) hb); have n2_ := Aside0.mk (below_step (by repeat (first | (with_reducible first | exact HB.out | apply below_alloc | apply pw_below_drewN | apply below_drew1 | refine below_set ?_ GW348.out) | exact HB.out)) hb); clear BK348; clear HB; have HO351 := n0_; have BK348 := n1_; have HB := n2_; clear n0_ n1_ n2_; clear hb ho4))
 go_loopg [3, 17] k (fun kq v3 v17 w' => ∃ (x3_1 : List ByteArray) (x17_1 : Int), v17 = .int .i64 x17_1 ∧ Aside0 (iF28.l0 kq l0 x3_1 l0 (l0.length : Int) x17_1 = some r) ∧ Aside0 (kq ≤ k) ∧ Aside0 (Kd.R Kd.string 9 w' w.heap.size (fun _ => True) v3 x3_1) ∧ Aside0 (w'.heap[gb348]? = some (.cells #[(.slice none 0 0)] 41 (0, 0))) ∧ Aside0 (Below w.heap.size w w'))
 case atStart => exact ⟨(y349), (0), (by first | rfl | (simp; done) | (simp [*]; done)), H', ⟨Nat.le_refl _⟩, ⟨by (with_reducible repeat (first | apply Kd.R_alloc | apply Kd.R_drewN | apply Kd.R_drew)); exact HO351.out⟩, ⟨by (with_reducible repeat (first | refine blk_drewN ?_ _ | refine blk_drew ?_ | refine blk_alloc ?_ _)); exact BK348.out⟩, ⟨by repeat (first | (with_reducible first | exact HB.out | apply below_alloc | apply pw_below_drewN | apply below_drew1 | refine below_set ?_ GW348.out) | exact HB.out)⟩⟩
 clear H'
 try clear c1
 try clear p2
 obtain ⟨x3_1, x17_1, rfl, HA, HK1, HO_3, BK348, HB⟩ := hrel
 cases gk with
 | zero => exact absurd HA.out (by simp [iF28.l0])
 | succ k1 =>
  have H := HA.out
  clear HA
  simp only [iF28.l0] at H
  by_cases c5 : x17_1 < (l0.length : Int)
  ·
   rw [if_pos c5] at H
   have c5b0 : decide (x17_1 < (l0.length : Int)) = true := dT_ c5
   clear c5
   by_cases c6 : 0 ≤ x17_1
   rotate_left
   ·
    rw [if_neg c6] at H
    exact absurd H (by simp)
   rw [if_pos c6] at H
   have c6b0 : decide (0 ≤ x17_1) = true := dT_ c6
   clear c6
   by_cases c7 : x17_1 < (l0.length : Int)
   rotate_left
   ·
    rw [if_neg c7] at H
    exact absurd H (by simp)
   rw [if_pos c7] at H
   have c7b0 : decide (x17_1 < (l0.length : Int)) = true := dT_ c7
   clear c7
   have H' := Aside0.mk H
   clear H
   have p352 : 0 ≤ (x17_1 : Int) := oD_ (by first | (with_reducible assumption) | assumption)
   have q352 : x17_1 < (l0.length : Int) := oD_ (by first | (with_reducible assumption) | assumption)
   obtain ⟨ad352, e352, hx352_0⟩ := Kd.at_string HR0.out x17_1 p352 q352
   cases e352
   replace hx352_0 := (HB.out.cell (World.block_lt_of_cell? w _ hx352_0)).trans hx352_0
   replace p352 := eq_true p352
   replace q352 := eq_true q352
   go_wp2
   go_loopg [3, 23] k1 (fun kq v3 v23 w' => ∃ (x3_2 : List ByteArray) (x23_2 : Int), v23 = .int .i64 x23_2 ∧ Aside0 (iF28.l1 kq l0 x3_2 (rdOf ByteArray.empty l0 x17_1) l0 (l0.length : Int) x17_1 ((rdOf ByteArray.empty l0 x17_1).size : Int) x23_2 = some r) ∧ Aside0 (kq ≤ k1) ∧ Aside0 (Kd.R Kd.string 9 w' w.heap.size (fun _ => True) v3 x3_2) ∧ Aside0 (w'.heap[gb348]? = some (.cells #[(.slice none 0 0)] 41 (0, 0))) ∧ Aside0 (Below w.heap.size w w'))
   case atStart => exact ⟨(x3_1), (0), (by first | rfl | (simp; done) | (simp [*]; done)), H', ⟨Nat.le_refl _⟩, ⟨by (with_reducible repeat (first | apply Kd.R_alloc | apply Kd.R_drewN | apply Kd.R_drew)); exact HO_3.out⟩, ⟨by (with_reducible repeat (first | refine blk_drewN ?_ _ | refine blk_drew ?_ | refine blk_alloc ?_ _)); exact BK348.out⟩, ⟨by repeat (first | (with_reducible first | exact HB.out | apply below_alloc | apply pw_below_drewN | apply below_drew1 | refine below_set ?_ GW348.out) | exact HB.out)⟩⟩
   clear H'
   try clear c1
   try clear p2
   try clear p3
   try clear q3
   try clear hx3
   try clear c5
   try clear c5b0
   try clear c6
   try clear c6b0
   try clear c7
   try clear c7b0
   try clear hx352_0
   try clear p2
   try clear p352
   try clear q352
   obtain ⟨x3_2, x23_2, rfl, HA, HK2, HO_3, BK348, HB⟩ := hrel
   cases gk with
   | zero => exact absurd HA.out (by simp [iF28.l1])
   | succ k2 =>
    have H := HA.out
    clear HA
    simp only [iF28.l1] at H
    by_cases c8 : x23_2 < ((rdOf ByteArray.empty l0 x17_1).size : Int)
    rotate_left
    ·
     rw [if_neg c8] at H
     have c8b0 : decide (x23_2 < ((rdOf ByteArray.empty l0 x17_1).size : Int)) = false := dF_ c8
     clear c8
     have H' := Aside0.mk H
     clear H
     go_wp2
     go_roundg k2
     case measure => have := HK1.out; have := HK2.out; omega
     case rel => exact ⟨(x3_2), (wrap64 (x17_1 + 1)), (by first | rfl | (simp; done) | (simp [*]; done)), H', ⟨by have := HK1.out; have := HK2.out; omega⟩, ⟨by (with_reducible repeat (first | apply Kd.R_alloc | apply Kd.R_drewN | apply Kd.R_drew)); exact HO_3.out⟩, ⟨by (with_reducible repeat (first | refine blk_drewN ?_ _ | refine blk_drew ?_ | refine blk_alloc ?_ _)); exact BK348.out⟩, ⟨by repeat (first | (with_reducible first | exact HB.out | apply below_alloc | apply pw_below_drewN | apply below_drew1 | refine below_set ?_ GW348.out) | exact HB.out)⟩⟩
    rw [if_pos c8] at H
    have c8b0 : decide (x23_2 < ((rdOf ByteArray.empty l0 x17_1).size : Int)) = true := dT_ c8
    clear c8
    obtain ⟨ji9, hji9⟩ : ∃ j_ : Int, (wrap64 (x23_2 + 1)) = j_ := ⟨_, rfl⟩
    replace H : (if 0 ≤ (ji9) then (if (ji9) ≤ ((rdOf ByteArray.empty l0 x17_1).size : Int) then (if x3_2.length < 8796093022208 then (iF28.l1 k2 l0 (x3_2 ++ [(rdOf ByteArray.empty l0 x17_1).extract 0 ((ji9) : Int).toNat]) (rdOf ByteArray.empty l0 x17_1) l0 (l0.length : Int) x17_1 ((rdOf ByteArray.empty l0 x17_1).size : Int) ji9) else (none)) else (none)) else (none)) = some r := by first | (rw [hji9] at H; exact H) | (simp only [hji9] at H ⊢; exact H)
    have hji9w : (IntKind.i64.wrap (x23_2 + 1)) = ji9 := (i64_w _).trans hji9
    by_cases c10 : 0 ≤ (ji9)
    rotate_left
    ·
     rw [if_neg c10] at H
     exact absurd H (by simp)
    rw [if_pos c10] at H
    have c10b0 := eq_true c10
    have c10b1 : decide (0 ≤ (ji9)) = true := dT_ c10
    clear c10
    by_cases c11 : (ji9) ≤ ((rdOf ByteArray.empty l0 x17_1).size : Int)
    rotate_left
    ·
     rw [if_neg c11] at H
     exact absurd H (by simp)
    rw [if_pos c11] at H
    have c11b0 := eq_true c11
    have c11b1 : decide ((ji9) ≤ ((rdOf ByteArray.empty l0 x17_1).size : Int)) = true := dT_ c11
    clear c11
    by_cases c12 : x3_2.length < 8796093022208
    ·
     rw [if_pos c12] at H
     have LMc12 := Aside0.mk c12
     clear c12
     obtain ⟨y353, hy353⟩ : ∃ y_ : List ByteArray, y_ = (x3_2 ++ [(rdOf ByteArray.empty l0 x17_1).extract 0 ((ji9) : Int).toNat]) := ⟨_, rfl⟩
     replace H : (iF28.l1 k2 l0 y353 (rdOf ByteArray.empty l0 x17_1) l0 (l0.length : Int) x17_1 ((rdOf ByteArray.empty l0 x17_1).size : Int) ji9) = some r := by (try rw [hy353]); first | with_reducible exact H | with_reducible exact oS_ H | exact H
     have Ny353 := Aside0.mk hy353
     clear hy353
     have H' := Aside0.mk H
     clear H
     go_wp2_with (first | ((with_reducible refine gate_builtin (b := .append) (xs := #[.tmp 26, .tmp 31]) rfl ?_); at_builtin; refine Kd.R_append Kd.string (w0 := w) w.heap.size rfl (.tmp 26) (.tmp 31) 25 9 (.string ⟨#[]⟩) 16 rfl Tryz.underlying25 info9 rfl (by decide) (by omega) u3 x3_2 ((rdOf ByteArray.empty l0 x17_1).extract 0 ((ji9) : Int).toNat) [.string ((rdOf ByteArray.empty l0 x17_1).extract 0 ((ji9) : Int).toNat)] (fun _ => True) (fun _ => False) rfl rfl ?aP (fun _ hk => hk.elim) ?aF ?aO ?aB ?aS ?aL ?_; (case aP => exact rfl); (case aB => exact (by repeat (first | (with_reducible first | exact HB.out | apply below_alloc | apply pw_below_drewN | apply below_drew1 | refine below_set ?_ GW348.out) | exact HB.out))); (case aF => exact (fun _ _ => trivial)); (case aO => exact (by (with_reducible repeat (first | apply Kd.R_alloc | apply Kd.R_drewN | apply Kd.R_drew)); exact HO_3.out)); (case aS => exact (below_size (by repeat (first | (with_reducible first | exact HB.out | apply below_alloc | apply pw_below_drewN | apply below_drew1 | refine below_set ?_ GW348.out) | exact HB.out)))); (case aL => have := LMc12.out; omega); intro v354 w13 ho hb hg hat; rw [← Ny353.out] at ho; have n0_ := Aside0.mk (blk_grown (g := gb348) (o := .cells #[.slice none 0 0] 41 (0, 0)) (by (with_reducible repeat (first | refine blk_drewN ?_ _ | refine blk_drew ?_ | refine blk_alloc ?_ _)); exact BK348.out) hg (Kd.R_ne HO_3.out BK348.out (by decide))); have n1_ := Aside0.mk (hb); have n2_ := Aside0.mk (ho); clear BK348; clear HB; clear HO_3; have BK348 := n0_; have HB := n1_; have HO355 := n2_; clear n0_ n1_ n2_; clear ho hb hg hat))
     go_roundg k2
     case measure => have := HK1.out; have := HK2.out; omega
     case rel => exact ⟨(y353), (ji9), (by first | rfl | (simp; done) | (simp only [← hji9] <;> (first | rfl | simp)) | (simp [*]; done)), H', ⟨by have := HK1.out; have := HK2.out; omega⟩, ⟨by (with_reducible repeat (first | apply Kd.R_alloc | apply Kd.R_drewN | apply Kd.R_drew)); exact HO355.out⟩, ⟨by (with_reducible repeat (first | refine blk_drewN ?_ _ | refine blk_drew ?_ | refine blk_alloc ?_ _)); exact BK348.out⟩, ⟨by repeat (first | (with_reducible first | exact HB.out | apply below_alloc | apply pw_below_drewN | apply below_drew1 | refine below_set ?_ GW348.out) | exact HB.out)⟩⟩
    rw [if_neg c12] at H
    exact absurd H (by simp)
  rw [if_neg c5] at H
  have c5b0 : decide (x17_1 < (l0.length : Int)) = false := dF_ c5
  clear c5
  replace H := Option.bind_eq_some_iff.mp H
  obtain ⟨t356, A140, H⟩ := H
  replace H : (if SM.okL t356 = true then (iF28.l2 k1 l0 t356 (t356.length : Int) 0 ([] : List (S46))) else none) = some r := H
  have hsz_ : SM.okL t356 = true := by
   by_cases h_ : SM.okL t356 = true
   ·
    exact h_
   rw [if_neg h_] at H; cases H
  rw [if_pos hsz_] at H
  have HSZ := Aside0.mk hsz_
  clear hsz_
  have A14 := Aside0.mk A140
  clear A140
  have H' := Aside0.mk H
  clear H
  obtain ⟨Ao15, co15, eo15⟩ := Kd.R_slice HO_3.out
  subst eo15
  go_wp2_with (first | ((with_reducible refine gate_callee (f := 79) rfl ?_); refine goesL_ (some 36) rfl rfl Tryz.func79 (by kernel_rfl) rfl #[.slice Ao15 x3_1.length co15] rfl (by (try simp only [List.map_toArray, List.map_cons, List.map_nil]); first | done | rfl | (simp only [List.length_drop, List.length_take]; rfl)) ?_; (with_reducible refine (iF25.calls _ _ x3_1 t356 _ ?side1 ?side2 A14.out).mono ?_); (case side1 => repeat (first | exact (Kd.R_reads' HO_3.out).2.2 | with_reducible first | apply cA_ | apply cN_ | apply cD_)); (case side2 => exact (Kd.R_reads' HO_3.out).2.1); rintro e w16 ⟨v357, rfl, ho0, hb⟩; refine ⟨_, rfl, ?_⟩; have n0_ := Aside0.mk (Kd.R_elder' (by (with_reducible repeat (first | apply Kd.R_alloc | apply Kd.R_drewN | apply Kd.R_drew)); exact HO_3.out) (Kd.R_base ho0) hb); have n1_ := Aside0.mk (Kd.R_lower (Kd.R_new' ho0 (Kd.R_lt (by (with_reducible repeat (first | apply Kd.R_alloc | apply Kd.R_drewN | apply Kd.R_drew)); exact HO_3.out))) (below_size (by repeat (first | (with_reducible first | exact HB.out | apply below_alloc | apply pw_below_drewN | apply below_drew1 | refine below_set ?_ GW348.out) | exact HB.out)))); have n2_ := Aside0.mk (blk_below (g := gb348) (o := .cells #[.slice none 0 0] 41 (0, 0)) (by (with_reducible repeat (first | refine blk_drewN ?_ _ | refine blk_drew ?_ | refine blk_alloc ?_ _)); exact BK348.out) hb); have n3_ := Aside0.mk (below_step (by repeat (first | (with_reducible first | exact HB.out | apply below_alloc | apply pw_below_drewN | apply below_drew1 | refine below_set ?_ GW348.out) | exact HB.out)) hb); clear HO_3; clear BK348; clear HB; have HO_3 := n0_; have HO358 := n1_; have BK348 := n2_; have HB := n3_; clear n0_ n1_ n2_ n3_; (try clear hb); (try clear hb2); (try clear hk); (try clear hi); (try clear ho0)) | ((with_reducible refine gate_dst (N := 38) rfl ?_); refine SM.made ?hg (N := 38) ?hd ?hr ?_; (case hd => rfl); (case hg => rfl); (case hr => first | (go_simp; done) | (go_simp; rfl)); intro gbM hg wMade hbox hb; have n0_ := Aside0.mk (Kd.R_below (by (with_reducible repeat (first | apply Kd.R_alloc | apply Kd.R_drewN | apply Kd.R_drew)); exact HO_3.out) hb); have n1_ := Aside0.mk (Kd.R_below (by (with_reducible repeat (first | apply Kd.R_alloc | apply Kd.R_drewN | apply Kd.R_drew)); exact HO358.out) hb); have n2_ := Aside0.mk (blk_below (g := gb348) (o := .cells #[.slice none 0 0] 41 (0, 0)) (by (with_reducible repeat (first | refine blk_drewN ?_ _ | refine blk_drew ?_ | refine blk_alloc ?_ _)); exact BK348.out) hb); have n3_ := Aside0.mk (below_step (by repeat (first | (with_reducible first | exact HB.out | apply below_alloc | apply pw_below_drewN | apply below_drew1 | refine below_set ?_ GW348.out) | exact HB.out)) hb); have n4_ := Aside0.mk (hbox); have n5_ := Aside0.mk ((by rw [hg]; exact (below_size (by repeat (first | (with_reducible first | exact HB.out | apply below_alloc | apply pw_below_drewN | apply below_drew1 | refine below_set ?_ GW348.out) | exact HB.out))) : w.heap.size ≤ gbM)); have n6_ := Aside0.mk ((by rw [hg]; exact (below_size (by repeat (first | (with_reducible first | exact HB.out | apply below_alloc | apply pw_below_drewN | apply below_drew1 | refine below_set ?_ GW348.out) | exact HB.out))) : w.heap.size ≤ gbM)); have n7_ := Aside0.mk ((by rw [hg]; exact Nat.ne_of_lt (blk_lt (g := gb348) (o := .cells #[.slice none 0 0] 41 (0, 0)) (by (with_reducible repeat (first | refine blk_drewN ?_ _ | refine blk_drew ?_ | refine blk_alloc ?_ _)); exact BK348.out)) : gb348 ≠ gbM)); have n8_ := Aside0.mk ((by rw [hg]; exact Nat.ne_of_gt (blk_lt (g := gb348) (o := .cells #[.slice none 0 0] 41 (0, 0)) (by (with_reducible repeat (first | refine blk_drewN ?_ _ | refine blk_drew ?_ | refine blk_alloc ?_ _)); exact BK348.out)) : gbM ≠ gb348)); clear HO_3; clear HO358; clear BK348; clear HB; have HO_3 := n0_; have HO358 := n1_; have BK348 := n2_; have HB := n3_; have BKM := n4_; have GWM := n5_; have GEM := n6_; have NB348_M := n7_; have NBM_348 := n8_; clear n0_ n1_ n2_ n3_ n4_ n5_ n6_ n7_ n8_; clear hb hbox hg) | ((with_reducible refine gate_dst (N := 7) rfl ?_); refine box_event ?hg (N := 7) ?hd (cs := #[.slice none 0 0]) (t := 41) ?hr ?_; (case hd => rfl); (case hg => rfl); (case hr => first | (go_simp; done) | (go_simp; rfl)); intro gb359 hg w17 hbox hb; have n0_ := Aside0.mk (Kd.R_below (by (with_reducible repeat (first | apply Kd.R_alloc | apply Kd.R_drewN | apply Kd.R_drew)); exact HO_3.out) hb); have n1_ := Aside0.mk (Kd.R_below (by (with_reducible repeat (first | apply Kd.R_alloc | apply Kd.R_drewN | apply Kd.R_drew)); exact HO358.out) hb); have n2_ := Aside0.mk (blk_below (g := gb348) (o := .cells #[.slice none 0 0] 41 (0, 0)) (by (with_reducible repeat (first | refine blk_drewN ?_ _ | refine blk_drew ?_ | refine blk_alloc ?_ _)); exact BK348.out) hb); have n29_ := Aside0.mk (SM.Is.below (l := []) (by (with_reducible repeat (first | refine SM.Is.drewN ?_ _ | refine SM.Is.drew ?_ | refine SM.Is.alloc ?_ _)); exact BKM.out) hb); have n3_ := Aside0.mk (below_step (by repeat (first | (with_reducible first | exact HB.out | apply below_alloc | apply pw_below_drewN | apply below_drew1 | refine below_set ?_ GW348.out) | exact HB.out)) hb); have n4_ := Aside0.mk (hbox); have n5_ := Aside0.mk ((by rw [hg]; exact (below_size (by repeat (first | (with_reducible first | exact HB.out | apply below_alloc | apply pw_below_drewN | apply below_drew1 | refine below_set ?_ GW348.out) | exact HB.out))) : w.heap.size ≤ gb359)); have n6_ := Aside0.mk ((by rw [hg]; exact (below_size (by repeat (first | (with_reducible first | exact HB.out | apply below_alloc | apply pw_below_drewN | apply below_drew1 | refine below_set ?_ GW348.out) | exact HB.out))) : w.heap.size ≤ gb359)); have n7_ := Aside0.mk ((by rw [hg]; exact Nat.ne_of_lt (blk_lt (g := gb348) (o := .cells #[.slice none 0 0] 41 (0, 0)) (by (with_reducible repeat (first | refine blk_drewN ?_ _ | refine blk_drew ?_ | refine blk_alloc ?_ _)); exact BK348.out)) : gb348 ≠ gb359)); have n79_ := Aside0.mk ((by rw [hg]; exact Nat.ne_of_lt (SM.Is.lt (l := []) (by (with_reducible repeat (first | refine SM.Is.drewN ?_ _ | refine SM.Is.drew ?_ | refine SM.Is.alloc ?_ _)); exact BKM.out)) : gbM ≠ gb359)); have n8_ := Aside0.mk ((by rw [hg]; exact Nat.ne_of_gt (blk_lt (g := gb348) (o := .cells #[.slice none 0 0] 41 (0, 0)) (by (with_reducible repeat (first | refine blk_drewN ?_ _ | refine blk_drew ?_ | refine blk_alloc ?_ _)); exact BK348.out)) : gb359 ≠ gb348)); have n89_ := Aside0.mk ((by rw [hg]; exact Nat.ne_of_gt (SM.Is.lt (l := []) (by (with_reducible repeat (first | refine SM.Is.drewN ?_ _ | refine SM.Is.drew ?_ | refine SM.Is.alloc ?_ _)); exact BKM.out)) : gb359 ≠ gbM)); clear HO_3; clear HO358; clear BKM; clear BK348; clear HB; have HO_3 := n0_; have HO358 := n1_; have BK348 := n2_; have BKM := n29_; have HB := n3_; have BK359 := n4_; have GW359 := n5_; have GW359 := n6_; have NB348_359 := n7_; have NBM_359 := n79_; have NB359_348 := n8_; have NB359_M := n89_; clear n0_ n1_ n2_ n3_ n4_ n5_ n6_ n7_ n8_ n29_ n79_ n89_; clear hb hbox hg; have hnb18 := NB359_348.out; have hnc18 := NB348_359.out; have hcz19_0 : w17.cell? ⟨gb359, 0, none⟩ = some (.slice none 0 0) := (blk_cell BK359.out 0).trans rfl; have hfz19_0 := blk_frozen BK359.out 0; obtain ⟨Ao20, co20, eo20⟩ := Kd.R_slice HO358.out; subst eo20))
  go_loopg [41] k1 (fun kq v41 w' => ∃ (x41_2 : Int) (x360000_2 : List (S46)) (u360000 : Value), v41 = .int .i64 x41_2 ∧ Aside0 (iF28.l2 kq l0 t356 (t356.length : Int) x41_2 x360000_2 = some r) ∧ Aside0 (kq ≤ k1) ∧ Aside0 (Kd.R Kd.string 9 w' w.heap.size (fun _ => True) (.slice Ao20 t356.length co20) t356) ∧ Aside0 (Kd.R k46 46 w' w.heap.size (fun _ => True) u360000 x360000_2) ∧ Aside0 (w'.heap[gb348]? = some (.cells #[(.slice none 0 0)] 41 (0, 0))) ∧ Aside0 (w'.heap[gb359]? = some (.cells #[u360000] 41 (0, 0))) ∧ Aside0 (Below w.heap.size w w') ∧ Aside0 (SM.Is w' gbM (List.take ((x41_2 : Int).toNat) t356)))
  case atStart => exact ⟨(0), (([] : List (S46))), (.slice none 0 0), (by first | rfl | (simp; done) | (simp [*]; done)), H', ⟨Nat.le_refl _⟩, ⟨by (with_reducible repeat (first | apply Kd.R_alloc | apply Kd.R_drewN | apply Kd.R_drew)); exact Kd.R_mono (Kd.R_far (p := ⟨gb359, 0, none⟩) (Kd.R_types HO358.out BK359.out (by decide)) (fun _ hk => hk.2) (.slice none 0 0)) (fun _ hk => trivial)⟩, ⟨by first | exact Kd.R_nil _ _ _ _ _ | exact Kd.N_nil _ _ _ _ _ | exact Kd.V_nil _ _ _ _ _ | exact Kd.Q_nil _ _ _ _ _ | exact Kd.S_nil _ _ _ _ _⟩, ⟨by (with_reducible repeat (first | refine blk_drewN ?_ _ | refine blk_drew ?_ | refine blk_alloc ?_ _)); refine blk_far ?_ NB348_359.out _; (with_reducible repeat (first | refine blk_drewN ?_ _ | refine blk_drew ?_ | refine blk_alloc ?_ _)); exact BK348.out⟩, ⟨by (with_reducible repeat (first | refine blk_drewN ?_ _ | refine blk_drew ?_ | refine blk_alloc ?_ _)); refine blk_put (cs := #[.slice none 0 0]) ?_ 0 _ rfl; (with_reducible repeat (first | refine blk_drewN ?_ _ | refine blk_drew ?_ | refine blk_alloc ?_ _)); exact BK359.out⟩, ⟨by repeat (first | (with_reducible first | exact HB.out | apply below_alloc | apply pw_below_drewN | apply below_drew1 | refine below_set ?_ GW348.out | refine below_set ?_ GW359.out) | exact HB.out)⟩, ⟨(by (with_reducible repeat (first | refine SM.Is.drewN ?_ _ | refine SM.Is.drew ?_ | refine SM.Is.alloc ?_ _)); refine SM.Is.far ?_ NBM_359.out _; (with_reducible repeat (first | refine SM.Is.drewN ?_ _ | refine SM.Is.drew ?_ | refine SM.Is.alloc ?_ _)); exact BKM.out : SM.Is _ gbM [])⟩⟩
  clear H'
  try clear c1
  try clear p2
  try clear p3
  try clear q3
  try clear hx3
  try clear c5
  try clear c5b0
  try clear c6
  try clear c6b0
  try clear p6
  try clear c7
  try clear c7b0
  try clear c8
  try clear c8b0
  try clear c10
  try clear c10b0
  try clear c10b1
  try clear c11
  try clear c11b0
  try clear c11b1
  try clear c12
  try clear c18
  try clear hcz19_0
  try clear hfz19_0
  try clear hx352_0
  try clear p2
  try clear p3
  try clear p352
  try clear q3
  try clear q352
  obtain ⟨x41_2, x360000_2, u360000, rfl, HA, HK2, HO_39, HO_360000, BK348, BK359, HB, BKM0⟩ := hrel
  obtain ⟨lm, hlm⟩ : ∃ l_ : List ByteArray, l_ = List.take ((x41_2 : Int).toNat) t356 := ⟨_, rfl⟩
  have BKM : Aside0 (SM.Is wr gbM lm) := ⟨by rw [hlm]; exact BKM0.out⟩
  clear BKM0
  have HLM := Aside0.mk hlm
  clear hlm
  cases gk with
  | zero => exact absurd HA.out (by simp [iF28.l2])
  | succ k2 =>
   have H := HA.out
   clear HA
   simp only [iF28.l2] at H
   by_cases c21 : x41_2 < (t356.length : Int)
   rotate_left
   ·
    rw [if_neg c21] at H
    have c21b0 : decide (x41_2 < (t356.length : Int)) = false := dF_ c21
    clear c21
    obtain rfl := Option.some.inj H
    have hnb57 := NB359_348.out
    have hnc57 := NB348_359.out
    have hcz58_0 : wr.cell? ⟨gb359, 0, none⟩ = some (u360000) := (blk_cell BK359.out 0).trans rfl
    have hfz58_0 := blk_frozen BK359.out 0
    obtain ⟨Ao59, co59, eo59⟩ := Kd.R_slice HO_360000.out
    subst eo59
    have hcz60_0 : wr.cell? ⟨gb348, 0, none⟩ = some (.slice none 0 0) := (blk_cell BK348.out 0).trans rfl
    have hfz60_0 := blk_frozen BK348.out 0
    go_wp2
    refine bodyPost_ret (results_cell_row rfl _ _ gb348 41 #[.slice Ao59 x360000_2.length co59] (0, 0) _ rfl (by (with_reducible repeat (first | refine blk_drewN ?_ _ | refine blk_drew ?_ | refine blk_alloc ?_ _)); refine blk_put (cs := #[.slice none 0 0]) ?_ 0 _ rfl; (with_reducible repeat (first | refine blk_drewN ?_ _ | refine blk_drew ?_ | refine blk_alloc ?_ _)); exact BK348.out) Tryz.underlying41 rfl (by kernel_rfl)) rfl ?_
    exact ⟨_, by first | rfl | (simp [errW_none, errW_some] <;> rfl) | (simp [*, errW_none, errW_some] <;> rfl), by (with_reducible repeat (first | apply Kd.R_alloc | apply Kd.R_drewN | apply Kd.R_drew)); exact Kd.R_mono (Kd.R_far (p := ⟨gb348, 0, none⟩) (Kd.R_types HO_360000.out BK348.out (by decide)) (fun _ hk => hk.2) (.slice Ao59 x360000_2.length co59)) (fun _ hk => trivial), by repeat (first | (with_reducible first | exact HB.out | apply below_alloc | apply pw_below_drewN | apply below_drew1 | refine below_set ?_ GW348.out | refine below_set ?_ GW359.out) | exact HB.out)⟩
   rw [if_pos c21] at H
   have c21b0 : decide (x41_2 < (t356.length : Int)) = true := dT_ c21
   clear c21
   by_cases c22 : 0 ≤ x41_2
   rotate_left
   ·
    rw [if_neg c22] at H
    exact absurd H (by simp)
   rw [if_pos c22] at H
   have c22b0 : decide (0 ≤ x41_2) = true := dT_ c22
   clear c22
   by_cases c23 : x41_2 < (t356.length : Int)
   rotate_left
   ·
    rw [if_neg c23] at H
    exact absurd H (by simp)
   rw [if_pos c23] at H
   have c23b0 : decide (x41_2 < (t356.length : Int)) = true := dT_ c23
   clear c23
   replace H := Option.bind_eq_some_iff.mp H
   obtain ⟨⟨t361, t362⟩, A240, H⟩ := H
   replace H : (if (rdOf ByteArray.empty t356 x41_2).toList = ([] : List UInt8) then (if x360000_2.length < 5864062014805 then (iF28.l2 k2 l0 t356 (t356.length : Int) (wrap64 (x41_2 + 1)) (x360000_2 ++ [(⟨(-1), (-1), t362⟩ : S46)])) else (none)) else (if 0 ≤ (wrap64 (((rdOf ByteArray.empty t356 x41_2).size : Int) - 1)) then (if (wrap64 (((rdOf ByteArray.empty t356 x41_2).size : Int) - 1)) < ((rdOf ByteArray.empty t356 x41_2).size : Int) then (if (wrap64 (((rdOf ByteArray.empty t356 x41_2).size : Int) - 1)) ≤ ((rdOf ByteArray.empty t356 x41_2).size : Int) then (if x360000_2.length < 5864062014805 then (iF28.l2 k2 l0 t356 (t356.length : Int) (wrap64 (x41_2 + 1)) (x360000_2 ++ [(⟨((bt (rdOf ByteArray.empty t356 x41_2) (wrap64 (((rdOf ByteArray.empty t356 x41_2).size : Int) - 1))) - 97) % 256, SM.at_ (List.take ((x41_2 : Int).toNat + 1) t356) ((rdOf ByteArray.empty t356 x41_2).extract 0 ((wrap64 (((rdOf ByteArray.empty t356 x41_2).size : Int) - 1)) : Int).toNat), t362⟩ : S46)])) else (none)) else (none)) else (none)) else (none))) = some r := H
   have A24 := Aside0.mk A240
   clear A240
   by_cases c25 : (rdOf ByteArray.empty t356 x41_2).toList = ([] : List UInt8)
   ·
    rw [if_pos c25] at H
    have c25b0 : ((rdOf ByteArray.empty t356 x41_2).toList == ([] : List UInt8)) = true := beq_iff_eq.mpr c25
    have c25b1 : ((rdOf ByteArray.empty t356 x41_2).toList != ([] : List UInt8)) = false := bne_eq_false_iff_eq.mpr c25
    clear c25
    by_cases c26 : x360000_2.length < 5864062014805
    rotate_left
    ·
     rw [if_neg c26] at H
     exact absurd H (by simp)
    rw [if_pos c26] at H
    have LMc26 := Aside0.mk c26
    clear c26
    obtain ⟨y364, hy364⟩ : ∃ y_ : List (S46), y_ = (x360000_2 ++ [(⟨(-1), (-1), t362⟩ : S46)]) := ⟨_, rfl⟩
    replace H : (iF28.l2 k2 l0 t356 (t356.length : Int) (wrap64 (x41_2 + 1)) y364) = some r := by (try rw [hy364]); first | with_reducible exact H | with_reducible exact oS_ H | exact H
    have Ny364 := Aside0.mk hy364
    clear hy364
    have H' := Aside0.mk H
    clear H
    have p360 : 0 ≤ (x41_2 : Int) := oD_ (by first | (with_reducible assumption) | assumption)
    have q360 : x41_2 < (t356.length : Int) := oD_ (by first | (with_reducible assumption) | assumption)
    have HLL := Aside0.mk (show (lm.length : Int) = x41_2 from by rw [HLM.out, List.length_take]; omega)
    have HLL2 := Aside0.mk (show lm.length < t356.length from by rw [HLM.out, List.length_take]; omega)
    have HLP := Aside0.mk (SM.okL.size HSZ.out x41_2 p360 q360)
    have HLN := Aside0.mk (show lm ++ [rdOf ByteArray.empty t356 x41_2] = List.take ((x41_2 : Int).toNat + 1) t356 from by rw [HLM.out]; exact SM.take_rd t356 x41_2 p360 q360)
    obtain ⟨ad360, e360, hx360_0⟩ := Kd.at_string (Kd.R_reads' HO_39.out).2.2 x41_2 p360 q360
    cases e360
    replace p360 := eq_true p360
    replace q360 := eq_true q360
    go_wp2_with (first | (at_mapUpdate; refine SM.put rfl (.tmp 46) (.tmp 47) (.tmp 48) 108 Tryz.underlying108 rfl gbM lm rfl (by (with_reducible repeat (first | refine SM.Is.drewN ?_ _ | refine SM.Is.drew ?_ | refine SM.Is.alloc ?_ _)); exact BKM.out) ?hn (rdOf ByteArray.empty t356 x41_2) ?hp rfl ?hv ?_; (case hn => have h1_ := SM.okL.len HSZ.out; have h2_ := HLL2.out; omega); (case hp => have h1_ := HLP.out; unfold maxLen; omega); (case hv => exact (congrArg (Value.int IntKind.i64) HLL.out).symm); intro w9m h1m hgm; obtain ⟨lm2, hlm2⟩ : ∃ l_ : List ByteArray, l_ = lm ++ [rdOf ByteArray.empty t356 x41_2] := ⟨_, rfl⟩; rw [← hlm2] at h1m; have HLM2 := Aside0.mk hlm2; clear hlm2; have nr0_ := Aside0.mk (SM.R_over (by (with_reducible repeat (first | apply Kd.R_alloc | apply Kd.R_drewN | apply Kd.R_drew)); exact HO_39.out) (by (with_reducible repeat (first | refine SM.Is.drewN ?_ _ | refine SM.Is.drew ?_ | refine SM.Is.alloc ?_ _)); exact BKM.out) hgm); have nr1_ := Aside0.mk (SM.R_over (by (with_reducible repeat (first | apply Kd.R_alloc | apply Kd.R_drewN | apply Kd.R_drew)); exact HO_360000.out) (by (with_reducible repeat (first | refine SM.Is.drewN ?_ _ | refine SM.Is.drew ?_ | refine SM.Is.alloc ?_ _)); exact BKM.out) hgm); have nb_ := Aside0.mk (blk_grown (g := gb348) (o := .cells #[.slice none 0 0] 41 (0, 0)) (by (with_reducible repeat (first | refine blk_drewN ?_ _ | refine blk_drew ?_ | refine blk_alloc ?_ _)); exact BK348.out) hgm (fun e_ => NBM_348.out (Option.some.inj e_).symm)); have nt_ := Aside0.mk (blk_grown (g := gb359) (by (with_reducible repeat (first | refine blk_drewN ?_ _ | refine blk_drew ?_ | refine blk_alloc ?_ _)); exact BK359.out) hgm (fun e_ => NBM_359.out (Option.some.inj e_).symm)); have nh_ := Aside0.mk (RowKit.Below.grown (by repeat (first | (with_reducible first | exact HB.out | apply below_alloc | apply pw_below_drewN | apply below_drew1) | exact HB.out)) hgm (below_size (by repeat (first | (with_reducible first | exact HB.out | apply below_alloc | apply pw_below_drewN | apply below_drew1) | exact HB.out))) (fun j hj => by cases hj; exact GEM.out)); clear HO_39 HO_360000 BK348 BK359 HB BKM; have HO_39 := nr0_; clear nr0_; have HO_360000 := nr1_; clear nr1_; have BK348 := nb_; have BK359 := nt_; have HB := nh_; have BKM := Aside0.mk h1m; clear nb_ nt_ nh_ h1m hgm) | ((with_reducible refine gate_callee (f := 125) rfl ?_); refine goesL_ (some 52) rfl rfl Tryz.func125 (by kernel_rfl) rfl #[.slice A0 l0.length c0, .string (rdOf ByteArray.empty t356 x41_2)] rfl (by (try simp only [List.map_toArray, List.map_cons, List.map_nil]); first | done | rfl | (simp only [List.length_drop, List.length_take]; rfl)) ?_; (with_reducible refine (xF34.calls k2 _ _ l0 (rdOf ByteArray.empty t356 x41_2) t361 t362 _ ?side1 HC0.out A24.out).mono ?_); (case side1 => repeat (first | exact (Kd.C_below HR0.out HB.out) | with_reducible first | apply cA_ | apply cN_ | apply cD_)); rintro e w' ⟨rfl, ⟨nd, rfl⟩⟩; refine ⟨_, rfl, ?_⟩; (try (rw [drewN_self wr]; generalize hq_ : World.drewN wr _ = wr; have n0_ : Aside0 (Kd.R k46 46 wr w.heap.size (fun _ => True) u360000 x360000_2) := ⟨by rw [← hq_]; exact (by (with_reducible repeat (first | apply Kd.R_alloc | apply Kd.R_drewN | apply Kd.R_drew)); exact HO_360000.out)⟩; have n1_ : Aside0 (Kd.R Kd.string 9 wr w.heap.size (fun _ => True) (.slice (some ad360) t356.length co20) t356) := ⟨by rw [← hq_]; exact (by (with_reducible repeat (first | apply Kd.R_alloc | apply Kd.R_drewN | apply Kd.R_drew)); exact HO_39.out)⟩; have n2_ : Aside0 (wr.heap[gb348]? = some (.cells #[.slice none 0 0] 41 (0, 0))) := ⟨by rw [← hq_]; exact (by (with_reducible repeat (first | refine blk_drewN ?_ _ | refine blk_drew ?_ | refine blk_alloc ?_ _)); exact BK348.out)⟩; have n29_ : Aside0 (SM.Is wr gbM lm2) := ⟨by rw [← hq_]; exact (by (with_reducible repeat (first | refine SM.Is.drewN ?_ _ | refine SM.Is.drew ?_ | refine SM.Is.alloc ?_ _)); exact BKM.out)⟩; have n3_ : Aside0 (wr.heap[gb359]? = some (.cells #[u360000] 41 (0, 0))) := ⟨by rw [← hq_]; exact (by (with_reducible repeat (first | refine blk_drewN ?_ _ | refine blk_drew ?_ | refine blk_alloc ?_ _)); exact BK359.out)⟩; have n4_ : Aside0 (Below w.heap.size w wr) := ⟨by rw [← hq_]; exact (by repeat (first | (with_reducible first | exact HB.out | apply below_alloc | apply pw_below_drewN | apply below_drew1 | refine below_set ?_ GW348.out | refine below_set ?_ GW359.out) | exact HB.out))⟩; clear HO_360000 HO_39 BKM BK348 BK359 HB hq_; have HO_360000 := n0_; have HO_39 := n1_; have BK348 := n2_; have BKM := n29_; have BK359 := n3_; have HB := n4_; clear n0_ n1_ n2_ n3_ n4_ n29_))) | ((with_reducible refine gate_dst (N := 13) rfl ?_); refine box_event ?hg (N := 13) ?hd (cs := #[.int .i64 0, .int .i64 0, .bool false]) (t := 46) ?hr ?_; (case hd => rfl); (case hg => rfl); (case hr => first | (go_simp; done) | (go_simp; rfl)); intro gb363 hg w27 hbox hb; have n0_ := Aside0.mk (Kd.R_below (by (with_reducible repeat (first | apply Kd.R_alloc | apply Kd.R_drewN | apply Kd.R_drew)); exact HO_39.out) hb); have n1_ := Aside0.mk (Kd.R_below (Kd.R_elderB (by (with_reducible repeat (first | apply Kd.R_alloc | apply Kd.R_drewN | apply Kd.R_drew)); exact HO_360000.out) gb363 (Nat.le_of_eq hg.symm)) hb); have n2_ := Aside0.mk (blk_below (g := gb348) (o := .cells #[.slice none 0 0] 41 (0, 0)) (by (with_reducible repeat (first | refine blk_drewN ?_ _ | refine blk_drew ?_ | refine blk_alloc ?_ _)); exact BK348.out) hb); have n29_ := Aside0.mk (SM.Is.below (l := lm2) (by (with_reducible repeat (first | refine SM.Is.drewN ?_ _ | refine SM.Is.drew ?_ | refine SM.Is.alloc ?_ _)); exact BKM.out) hb); have n3_ := Aside0.mk (blk_below (g := gb359) (o := .cells #[u360000] 41 (0, 0)) (by (with_reducible repeat (first | refine blk_drewN ?_ _ | refine blk_drew ?_ | refine blk_alloc ?_ _)); exact BK359.out) hb); have n4_ := Aside0.mk (below_step (by repeat (first | (with_reducible first | exact HB.out | apply below_alloc | apply pw_below_drewN | apply below_drew1 | refine below_set ?_ GW348.out | refine below_set ?_ GW359.out) | exact HB.out)) hb); have n5_ := Aside0.mk (hbox); have n6_ := Aside0.mk ((by rw [hg]; exact (below_size (by repeat (first | (with_reducible first | exact HB.out | apply below_alloc | apply pw_below_drewN | apply below_drew1 | refine below_set ?_ GW348.out | refine below_set ?_ GW359.out) | exact HB.out))) : w.heap.size ≤ gb363)); have n7_ := Aside0.mk ((by rw [hg]; exact (below_size (by repeat (first | (with_reducible first | exact HB.out | apply below_alloc | apply pw_below_drewN | apply below_drew1 | refine below_set ?_ GW348.out | refine below_set ?_ GW359.out) | exact HB.out))) : w.heap.size ≤ gb363)); have n8_ := Aside0.mk ((by rw [hg]; exact Nat.ne_of_lt (blk_lt (g := gb348) (o := .cells #[.slice none 0 0] 41 (0, 0)) (by (with_reducible repeat (first | refine blk_drewN ?_ _ | refine blk_drew ?_ | refine blk_alloc ?_ _)); exact BK348.out)) : gb348 ≠ gb363)); have n89_ := Aside0.mk ((by rw [hg]; exact Nat.ne_of_lt (SM.Is.lt (l := lm2) (by (with_reducible repeat (first | refine SM.Is.drewN ?_ _ | refine SM.Is.drew ?_ | refine SM.Is.alloc ?_ _)); exact BKM.out)) : gbM ≠ gb363)); have n9_ := Aside0.mk ((by rw [hg]; exact Nat.ne_of_gt (blk_lt (g := gb348) (o := .cells #[.slice none 0 0] 41 (0, 0)) (by (with_reducible repeat (first | refine blk_drewN ?_ _ | refine blk_drew ?_ | refine blk_alloc ?_ _)); exact BK348.out)) : gb363 ≠ gb348)); have n99_ := Aside0.mk ((by rw [hg]; exact Nat.ne_of_gt (SM.Is.lt (l := lm2) (by (with_reducible repeat (first | refine SM.Is.drewN ?_ _ | refine SM.Is.drew ?_ | refine SM.Is.alloc ?_ _)); exact BKM.out)) : gb363 ≠ gbM)); have n10_ := Aside0.mk ((by rw [hg]; exact Nat.ne_of_lt (blk_lt (g := gb359) (o := .cells #[u360000] 41 (0, 0)) (by (with_reducible repeat (first | refine blk_drewN ?_ _ | refine blk_drew ?_ | refine blk_alloc ?_ _)); exact BK359.out)) : gb359 ≠ gb363)); have n11_ := Aside0.mk ((by rw [hg]; exact Nat.ne_of_gt (blk_lt (g := gb359) (o := .cells #[u360000] 41 (0, 0)) (by (with_reducible repeat (first | refine blk_drewN ?_ _ | refine blk_drew ?_ | refine blk_alloc ?_ _)); exact BK359.out)) : gb363 ≠ gb359)); clear HO_39; clear HO_360000; clear BKM; clear BK348; clear BK359; clear HB; have HO_39 := n0_; have HO_360000 := n1_; have BK348 := n2_; have BKM := n29_; have BK359 := n3_; have HB := n4_; have BK363 := n5_; have GW363 := n6_; have GW363 := n7_; have NB348_363 := n8_; have NBM_363 := n89_; have NB363_348 := n9_; have NB363_M := n99_; have NB359_363 := n10_; have NB363_359 := n11_; clear n0_ n1_ n2_ n3_ n4_ n5_ n6_ n7_ n8_ n9_ n10_ n11_ n29_ n89_ n99_; clear hb hbox hg; have hnb28 := NB363_348.out; have hnc28 := NB348_363.out; have hnb29 := NB363_359.out; have hnc29 := NB359_363.out; have hcz30_0 : w27.cell? ⟨gb363, 0, none⟩ = some (.int .i64 0) := (blk_cell BK363.out 0).trans rfl; have hcz30_1 : w27.cell? ⟨gb363, 1, none⟩ = some (.int .i64 0) := (blk_cell BK363.out 1).trans rfl; have hcz30_2 : w27.cell? ⟨gb363, 2, none⟩ = some (.bool false) := (blk_cell BK363.out 2).trans rfl; have hfz30_0 := blk_frozen BK363.out 0; have hfz30_1 := blk_frozen BK363.out 1; have hfz30_2 := blk_frozen BK363.out 2; have hnb31 := NB359_348.out; have hnc31 := NB348_359.out; have hcz32_0 : w27.cell? ⟨gb359, 0, none⟩ = some (u360000) := (blk_cell BK359.out 0).trans rfl; have hfz32_0 := blk_frozen BK359.out 0) | ((with_reducible refine gate_builtin (b := .append) (xs := #[.tmp 76, .tmp 78]) rfl ?_); at_builtin; refine Kd.R_append k46 (w0 := w) w.heap.size rfl (.tmp 76) (.tmp 78) 39 46 (.agg #[(.int .i64 0), (.int .i64 0), (.bool false)]) 24 rfl Tryz.underlying39 info46 rfl (by decide) (by omega) u360000 x360000_2 (⟨(-1), (-1), t362⟩ : S46) [.int .i64 (-1), .int .i64 (-1), .bool t362] (fun k_ => k_ ≠ gb363) (fun _ => False) rfl (by first | (go_simp; done) | (go_simp; rfl)) ?aP (fun _ hk => hk.elim) ?aF ?aO ?aB ?aS ?aL ?_; (case aP => exact k46_mkM _ _ _ (⟨(-1), (-1), t362⟩ : S46)); (case aB => exact (by repeat (first | (with_reducible first | exact HB.out | apply below_alloc | apply pw_below_drewN | apply below_drew1 | refine below_set ?_ GW348.out | refine below_set ?_ GW359.out | refine below_set ?_ GW363.out) | exact HB.out))); (case aF => exact (fun k_ hk => Kd.freshB (g := gb363) (o := .cells #[.int .i64 (-1), .int .i64 (-1), .bool t362] 46 (0, 0)) (by (with_reducible repeat (first | refine blk_drewN ?_ _ | refine blk_drew ?_ | refine blk_alloc ?_ _)); refine blk_put (cs := #[.int .i64 (-1), .int .i64 (-1), .bool false]) ?_ 2 _ rfl; (with_reducible repeat (first | refine blk_drewN ?_ _ | refine blk_drew ?_ | refine blk_alloc ?_ _)); refine blk_put (cs := #[.int .i64 (-1), .int .i64 0, .bool false]) ?_ 1 _ rfl; (with_reducible repeat (first | refine blk_drewN ?_ _ | refine blk_drew ?_ | refine blk_alloc ?_ _)); refine blk_put (cs := #[.int .i64 0, .int .i64 0, .bool false]) ?_ 0 _ rfl; (with_reducible repeat (first | refine blk_drewN ?_ _ | refine blk_drew ?_ | refine blk_alloc ?_ _)); exact BK363.out) k_ hk)); (case aO => exact (by (with_reducible repeat (first | apply Kd.R_alloc | apply Kd.R_drewN | apply Kd.R_drew)); exact Kd.R_mono (Kd.R_far (p := ⟨gb363, 2, none⟩) (Kd.R_far (p := ⟨gb363, 1, none⟩) (Kd.R_far (p := ⟨gb363, 0, none⟩) (Kd.R_mono HO_360000.out (fun k_ hk => (⟨hk, hk.2⟩ : _ ∧ k_ ≠ gb363))) (fun _ hk => hk.2) (.int .i64 (-1))) (fun _ hk => hk.2) (.int .i64 (-1))) (fun _ hk => hk.2) (.bool t362)) (fun _ hk => hk.1.2))); (case aS => exact (below_size (by repeat (first | (with_reducible first | exact HB.out | apply below_alloc | apply pw_below_drewN | apply below_drew1 | refine below_set ?_ GW348.out | refine below_set ?_ GW359.out | refine below_set ?_ GW363.out) | exact HB.out)))); (case aL => have := LMc26.out; omega); intro v365 w33 ho hb hg hat; rw [← Ny364.out] at ho; have n0_ := Aside0.mk (Kd.R_over' (by (with_reducible repeat (first | apply Kd.R_alloc | apply Kd.R_drewN | apply Kd.R_drew)); exact (Kd.R_mono (Kd.R_far (p := ⟨gb363, 2, none⟩) (Kd.R_far (p := ⟨gb363, 1, none⟩) (Kd.R_far (p := ⟨gb363, 0, none⟩) (Kd.R_types HO_39.out BK363.out (by decide)) (fun _ hk => hk.2) (.int .i64 (-1))) (fun _ hk => hk.2) (.int .i64 (-1))) (fun _ hk => hk.2) (.bool t362)) (fun _ h_ => h_.1))) (Kd.R_typed (by (with_reducible repeat (first | apply Kd.R_alloc | apply Kd.R_drewN | apply Kd.R_drew)); exact (Kd.R_mono (Kd.R_far (p := ⟨gb363, 2, none⟩) (Kd.R_far (p := ⟨gb363, 1, none⟩) (Kd.R_far (p := ⟨gb363, 0, none⟩) (Kd.R_mono HO_360000.out (fun k_ hk => (⟨hk, hk.2⟩ : _ ∧ k_ ≠ gb363))) (fun _ hk => hk.2) (.int .i64 (-1))) (fun _ hk => hk.2) (.int .i64 (-1))) (fun _ hk => hk.2) (.bool t362)) (fun _ h_ => h_.1)))) (by decide) hg); have n1_ := Aside0.mk (blk_grown (g := gb348) (o := .cells #[.slice none 0 0] 41 (0, 0)) (by (with_reducible repeat (first | refine blk_drewN ?_ _ | refine blk_drew ?_ | refine blk_alloc ?_ _)); refine blk_far ?_ NB348_363.out _; (with_reducible repeat (first | refine blk_drewN ?_ _ | refine blk_drew ?_ | refine blk_alloc ?_ _)); refine blk_far ?_ NB348_363.out _; (with_reducible repeat (first | refine blk_drewN ?_ _ | refine blk_drew ?_ | refine blk_alloc ?_ _)); refine blk_far ?_ NB348_363.out _; (with_reducible repeat (first | refine blk_drewN ?_ _ | refine blk_drew ?_ | refine blk_alloc ?_ _)); exact BK348.out) hg (Kd.R_ne HO_360000.out BK348.out (by decide))); have n19_ := Aside0.mk (SM.Is.grown (l := lm2) (by (with_reducible repeat (first | refine SM.Is.drewN ?_ _ | refine SM.Is.drew ?_ | refine SM.Is.alloc ?_ _)); refine SM.Is.far ?_ NBM_363.out _; (with_reducible repeat (first | refine SM.Is.drewN ?_ _ | refine SM.Is.drew ?_ | refine SM.Is.alloc ?_ _)); refine SM.Is.far ?_ NBM_363.out _; (with_reducible repeat (first | refine SM.Is.drewN ?_ _ | refine SM.Is.drew ?_ | refine SM.Is.alloc ?_ _)); refine SM.Is.far ?_ NBM_363.out _; (with_reducible repeat (first | refine SM.Is.drewN ?_ _ | refine SM.Is.drew ?_ | refine SM.Is.alloc ?_ _)); exact BKM.out) hg (SM.Is.ne BKM.out HO_360000.out)); have n2_ := Aside0.mk (blk_grown (g := gb359) (o := .cells #[u360000] 41 (0, 0)) (by (with_reducible repeat (first | refine blk_drewN ?_ _ | refine blk_drew ?_ | refine blk_alloc ?_ _)); refine blk_far ?_ NB359_363.out _; (with_reducible repeat (first | refine blk_drewN ?_ _ | refine blk_drew ?_ | refine blk_alloc ?_ _)); refine blk_far ?_ NB359_363.out _; (with_reducible repeat (first | refine blk_drewN ?_ _ | refine blk_drew ?_ | refine blk_alloc ?_ _)); refine blk_far ?_ NB359_363.out _; (with_reducible repeat (first | refine blk_drewN ?_ _ | refine blk_drew ?_ | refine blk_alloc ?_ _)); exact BK359.out) hg (Kd.R_ne HO_360000.out BK359.out (by decide))); have n3_ := Aside0.mk (blk_grown (g := gb363) (o := .cells #[.int .i64 (-1), .int .i64 (-1), .bool t362] 46 (0, 0)) (by (with_reducible repeat (first | refine blk_drewN ?_ _ | refine blk_drew ?_ | refine blk_alloc ?_ _)); refine blk_put (cs := #[.int .i64 (-1), .int .i64 (-1), .bool false]) ?_ 2 _ rfl; (with_reducible repeat (first | refine blk_drewN ?_ _ | refine blk_drew ?_ | refine blk_alloc ?_ _)); refine blk_put (cs := #[.int .i64 (-1), .int .i64 0, .bool false]) ?_ 1 _ rfl; (with_reducible repeat (first | refine blk_drewN ?_ _ | refine blk_drew ?_ | refine blk_alloc ?_ _)); refine blk_put (cs := #[.int .i64 0, .int .i64 0, .bool false]) ?_ 0 _ rfl; (with_reducible repeat (first | refine blk_drewN ?_ _ | refine blk_drew ?_ | refine blk_alloc ?_ _)); exact BK363.out) hg (Kd.R_away HO_360000.out (fun _ hk => hk.2))); have n4_ := Aside0.mk (hb); have n5_ := Aside0.mk (ho); clear HO_39; clear BKM; clear BK348; clear BK359; clear BK363; clear HB; clear HO_360000; have HO_39 := n0_; have BK348 := n1_; have BKM := n19_; have BK359 := n2_; have BK363 := n3_; have HB := n4_; have HO366 := n5_; clear n0_ n1_ n2_ n3_ n4_ n5_ n19_; clear ho hb hg hat; obtain ⟨Ao34, co34, eo34⟩ := Kd.R_slice HO366.out; subst eo34; have hcz35_0 : w33.cell? ⟨gb359, 0, none⟩ = some (u360000) := (blk_cell BK359.out 0).trans rfl; have hfz35_0 := blk_frozen BK359.out 0))
    go_roundg k2
    case measure => have := HK1.out; have := HK2.out; omega
    case rel => exact ⟨(wrap64 (x41_2 + 1)), (y364), (.slice Ao34 y364.length co34), (by first | rfl | (simp; done) | (simp [*]; done)), H', ⟨by have := HK1.out; have := HK2.out; omega⟩, ⟨by (with_reducible repeat (first | apply Kd.R_alloc | apply Kd.R_drewN | apply Kd.R_drew)); exact Kd.R_mono (Kd.R_far (p := ⟨gb359, 0, none⟩) (Kd.R_types HO_39.out BK359.out (by decide)) (fun _ hk => hk.2) (.slice Ao34 y364.length co34)) (fun _ hk => trivial)⟩, ⟨by (with_reducible repeat (first | apply Kd.R_alloc | apply Kd.R_drewN | apply Kd.R_drew)); exact Kd.R_mono (Kd.R_far (p := ⟨gb359, 0, none⟩) (Kd.R_types HO366.out BK359.out (by decide)) (fun _ hk => hk.2) (.slice Ao34 y364.length co34)) (fun _ hk => trivial)⟩, ⟨by (with_reducible repeat (first | refine blk_drewN ?_ _ | refine blk_drew ?_ | refine blk_alloc ?_ _)); refine blk_far ?_ NB348_359.out _; (with_reducible repeat (first | refine blk_drewN ?_ _ | refine blk_drew ?_ | refine blk_alloc ?_ _)); exact BK348.out⟩, ⟨by (with_reducible repeat (first | refine blk_drewN ?_ _ | refine blk_drew ?_ | refine blk_alloc ?_ _)); refine blk_put (cs := #[u360000]) ?_ 0 _ rfl; (with_reducible repeat (first | refine blk_drewN ?_ _ | refine blk_drew ?_ | refine blk_alloc ?_ _)); exact BK359.out⟩, ⟨by repeat (first | (with_reducible first | exact HB.out | apply below_alloc | apply pw_below_drewN | apply below_drew1 | refine below_set ?_ GW348.out | refine below_set ?_ GW359.out | refine below_set ?_ GW363.out) | exact HB.out)⟩, ⟨by rw [SM.next_rd t356 x41_2 lm2 HLM2.out HLN.out HLL.out HLL2.out HSZ.out]; (with_reducible repeat (first | refine SM.Is.drewN ?_ _ | refine SM.Is.drew ?_ | refine SM.Is.alloc ?_ _)); refine SM.Is.far ?_ NBM_359.out _; (with_reducible repeat (first | refine SM.Is.drewN ?_ _ | refine SM.Is.drew ?_ | refine SM.Is.alloc ?_ _)); exact BKM.out⟩⟩
   rw [if_neg c25] at H
   have c25b0 : ((rdOf ByteArray.empty t356 x41_2).toList == ([] : List UInt8)) = false := beq_eq_false_iff_ne.mpr c25
   have c25b1 : ((rdOf ByteArray.empty t356 x41_2).toList != ([] : List UInt8)) = true := bne_iff_ne.mpr c25
   obtain ⟨ji36, hji36⟩ : ∃ j_ : Int, (wrap64 (((rdOf ByteArray.empty t356 x41_2).size : Int) - 1)) = j_ := ⟨_, rfl⟩
   replace H : (if 0 ≤ (ji36) then (if (ji36) < ((rdOf ByteArray.empty t356 x41_2).size : Int) then (if (ji36) ≤ ((rdOf ByteArray.empty t356 x41_2).size : Int) then (if x360000_2.length < 5864062014805 then (iF28.l2 k2 l0 t356 (t356.length : Int) (wrap64 (x41_2 + 1)) (x360000_2 ++ [(⟨((bt (rdOf ByteArray.empty t356 x41_2) (ji36)) - 97) % 256, SM.at_ (List.take ((x41_2 : Int).toNat + 1) t356) ((rdOf ByteArray.empty t356 x41_2).extract 0 ((ji36) : Int).toNat), t362⟩ : S46)])) else (none)) else (none)) else (none)) else (none)) = some r := by first | (rw [hji36] at H; exact H) | (simp only [hji36] at H ⊢; exact H)
   (try rw [hji36] at A24)
   have hji36w : (IntKind.i64.wrap (((rdOf ByteArray.empty t356 x41_2).size : Int) - 1)) = ji36 := (i64_w _).trans hji36
   obtain ⟨mv, hmv⟩ : ∃ m_ : Int, SM.at_ (List.take ((x41_2 : Int).toNat + 1) t356) ((rdOf ByteArray.empty t356 x41_2).extract 0 ((ji36) : Int).toNat) = m_ := ⟨_, rfl⟩
   rw [hmv] at H
   have HMV := Aside0.mk hmv
   clear hmv
   by_cases c37 : 0 ≤ (ji36)
   rotate_left
   ·
    rw [if_neg c37] at H
    exact absurd H (by simp)
   rw [if_pos c37] at H
   have c37b0 : decide (0 ≤ (ji36)) = true := dT_ c37
   clear c37
   by_cases c38 : (ji36) < ((rdOf ByteArray.empty t356 x41_2).size : Int)
   rotate_left
   ·
    rw [if_neg c38] at H
    exact absurd H (by simp)
   rw [if_pos c38] at H
   have c38b0 : decide ((ji36) < ((rdOf ByteArray.empty t356 x41_2).size : Int)) = true := dT_ c38
   clear c38
   have c40b0 := eq_true (oD_ (by first | (with_reducible assumption) | assumption) : 0 ≤ (ji36))
   by_cases c41 : (ji36) ≤ ((rdOf ByteArray.empty t356 x41_2).size : Int)
   rotate_left
   ·
    rw [if_neg c41] at H
    exact absurd H (by simp)
   rw [if_pos c41] at H
   have c41b0 := eq_true c41
   have c41b1 : decide ((ji36) ≤ ((rdOf ByteArray.empty t356 x41_2).size : Int)) = true := dT_ c41
   clear c41
   by_cases c42 : x360000_2.length < 5864062014805
   rotate_left
   ·
    rw [if_neg c42] at H
    exact absurd H (by simp)
   rw [if_pos c42] at H
   have LMc42 := Aside0.mk c42
   clear c42
   obtain ⟨y367, hy367⟩ : ∃ y_ : List (S46), y_ = (x360000_2 ++ [(⟨((bt (rdOf ByteArray.empty t356 x41_2) (ji36)) - 97) % 256, mv, t362⟩ : S46)]) := ⟨_, rfl⟩
   replace H : (iF28.l2 k2 l0 t356 (t356.length : Int) (wrap64 (x41_2 + 1)) y367) = some r := by (try rw [hy367]); first | with_reducible exact H | with_reducible exact oS_ H | exact H
   have Ny367 := Aside0.mk hy367
   clear hy367
   have H' := Aside0.mk H
   clear H
   have p360 : 0 ≤ (x41_2 : Int) := oD_ (by first | (with_reducible assumption) | assumption)
   have q360 : x41_2 < (t356.length : Int) := oD_ (by first | (with_reducible assumption) | assumption)
   have HLL := Aside0.mk (show (lm.length : Int) = x41_2 from by rw [HLM.out, List.length_take]; omega)
   have HLL2 := Aside0.mk (show lm.length < t356.length from by rw [HLM.out, List.length_take]; omega)
   have HLP := Aside0.mk (SM.okL.size HSZ.out x41_2 p360 q360)
   have HLN := Aside0.mk (show lm ++ [rdOf ByteArray.empty t356 x41_2] = List.take ((x41_2 : Int).toNat + 1) t356 from by rw [HLM.out]; exact SM.take_rd t356 x41_2 p360 q360)
   have hwz_ : wrap64 ((bt (rdOf ByteArray.empty t356 x41_2) ji36 - 97) % 256) = (bt (rdOf ByteArray.empty t356 x41_2) ji36 - 97) % 256 := by unfold wrap64; omega
   obtain ⟨ad360, e360, hx360_0⟩ := Kd.at_string (Kd.R_reads' HO_39.out).2.2 x41_2 p360 q360
   cases e360
   replace p360 := eq_true p360
   replace q360 := eq_true q360
   try go_wp2_with (first | (at_mapUpdate; refine SM.put rfl (.tmp 46) (.tmp 47) (.tmp 48) 108 Tryz.underlying108 rfl gbM lm rfl (by (with_reducible repeat (first | refine SM.Is.drewN ?_ _ | refine SM.Is.drew ?_ | refine SM.Is.alloc ?_ _)); exact BKM.out) ?hn (rdOf ByteArray.empty t356 x41_2) ?hp rfl ?hv ?_; (case hn => have h1_ := SM.okL.len HSZ.out; have h2_ := HLL2.out; omega); (case hp => have h1_ := HLP.out; unfold maxLen; omega); (case hv => exact (congrArg (Value.int IntKind.i64) HLL.out).symm); intro w9m h1m hgm; obtain ⟨lm2, hlm2⟩ : ∃ l_ : List ByteArray, l_ = lm ++ [rdOf ByteArray.empty t356 x41_2] := ⟨_, rfl⟩; rw [← hlm2] at h1m; have HLM2 := Aside0.mk hlm2; clear hlm2; have nr0_ := Aside0.mk (SM.R_over (by (with_reducible repeat (first | apply Kd.R_alloc | apply Kd.R_drewN | apply Kd.R_drew)); exact HO_39.out) (by (with_reducible repeat (first | refine SM.Is.drewN ?_ _ | refine SM.Is.drew ?_ | refine SM.Is.alloc ?_ _)); exact BKM.out) hgm); have nr1_ := Aside0.mk (SM.R_over (by (with_reducible repeat (first | apply Kd.R_alloc | apply Kd.R_drewN | apply Kd.R_drew)); exact HO_360000.out) (by (with_reducible repeat (first | refine SM.Is.drewN ?_ _ | refine SM.Is.drew ?_ | refine SM.Is.alloc ?_ _)); exact BKM.out) hgm); have nb_ := Aside0.mk (blk_grown (g := gb348) (o := .cells #[.slice none 0 0] 41 (0, 0)) (by (with_reducible repeat (first | refine blk_drewN ?_ _ | refine blk_drew ?_ | refine blk_alloc ?_ _)); exact BK348.out) hgm (fun e_ => NBM_348.out (Option.some.inj e_).symm)); have nt_ := Aside0.mk (blk_grown (g := gb359) (by (with_reducible repeat (first | refine blk_drewN ?_ _ | refine blk_drew ?_ | refine blk_alloc ?_ _)); exact BK359.out) hgm (fun e_ => NBM_359.out (Option.some.inj e_).symm)); have nh_ := Aside0.mk (RowKit.Below.grown (by repeat (first | (with_reducible first | exact HB.out | apply below_alloc | apply pw_below_drewN | apply below_drew1) | exact HB.out)) hgm (below_size (by repeat (first | (with_reducible first | exact HB.out | apply below_alloc | apply pw_below_drewN | apply below_drew1) | exact HB.out))) (fun j hj => by cases hj; exact GEM.out)); clear HO_39 HO_360000 BK348 BK359 HB BKM; have HO_39 := nr0_; clear nr0_; have HO_360000 := nr1_; clear nr1_; have BK348 := nb_; have BK359 := nt_; have HB := nh_; have BKM := Aside0.mk h1m; clear nb_ nt_ nh_ h1m hgm) | ((with_reducible refine gate_callee (f := 125) rfl ?_); refine goesL_ (some 52) rfl rfl Tryz.func125 (by kernel_rfl) rfl #[.slice A0 l0.length c0, .string (rdOf ByteArray.empty t356 x41_2)] rfl (by (try simp only [List.map_toArray, List.map_cons, List.map_nil]); first | done | rfl | (simp only [List.length_drop, List.length_take]; rfl)) ?_; (with_reducible refine (xF34.calls k2 _ _ l0 (rdOf ByteArray.empty t356 x41_2) t361 t362 _ ?side1 HC0.out A24.out).mono ?_); (case side1 => repeat (first | exact (Kd.C_below HR0.out HB.out) | with_reducible first | apply cA_ | apply cN_ | apply cD_)); rintro e w' ⟨rfl, ⟨nd, rfl⟩⟩; refine ⟨_, rfl, ?_⟩; (try (rw [drewN_self wr]; generalize hq_ : World.drewN wr _ = wr; have n0_ : Aside0 (Kd.R k46 46 wr w.heap.size (fun _ => True) u360000 x360000_2) := ⟨by rw [← hq_]; exact (by (with_reducible repeat (first | apply Kd.R_alloc | apply Kd.R_drewN | apply Kd.R_drew)); exact HO_360000.out)⟩; have n1_ : Aside0 (Kd.R Kd.string 9 wr w.heap.size (fun _ => True) (.slice (some ad360) t356.length co20) t356) := ⟨by rw [← hq_]; exact (by (with_reducible repeat (first | apply Kd.R_alloc | apply Kd.R_drewN | apply Kd.R_drew)); exact HO_39.out)⟩; have n2_ : Aside0 (wr.heap[gb348]? = some (.cells #[.slice none 0 0] 41 (0, 0))) := ⟨by rw [← hq_]; exact (by (with_reducible repeat (first | refine blk_drewN ?_ _ | refine blk_drew ?_ | refine blk_alloc ?_ _)); exact BK348.out)⟩; have n29_ : Aside0 (SM.Is wr gbM lm2) := ⟨by rw [← hq_]; exact (by (with_reducible repeat (first | refine SM.Is.drewN ?_ _ | refine SM.Is.drew ?_ | refine SM.Is.alloc ?_ _)); exact BKM.out)⟩; have n3_ : Aside0 (wr.heap[gb359]? = some (.cells #[u360000] 41 (0, 0))) := ⟨by rw [← hq_]; exact (by (with_reducible repeat (first | refine blk_drewN ?_ _ | refine blk_drew ?_ | refine blk_alloc ?_ _)); exact BK359.out)⟩; have n4_ : Aside0 (Below w.heap.size w wr) := ⟨by rw [← hq_]; exact (by repeat (first | (with_reducible first | exact HB.out | apply below_alloc | apply pw_below_drewN | apply below_drew1 | refine below_set ?_ GW348.out | refine below_set ?_ GW359.out) | exact HB.out))⟩; clear HO_360000 HO_39 BKM BK348 BK359 HB hq_; have HO_360000 := n0_; have HO_39 := n1_; have BK348 := n2_; have BKM := n29_; have BK359 := n3_; have HB := n4_; clear n0_ n1_ n2_ n3_ n4_ n29_))) | ((with_reducible refine gate_dst (N := 13) rfl ?_); refine box_event ?hg (N := 13) ?hd (cs := #[.int .i64 0, .int .i64 0, .bool false]) (t := 46) ?hr ?_; (case hd => rfl); (case hg => rfl); (case hr => first | (go_simp; done) | (go_simp; rfl)); intro gb363 hg w43 hbox hb; have n0_ := Aside0.mk (Kd.R_below (by (with_reducible repeat (first | apply Kd.R_alloc | apply Kd.R_drewN | apply Kd.R_drew)); exact HO_39.out) hb); have n1_ := Aside0.mk (Kd.R_below (Kd.R_elderB (by (with_reducible repeat (first | apply Kd.R_alloc | apply Kd.R_drewN | apply Kd.R_drew)); exact HO_360000.out) gb363 (Nat.le_of_eq hg.symm)) hb); have n2_ := Aside0.mk (blk_below (g := gb348) (o := .cells #[.slice none 0 0] 41 (0, 0)) (by (with_reducible repeat (first | refine blk_drewN ?_ _ | refine blk_drew ?_ | refine blk_alloc ?_ _)); exact BK348.out) hb); have n29_ := Aside0.mk (SM.Is.below (l := lm2) (by (with_reducible repeat (first | refine SM.Is.drewN ?_ _ | refine SM.Is.drew ?_ | refine SM.Is.alloc ?_ _)); exact BKM.out) hb); have n3_ := Aside0.mk (blk_below (g := gb359) (o := .cells #[u360000] 41 (0, 0)) (by (with_reducible repeat (first | refine blk_drewN ?_ _ | refine blk_drew ?_ | refine blk_alloc ?_ _)); exact BK359.out) hb); have n4_ := Aside0.mk (below_step (by repeat (first | (with_reducible first | exact HB.out | apply below_alloc | apply pw_below_drewN | apply below_drew1 | refine below_set ?_ GW348.out | refine below_set ?_ GW359.out) | exact HB.out)) hb); have n5_ := Aside0.mk (hbox); have n6_ := Aside0.mk ((by rw [hg]; exact (below_size (by repeat (first | (with_reducible first | exact HB.out | apply below_alloc | apply pw_below_drewN | apply below_drew1 | refine below_set ?_ GW348.out | refine below_set ?_ GW359.out) | exact HB.out))) : w.heap.size ≤ gb363)); have n7_ := Aside0.mk ((by rw [hg]; exact (below_size (by repeat (first | (with_reducible first | exact HB.out | apply below_alloc | apply pw_below_drewN | apply below_drew1 | refine below_set ?_ GW348.out | refine below_set ?_ GW359.out) | exact HB.out))) : w.heap.size ≤ gb363)); have n8_ := Aside0.mk ((by rw [hg]; exact Nat.ne_of_lt (blk_lt (g := gb348) (o := .cells #[.slice none 0 0] 41 (0, 0)) (by (with_reducible repeat (first | refine blk_drewN ?_ _ | refine blk_drew ?_ | refine blk_alloc ?_ _)); exact BK348.out)) : gb348 ≠ gb363)); have n89_ := Aside0.mk ((by rw [hg]; exact Nat.ne_of_lt (SM.Is.lt (l := lm2) (by (with_reducible repeat (first | refine SM.Is.drewN ?_ _ | refine SM.Is.drew ?_ | refine SM.Is.alloc ?_ _)); exact BKM.out)) : gbM ≠ gb363)); have n9_ := Aside0.mk ((by rw [hg]; exact Nat.ne_of_gt (blk_lt (g := gb348) (o := .cells #[.slice none 0 0] 41 (0, 0)) (by (with_reducible repeat (first | refine blk_drewN ?_ _ | refine blk_drew ?_ | refine blk_alloc ?_ _)); exact BK348.out)) : gb363 ≠ gb348)); have n99_ := Aside0.mk ((by rw [hg]; exact Nat.ne_of_gt (SM.Is.lt (l := lm2) (by (with_reducible repeat (first | refine SM.Is.drewN ?_ _ | refine SM.Is.drew ?_ | refine SM.Is.alloc ?_ _)); exact BKM.out)) : gb363 ≠ gbM)); have n10_ := Aside0.mk ((by rw [hg]; exact Nat.ne_of_lt (blk_lt (g := gb359) (o := .cells #[u360000] 41 (0, 0)) (by (with_reducible repeat (first | refine blk_drewN ?_ _ | refine blk_drew ?_ | refine blk_alloc ?_ _)); exact BK359.out)) : gb359 ≠ gb363)); have n11_ := Aside0.mk ((by rw [hg]; exact Nat.ne_of_gt (blk_lt (g := gb359) (o := .cells #[u360000] 41 (0, 0)) (by (with_reducible repeat (first | refine blk_drewN ?_ _ | refine blk_drew ?_ | refine blk_alloc ?_ _)); exact BK359.out)) : gb363 ≠ gb359)); clear HO_39; clear HO_360000; clear BKM; clear BK348; clear BK359; clear HB; have HO_39 := n0_; have HO_360000 := n1_; have BK348 := n2_; have BKM := n29_; have BK359 := n3_; have HB := n4_; have BK363 := n5_; have GW363 := n6_; have GW363 := n7_; have NB348_363 := n8_; have NBM_363 := n89_; have NB363_348 := n9_; have NB363_M := n99_; have NB359_363 := n10_; have NB363_359 := n11_; clear n0_ n1_ n2_ n3_ n4_ n5_ n6_ n7_ n8_ n9_ n10_ n11_ n29_ n89_ n99_; clear hb hbox hg; have hnb44 := NB363_348.out; have hnc44 := NB348_363.out; have hnb45 := NB363_359.out; have hnc45 := NB359_363.out; have hcz46_0 : w43.cell? ⟨gb363, 0, none⟩ = some (.int .i64 0) := (blk_cell BK363.out 0).trans rfl; have hcz46_1 : w43.cell? ⟨gb363, 1, none⟩ = some (.int .i64 0) := (blk_cell BK363.out 1).trans rfl; have hcz46_2 : w43.cell? ⟨gb363, 2, none⟩ = some (.bool false) := (blk_cell BK363.out 2).trans rfl; have hfz46_0 := blk_frozen BK363.out 0; have hfz46_1 := blk_frozen BK363.out 1; have hfz46_2 := blk_frozen BK363.out 2))
   have n0_ : Aside0 (Kd.R Kd.string 9 (((w43.setCell ⟨gb363, 0, none⟩ (.int .i64 (-1))).setCell ⟨gb363, 1, none⟩ (.int .i64 (-1))).setCell ⟨gb363, 2, none⟩ (.bool t362)) w.heap.size (fun _ => True) (.slice (some ad360) t356.length co20) t356) := ⟨by (with_reducible repeat (first | apply Kd.R_alloc | apply Kd.R_drewN | apply Kd.R_drew)); exact Kd.R_mono (Kd.R_far (p := ⟨gb363, 2, none⟩) (Kd.R_far (p := ⟨gb363, 1, none⟩) (Kd.R_far (p := ⟨gb363, 0, none⟩) (Kd.R_types HO_39.out BK363.out (by decide)) (fun _ hk => hk.2) (.int .i64 (-1))) (fun _ hk => hk.2) (.int .i64 (-1))) (fun _ hk => hk.2) (.bool t362)) (fun _ hk => trivial)⟩
   have n1_ : Aside0 (Kd.R k46 46 (((w43.setCell ⟨gb363, 0, none⟩ (.int .i64 (-1))).setCell ⟨gb363, 1, none⟩ (.int .i64 (-1))).setCell ⟨gb363, 2, none⟩ (.bool t362)) w.heap.size (fun k_ => k_ ≠ gb363) u360000 x360000_2) := ⟨by (with_reducible repeat (first | apply Kd.R_alloc | apply Kd.R_drewN | apply Kd.R_drew)); exact Kd.R_mono (Kd.R_far (p := ⟨gb363, 2, none⟩) (Kd.R_far (p := ⟨gb363, 1, none⟩) (Kd.R_far (p := ⟨gb363, 0, none⟩) (Kd.R_mono HO_360000.out (fun k_ hk => (⟨hk, hk.2⟩ : _ ∧ k_ ≠ gb363))) (fun _ hk => hk.2) (.int .i64 (-1))) (fun _ hk => hk.2) (.int .i64 (-1))) (fun _ hk => hk.2) (.bool t362)) (fun _ hk => hk.1.2)⟩
   have n2_ : Aside0 ((((w43.setCell ⟨gb363, 0, none⟩ (.int .i64 (-1))).setCell ⟨gb363, 1, none⟩ (.int .i64 (-1))).setCell ⟨gb363, 2, none⟩ (.bool t362)).heap[gb348]? = some (.cells #[.slice none 0 0] 41 (0, 0))) := ⟨by (with_reducible repeat (first | refine blk_drewN ?_ _ | refine blk_drew ?_ | refine blk_alloc ?_ _)); refine blk_far ?_ NB348_363.out _; (with_reducible repeat (first | refine blk_drewN ?_ _ | refine blk_drew ?_ | refine blk_alloc ?_ _)); refine blk_far ?_ NB348_363.out _; (with_reducible repeat (first | refine blk_drewN ?_ _ | refine blk_drew ?_ | refine blk_alloc ?_ _)); refine blk_far ?_ NB348_363.out _; (with_reducible repeat (first | refine blk_drewN ?_ _ | refine blk_drew ?_ | refine blk_alloc ?_ _)); exact BK348.out⟩
   have n29_ : Aside0 (SM.Is (((w43.setCell ⟨gb363, 0, none⟩ (.int .i64 (-1))).setCell ⟨gb363, 1, none⟩ (.int .i64 (-1))).setCell ⟨gb363, 2, none⟩ (.bool t362)) gbM lm2) := ⟨by (with_reducible repeat (first | refine SM.Is.drewN ?_ _ | refine SM.Is.drew ?_ | refine SM.Is.alloc ?_ _)); refine SM.Is.far ?_ NBM_363.out _; (with_reducible repeat (first | refine SM.Is.drewN ?_ _ | refine SM.Is.drew ?_ | refine SM.Is.alloc ?_ _)); refine SM.Is.far ?_ NBM_363.out _; (with_reducible repeat (first | refine SM.Is.drewN ?_ _ | refine SM.Is.drew ?_ | refine SM.Is.alloc ?_ _)); refine SM.Is.far ?_ NBM_363.out _; (with_reducible repeat (first | refine SM.Is.drewN ?_ _ | refine SM.Is.drew ?_ | refine SM.Is.alloc ?_ _)); exact BKM.out⟩
   have n3_ : Aside0 ((((w43.setCell ⟨gb363, 0, none⟩ (.int .i64 (-1))).setCell ⟨gb363, 1, none⟩ (.int .i64 (-1))).setCell ⟨gb363, 2, none⟩ (.bool t362)).heap[gb359]? = some (.cells #[u360000] 41 (0, 0))) := ⟨by (with_reducible repeat (first | refine blk_drewN ?_ _ | refine blk_drew ?_ | refine blk_alloc ?_ _)); refine blk_far ?_ NB359_363.out _; (with_reducible repeat (first | refine blk_drewN ?_ _ | refine blk_drew ?_ | refine blk_alloc ?_ _)); refine blk_far ?_ NB359_363.out _; (with_reducible repeat (first | refine blk_drewN ?_ _ | refine blk_drew ?_ | refine blk_alloc ?_ _)); refine blk_far ?_ NB359_363.out _; (with_reducible repeat (first | refine blk_drewN ?_ _ | refine blk_drew ?_ | refine blk_alloc ?_ _)); exact BK359.out⟩
   have n4_ : Aside0 ((((w43.setCell ⟨gb363, 0, none⟩ (.int .i64 (-1))).setCell ⟨gb363, 1, none⟩ (.int .i64 (-1))).setCell ⟨gb363, 2, none⟩ (.bool t362)).heap[gb363]? = some (.cells #[.int .i64 (-1), .int .i64 (-1), .bool t362] 46 (0, 0))) := ⟨by (with_reducible repeat (first | refine blk_drewN ?_ _ | refine blk_drew ?_ | refine blk_alloc ?_ _)); refine blk_put (cs := #[.int .i64 (-1), .int .i64 (-1), .bool false]) ?_ 2 _ rfl; (with_reducible repeat (first | refine blk_drewN ?_ _ | refine blk_drew ?_ | refine blk_alloc ?_ _)); refine blk_put (cs := #[.int .i64 (-1), .int .i64 0, .bool false]) ?_ 1 _ rfl; (with_reducible repeat (first | refine blk_drewN ?_ _ | refine blk_drew ?_ | refine blk_alloc ?_ _)); refine blk_put (cs := #[.int .i64 0, .int .i64 0, .bool false]) ?_ 0 _ rfl; (with_reducible repeat (first | refine blk_drewN ?_ _ | refine blk_drew ?_ | refine blk_alloc ?_ _)); exact BK363.out⟩
   have n5_ : Aside0 (Below w.heap.size w (((w43.setCell ⟨gb363, 0, none⟩ (.int .i64 (-1))).setCell ⟨gb363, 1, none⟩ (.int .i64 (-1))).setCell ⟨gb363, 2, none⟩ (.bool t362))) := ⟨by repeat (first | (with_reducible first | exact HB.out | apply below_alloc | apply pw_below_drewN | apply below_drew1 | refine below_set ?_ GW348.out | refine below_set ?_ GW359.out | refine below_set ?_ GW363.out) | exact HB.out)⟩
   (try clear HO_39)
   (try clear HO_360000)
   (try clear BK348); (try clear BKM)
   (try clear BK359)
   (try clear BK363)
   (try clear HB)
   generalize (((w43.setCell ⟨gb363, 0, none⟩ (.int .i64 (-1))).setCell ⟨gb363, 1, none⟩ (.int .i64 (-1))).setCell ⟨gb363, 2, none⟩ (.bool t362)) = w47 at n0_ n1_ n2_ n3_ n4_ n5_ n29_ ⊢
   have HO_39 := n0_
   have HO_360000 := n1_
   have BK348 := n2_
   have BKM := n29_
   have BK359 := n3_
   have BK363 := n4_
   have HB := n5_
   clear n0_ n1_ n2_ n3_ n4_ n5_ n29_
   have n0_ := Aside0.mk (Kd.R_drew HO_39.out)
   have n1_ := Aside0.mk (Kd.R_drew HO_360000.out)
   have n2_ := Aside0.mk (blk_drew BK348.out)
   have n29_ := Aside0.mk (SM.Is.drew BKM.out)
   have n3_ := Aside0.mk (blk_drew BK359.out)
   have n4_ := Aside0.mk (blk_drew BK363.out)
   have n5_ := Aside0.mk (below_drew1 HB.out)
   clear HO_39
   clear HO_360000
   clear BKM; clear BK348
   clear BK359
   clear BK363
   clear HB
   have HO_39 := n0_
   have HO_360000 := n1_
   have BK348 := n2_
   have BKM := n29_
   have BK359 := n3_
   have BK363 := n4_
   have HB := n5_
   clear n0_ n1_ n2_ n3_ n4_ n5_ n29_
   have p39 : 0 ≤ ((ji36) : Int) := oD_ (by first | (with_reducible assumption) | assumption)
   have q39 : (ji36) < ((rdOf ByteArray.empty t356 x41_2).size : Int) := oD_ (by first | (with_reducible assumption) | assumption)
   have hx39 := bt_at (rdOf ByteArray.empty t356 x41_2) (ji36)
   replace p39 := eq_true p39
   replace q39 := eq_true q39
   refine start_ (n := 18) (S := fun w' => SM.Is w' gbM lm2) (ds := []) #[false, false, false, false, false, false, false, false, false, false, false, false, false, false, false, false, false, false] (by kernel_rfl) rfl rfl (SM.Is.drew BKM.out) (fun hHeld => ?_); refine with_tabW iF28.tab20 iF28.bits20 (fun HT_ HW_ => ?_)
   generalize w47.drew = w48 at HO_39 HO_360000 BKM BK348 BK359 BK363 HB hHeld ⊢
   refine pure_ (i := 0) (N := some 59) (v := ?_) (a' := ?_) #[true, false, false, false, false, false, false, false, false, false, false, false, false, false, false, false, false, false] rfl rfl (any_of HT_.out (by kernel_rfl)) (fun _ _ _ h => h) (Or.inl ⟨by rfl, ?_⟩) ?_ ?_
   rotate_left
   ·
    intro w'
    go_simp
    with_reducible rfl
   rotate_left
   ·
    simp only [Act.put, List.setIfInBounds_toArray, List.set_cons_zero, List.set_cons_succ, i64_w, i32_w]
    rfl
   refine pure_ (i := 1) (N := some 60) (v := ?_) (a' := ?_) #[true, true, false, false, false, false, false, false, false, false, false, false, false, false, false, false, false, false] rfl rfl (any_of HT_.out (by kernel_rfl)) (fun _ _ _ h => h) (Or.inl ⟨by rfl, ?_⟩) ?_ ?_
   rotate_left
   ·
    intro w'
    go_simp
    with_reducible rfl
   rotate_left
   ·
    simp only [Act.put, List.setIfInBounds_toArray, List.set_cons_zero, List.set_cons_succ, i64_w, i32_w]
    rfl
   refine pure_ (i := 2) (N := some 61) (v := ?_) (a' := ?_) #[true, true, true, false, false, false, false, false, false, false, false, false, false, false, false, false, false, false] rfl rfl (any_of HT_.out (by kernel_rfl)) (fun _ _ _ h => h) (Or.inl ⟨by rfl, ?_⟩) ?_ ?_
   rotate_left
   ·
    intro w'
    go_simp
    with_reducible rfl
   rotate_left
   ·
    simp only [Act.put, List.setIfInBounds_toArray, List.set_cons_zero, List.set_cons_succ, i64_w, i32_w]
    rfl
   refine pure_ (i := 3) (N := some 62) (v := ?_) (a' := ?_) #[true, true, true, true, false, false, false, false, false, false, false, false, false, false, false, false, false, false] rfl rfl (any_of HT_.out (by kernel_rfl)) (fun _ _ _ h => h) (Or.inl ⟨by rfl, ?_⟩) ?_ ?_
   rotate_left
   ·
    intro w'
    go_simp
    with_reducible rfl
   rotate_left
   ·
    simp only [Act.put, List.setIfInBounds_toArray, List.set_cons_zero, List.set_cons_succ, i64_w, i32_w]
    rfl
   refine pure_ (i := 7) (N := some 66) (v := ?_) (a' := ?_) #[true, true, true, true, false, false, false, true, false, false, false, false, false, false, false, false, false, false] rfl rfl (any_of HT_.out (by kernel_rfl)) (fun _ _ _ h => h) (Or.inl ⟨by rfl, ?_⟩) ?_ ?_
   rotate_left
   ·
    intro w'
    go_simp
    with_reducible rfl
   rotate_left
   ·
    simp only [Act.put, List.setIfInBounds_toArray, List.set_cons_zero, List.set_cons_succ, i64_w, i32_w]
    rfl
   refine pure_ (i := 8) (N := some 67) (v := ?_) (a' := ?_) #[true, true, true, true, false, false, false, true, true, false, false, false, false, false, false, false, false, false] rfl rfl (any_of HT_.out (by kernel_rfl)) (fun _ _ _ h => h) (Or.inl ⟨by rfl, ?_⟩) ?_ ?_
   rotate_left
   ·
    intro w'
    go_simp
    with_reducible rfl
   rotate_left
   ·
    simp only [Act.put, List.setIfInBounds_toArray, List.set_cons_zero, List.set_cons_succ, i64_w, i32_w]
    rfl
   refine pure_ (i := 9) (N := some 68) (v := ?_) (a' := ?_) #[true, true, true, true, false, false, false, true, true, true, false, false, false, false, false, false, false, false] rfl rfl (any_of HT_.out (by kernel_rfl)) (fun _ _ _ h => h) (Or.inl ⟨by rfl, ?_⟩) ?_ ?_
   rotate_left
   ·
    intro w'
    go_simp
    with_reducible rfl
   rotate_left
   ·
    simp only [Act.put, List.setIfInBounds_toArray, List.set_cons_zero, List.set_cons_succ, i64_w, i32_w]
    rfl
   refine pure_ (i := 10) (N := some 69) (v := ?_) (a' := ?_) #[true, true, true, true, false, false, false, true, true, true, true, false, false, false, false, false, false, false] rfl rfl (any_of HT_.out (by kernel_rfl)) (fun _ _ _ h => h) (Or.inl ⟨by rfl, ?_⟩) ?_ ?_
   rotate_left
   ·
    intro w'
    go_simp
    with_reducible rfl
   rotate_left
   ·
    simp only [Act.put, List.setIfInBounds_toArray, List.set_cons_zero, List.set_cons_succ, i64_w, i32_w]
    rfl
   refine pure_ (i := 11) (N := some 70) (v := ?_) (a' := ?_) #[true, true, true, true, false, false, false, true, true, true, true, true, false, false, false, false, false, false] rfl rfl (any_of HT_.out (by kernel_rfl)) (fun _ _ _ h => h) (Or.inl ⟨by rfl, ?_⟩) ?_ ?_
   rotate_left
   ·
    intro w'
    go_simp
    with_reducible rfl
   rotate_left
   ·
    simp only [Act.put, List.setIfInBounds_toArray, List.set_cons_zero, List.set_cons_succ, i64_w, i32_w]
    rfl
   refine pure_ (i := 12) (N := some 71) (v := ?_) (a' := ?_) #[true, true, true, true, false, false, false, true, true, true, true, true, true, false, false, false, false, false] rfl rfl (any_of HT_.out (by kernel_rfl)) (fun _ _ _ h => h) (Or.inl ⟨by rfl, ?_⟩) ?_ ?_
   rotate_left
   ·
    intro w'
    go_simp
    with_reducible rfl
   rotate_left
   ·
    simp only [Act.put, List.setIfInBounds_toArray, List.set_cons_zero, List.set_cons_succ, i64_w, i32_w]
    rfl
   refine take_ (i := 13) (N := some 72) (v := ?_) (a' := ?_) #[true, true, true, true, false, false, false, true, true, true, true, true, true, true, false, false, false, false] rfl rfl (take_ofW HT_.out HW_.out (by kernel_rfl)) (fun _ _ _ h => h) (Or.inl ⟨by rfl, ?_⟩) hHeld ?_ ?_
   rotate_left
   ·
    intro w' hS_
    have hlk_ := SM.get hS_ 108 Tryz.underlying108 ((rdOf ByteArray.empty t356 x41_2).extract 0 ((ji36) : Int).toNat) (SM.size_ext _ _ HLP.out)
    rw [show SM.at_ lm2 ((rdOf ByteArray.empty t356 x41_2).extract 0 ((ji36) : Int).toNat) = mv from by rw [HLM2.out, HLN.out]; exact HMV.out] at hlk_
    go_simp
    with_reducible rfl
   rotate_left
   ·
    simp only [Act.put, List.setIfInBounds_toArray, List.set_cons_zero, List.set_cons_succ, i64_w, i32_w]
    rfl
   refine take_ (i := 4) (N := some 63) (v := ?_) (a' := ?_) #[true, true, true, true, true, false, false, true, true, true, true, true, true, true, false, false, false, false] rfl rfl (take_ofW HT_.out HW_.out (by kernel_rfl)) (fun _ _ _ h => h) (Or.inl ⟨by rfl, ?_⟩) hHeld ?_ ?_
   rotate_left
   ·
    intro w' _
    go_simp
    with_reducible rfl
   rotate_left
   ·
    simp only [Act.put, List.setIfInBounds_toArray, List.set_cons_zero, List.set_cons_succ, i64_w, i32_w]
    rfl
   refine pure_ (i := 5) (N := some 64) (v := ?_) (a' := ?_) #[true, true, true, true, true, true, false, true, true, true, true, true, true, true, false, false, false, false] rfl rfl (any_of HT_.out (by kernel_rfl)) (fun _ _ _ h => h) (Or.inl ⟨by rfl, ?_⟩) ?_ ?_
   rotate_left
   ·
    intro w'
    go_simp
    with_reducible rfl
   rotate_left
   ·
    simp only [Act.put, List.setIfInBounds_toArray, List.set_cons_zero, List.set_cons_succ, i64_w, i32_w]
    rfl
   refine pure_ (i := 6) (N := some 65) (v := ?_) (a' := ?_) #[true, true, true, true, true, true, true, true, true, true, true, true, true, true, false, false, false, false] rfl rfl (any_of HT_.out (by kernel_rfl)) (fun _ _ _ h => h) (Or.inl ⟨by rfl, ?_⟩) ?_ ?_
   rotate_left
   ·
    intro w'
    go_simp
    with_reducible rfl
   rotate_left
   ·
    simp only [Act.put, List.setIfInBounds_toArray, List.set_cons_zero, List.set_cons_succ, i64_w, i32_w]
    rfl
   refine pure_ (i := 14) (N := some 73) (v := ?_) (a' := ?_) #[true, true, true, true, true, true, true, true, true, true, true, true, true, true, true, false, false, false] rfl rfl (any_of HT_.out (by kernel_rfl)) (fun _ _ _ h => h) (Or.inl ⟨by rfl, ?_⟩) ?_ ?_
   rotate_left
   ·
    intro w'
    go_simp
    with_reducible rfl
   rotate_left
   ·
    simp only [Act.put, List.setIfInBounds_toArray, List.set_cons_zero, List.set_cons_succ, i64_w, i32_w]
    rfl
   refine one_ (i := 15) (N := none) #[true, true, true, true, true, true, true, true, true, true, true, true, true, true, true, true, false, false] rfl rfl (one_of HT_.out (by kernel_rfl)) (by decide) (fun K hK => ?_)
   have hs49 : w48.cell? ⟨gb363, 0, none⟩ = some (.int .i64 (-1)) := (blk_cell BK363.out 0).trans rfl
   have hfs49 := blk_frozen BK363.out 0
   have hns49_0 := NB348_363.out
   have hns49_1 := NB359_363.out
   have hms49_0 := NB363_348.out
   have hms49_1 := NB363_359.out
   refine skip_ (w1 := ?_) (by rfl) rfl ?_ ?_
   rotate_left
   ·
    go_simp
    rfl
   refine hK.out _ _ (by exact SM.Is.far hHeld NBM_363.out _) (fun hHeld => ?_)
   clear hK K
   refine pure_ (i := 16) (N := some 74) (v := ?_) (a' := ?_) #[true, true, true, true, true, true, true, true, true, true, true, true, true, true, true, true, true, false] rfl rfl (any_of HT_.out (by kernel_rfl)) (fun _ _ _ h => h) (Or.inl ⟨by rfl, ?_⟩) ?_ ?_
   rotate_left
   ·
    intro w'
    go_simp
    with_reducible rfl
   rotate_left
   ·
    simp only [Act.put, List.setIfInBounds_toArray, List.set_cons_zero, List.set_cons_succ, i64_w, i32_w]
    rfl
   refine one_ (i := 17) (N := none) #[true, true, true, true, true, true, true, true, true, true, true, true, true, true, true, true, true, true] rfl rfl (one_of HT_.out (by kernel_rfl)) (by decide) (fun K hK => ?_)
   have hs50 : w48.cell? ⟨gb363, 1, none⟩ = some (.int .i64 (-1)) := (blk_cell BK363.out 1).trans rfl
   have hfs50 := blk_frozen BK363.out 1
   have hns50_0 := NB348_363.out
   have hns50_1 := NB359_363.out
   have hms50_0 := NB363_348.out
   have hms50_1 := NB363_359.out
   refine skip_ (w1 := ?_) (by rfl) rfl ?_ ?_
   rotate_left
   ·
    go_simp
    rfl
   refine hK.out _ _ (by exact SM.Is.far hHeld NBM_363.out _) (fun hHeld => ?_)
   clear hK K
   refine done_ (done_of HT_.out (by kernel_rfl)) ?_
   have hnb51 := NB359_348.out
   have hnc51 := NB348_359.out
   have hcz52_0 : w48.cell? ⟨gb359, 0, none⟩ = some (u360000) := (blk_cell BK359.out 0).trans rfl
   have hfz52_0 := blk_frozen BK359.out 0
   have hcz53_0 : w48.cell? ⟨gb363, 0, none⟩ = some (.int .i64 (-1)) := (blk_cell BK363.out 0).trans rfl
   have hcz53_1 : w48.cell? ⟨gb363, 1, none⟩ = some (.int .i64 (-1)) := (blk_cell BK363.out 1).trans rfl
   have hcz53_2 : w48.cell? ⟨gb363, 2, none⟩ = some (.bool t362) := (blk_cell BK363.out 2).trans rfl
   have hfz53_0 := blk_frozen BK363.out 0
   have hfz53_1 := blk_frozen BK363.out 1
   have hfz53_2 := blk_frozen BK363.out 2
   try go_wp2_with (first | ((with_reducible refine gate_builtin (b := .append) (xs := #[.tmp 76, .tmp 78]) rfl ?_); at_builtin; refine Kd.R_append k46 (w0 := w) w.heap.size rfl (.tmp 76) (.tmp 78) 39 46 (.agg #[(.int .i64 0), (.int .i64 0), (.bool false)]) 24 rfl Tryz.underlying39 info46 rfl (by decide) (by omega) u360000 x360000_2 (⟨((bt (rdOf ByteArray.empty t356 x41_2) (ji36)) - 97) % 256, mv, t362⟩ : S46) [.int .i64 (((bt (rdOf ByteArray.empty t356 x41_2) (ji36)) - 97) % 256), .int .i64 mv, .bool t362] (fun k_ => k_ ≠ gb363) (fun _ => False) rfl (by first | (go_simp; done) | (go_simp; rfl)) ?aP (fun _ hk => hk.elim) ?aF ?aO ?aB ?aS ?aL ?_; (case aP => exact k46_mkM _ _ _ (⟨((bt (rdOf ByteArray.empty t356 x41_2) (ji36)) - 97) % 256, mv, t362⟩ : S46)); (case aB => exact (by repeat (first | (with_reducible first | exact HB.out | apply below_alloc | apply pw_below_drewN | apply below_drew1 | refine below_set ?_ GW348.out | refine below_set ?_ GW359.out | refine below_set ?_ GW363.out) | exact HB.out))); (case aF => exact (fun k_ hk => Kd.freshB (g := gb363) (o := .cells #[.int .i64 (((bt (rdOf ByteArray.empty t356 x41_2) (ji36)) - 97) % 256), .int .i64 mv, .bool t362] 46 (0, 0)) (by (with_reducible repeat (first | refine blk_drewN ?_ _ | refine blk_drew ?_ | refine blk_alloc ?_ _)); refine blk_put (cs := #[.int .i64 (((bt (rdOf ByteArray.empty t356 x41_2) (ji36)) - 97) % 256), .int .i64 (-1), .bool t362]) ?_ 1 _ rfl; (with_reducible repeat (first | refine blk_drewN ?_ _ | refine blk_drew ?_ | refine blk_alloc ?_ _)); refine blk_put (cs := #[.int .i64 (-1), .int .i64 (-1), .bool t362]) ?_ 0 _ rfl; (with_reducible repeat (first | refine blk_drewN ?_ _ | refine blk_drew ?_ | refine blk_alloc ?_ _)); exact BK363.out) k_ hk)); (case aO => exact (by (with_reducible repeat (first | apply Kd.R_alloc | apply Kd.R_drewN | apply Kd.R_drew)); exact Kd.R_mono (Kd.R_far (p := ⟨gb363, 1, none⟩) (Kd.R_far (p := ⟨gb363, 0, none⟩) (Kd.R_mono HO_360000.out (fun k_ hk => (⟨hk, hk⟩ : _ ∧ k_ ≠ gb363))) (fun _ hk => hk.2) (.int .i64 (((bt (rdOf ByteArray.empty t356 x41_2) (ji36)) - 97) % 256))) (fun _ hk => hk.2) (.int .i64 mv)) (fun _ hk => hk.1))); (case aS => exact (below_size (by repeat (first | (with_reducible first | exact HB.out | apply below_alloc | apply pw_below_drewN | apply below_drew1 | refine below_set ?_ GW348.out | refine below_set ?_ GW359.out | refine below_set ?_ GW363.out) | exact HB.out)))); (case aL => have := LMc42.out; omega); intro v368 w54 ho hb hg hat; rw [← Ny367.out] at ho; have n0_ := Aside0.mk (Kd.R_over' (by (with_reducible repeat (first | apply Kd.R_alloc | apply Kd.R_drewN | apply Kd.R_drew)); exact (Kd.R_mono (Kd.R_far (p := ⟨gb363, 1, none⟩) (Kd.R_far (p := ⟨gb363, 0, none⟩) (Kd.R_types HO_39.out BK363.out (by decide)) (fun _ hk => hk.2) (.int .i64 (((bt (rdOf ByteArray.empty t356 x41_2) (ji36)) - 97) % 256))) (fun _ hk => hk.2) (.int .i64 mv)) (fun _ h_ => h_.1))) (Kd.R_typed (by (with_reducible repeat (first | apply Kd.R_alloc | apply Kd.R_drewN | apply Kd.R_drew)); exact (Kd.R_mono (Kd.R_far (p := ⟨gb363, 1, none⟩) (Kd.R_far (p := ⟨gb363, 0, none⟩) (Kd.R_mono HO_360000.out (fun k_ hk => (⟨hk, hk⟩ : _ ∧ k_ ≠ gb363))) (fun _ hk => hk.2) (.int .i64 (((bt (rdOf ByteArray.empty t356 x41_2) (ji36)) - 97) % 256))) (fun _ hk => hk.2) (.int .i64 mv)) (fun _ h_ => h_.1)))) (by decide) hg); have n1_ := Aside0.mk (blk_grown (g := gb348) (o := .cells #[.slice none 0 0] 41 (0, 0)) (by (with_reducible repeat (first | refine blk_drewN ?_ _ | refine blk_drew ?_ | refine blk_alloc ?_ _)); refine blk_far ?_ NB348_363.out _; (with_reducible repeat (first | refine blk_drewN ?_ _ | refine blk_drew ?_ | refine blk_alloc ?_ _)); refine blk_far ?_ NB348_363.out _; (with_reducible repeat (first | refine blk_drewN ?_ _ | refine blk_drew ?_ | refine blk_alloc ?_ _)); exact BK348.out) hg (Kd.R_ne HO_360000.out BK348.out (by decide))); have n19_ := Aside0.mk (SM.Is.grown (l := lm2) (by (with_reducible repeat (first | refine SM.Is.drewN ?_ _ | refine SM.Is.drew ?_ | refine SM.Is.alloc ?_ _)); refine SM.Is.far ?_ NBM_363.out _; (with_reducible repeat (first | refine SM.Is.drewN ?_ _ | refine SM.Is.drew ?_ | refine SM.Is.alloc ?_ _)); refine SM.Is.far ?_ NBM_363.out _; (with_reducible repeat (first | refine SM.Is.drewN ?_ _ | refine SM.Is.drew ?_ | refine SM.Is.alloc ?_ _)); exact BKM.out) hg (SM.Is.ne BKM.out HO_360000.out)); have n2_ := Aside0.mk (blk_grown (g := gb359) (o := .cells #[u360000] 41 (0, 0)) (by (with_reducible repeat (first | refine blk_drewN ?_ _ | refine blk_drew ?_ | refine blk_alloc ?_ _)); refine blk_far ?_ NB359_363.out _; (with_reducible repeat (first | refine blk_drewN ?_ _ | refine blk_drew ?_ | refine blk_alloc ?_ _)); refine blk_far ?_ NB359_363.out _; (with_reducible repeat (first | refine blk_drewN ?_ _ | refine blk_drew ?_ | refine blk_alloc ?_ _)); exact BK359.out) hg (Kd.R_ne HO_360000.out BK359.out (by decide))); have n3_ := Aside0.mk (blk_grown (g := gb363) (o := .cells #[.int .i64 (((bt (rdOf ByteArray.empty t356 x41_2) (ji36)) - 97) % 256), .int .i64 mv, .bool t362] 46 (0, 0)) (by (with_reducible repeat (first | refine blk_drewN ?_ _ | refine blk_drew ?_ | refine blk_alloc ?_ _)); refine blk_put (cs := #[.int .i64 (((bt (rdOf ByteArray.empty t356 x41_2) (ji36)) - 97) % 256), .int .i64 (-1), .bool t362]) ?_ 1 _ rfl; (with_reducible repeat (first | refine blk_drewN ?_ _ | refine blk_drew ?_ | refine blk_alloc ?_ _)); refine blk_put (cs := #[.int .i64 (-1), .int .i64 (-1), .bool t362]) ?_ 0 _ rfl; (with_reducible repeat (first | refine blk_drewN ?_ _ | refine blk_drew ?_ | refine blk_alloc ?_ _)); exact BK363.out) hg (Kd.R_away HO_360000.out (fun _ hk => hk))); have n4_ := Aside0.mk (hb); have n5_ := Aside0.mk (ho); clear HO_39; clear BKM; clear BK348; clear BK359; clear BK363; clear HB; clear HO_360000; have HO_39 := n0_; have BK348 := n1_; have BKM := n19_; have BK359 := n2_; have BK363 := n3_; have HB := n4_; have HO369 := n5_; clear n0_ n1_ n2_ n3_ n4_ n5_ n19_; clear ho hb hg hat; obtain ⟨Ao55, co55, eo55⟩ := Kd.R_slice HO369.out; subst eo55; have hcz56_0 : w54.cell? ⟨gb359, 0, none⟩ = some (u360000) := (blk_cell BK359.out 0).trans rfl; have hfz56_0 := blk_frozen BK359.out 0))
   go_roundg k2
   case measure => have := HK1.out; have := HK2.out; omega
   case rel => exact ⟨(wrap64 (x41_2 + 1)), (y367), (.slice Ao55 y367.length co55), (by first | rfl | (simp; done) | (simp [*]; done)), H', ⟨by have := HK1.out; have := HK2.out; omega⟩, ⟨by (with_reducible repeat (first | apply Kd.R_alloc | apply Kd.R_drewN | apply Kd.R_drew)); exact Kd.R_mono (Kd.R_far (p := ⟨gb359, 0, none⟩) (Kd.R_types HO_39.out BK359.out (by decide)) (fun _ hk => hk.2) (.slice Ao55 y367.length co55)) (fun _ hk => trivial)⟩, ⟨by (with_reducible repeat (first | apply Kd.R_alloc | apply Kd.R_drewN | apply Kd.R_drew)); exact Kd.R_mono (Kd.R_far (p := ⟨gb359, 0, none⟩) (Kd.R_types HO369.out BK359.out (by decide)) (fun _ hk => hk.2) (.slice Ao55 y367.length co55)) (fun _ hk => trivial)⟩, ⟨by (with_reducible repeat (first | refine blk_drewN ?_ _ | refine blk_drew ?_ | refine blk_alloc ?_ _)); refine blk_far ?_ NB348_359.out _; (with_reducible repeat (first | refine blk_drewN ?_ _ | refine blk_drew ?_ | refine blk_alloc ?_ _)); exact BK348.out⟩, ⟨by (with_reducible repeat (first | refine blk_drewN ?_ _ | refine blk_drew ?_ | refine blk_alloc ?_ _)); refine blk_put (cs := #[u360000]) ?_ 0 _ rfl; (with_reducible repeat (first | refine blk_drewN ?_ _ | refine blk_drew ?_ | refine blk_alloc ?_ _)); exact BK359.out⟩, ⟨by repeat (first | (with_reducible first | exact HB.out | apply below_alloc | apply pw_below_drewN | apply below_drew1 | refine below_set ?_ GW348.out | refine below_set ?_ GW359.out | refine below_set ?_ GW363.out) | exact HB.out)⟩, ⟨by rw [SM.next_rd t356 x41_2 lm2 HLM2.out HLN.out HLL.out HLL2.out HSZ.out]; (with_reducible repeat (first | refine SM.Is.drewN ?_ _ | refine SM.Is.drew ?_ | refine SM.Is.alloc ?_ _)); refine SM.Is.far ?_ NBM_359.out _; (with_reducible repeat (first | refine SM.Is.drewN ?_ _ | refine SM.Is.drew ?_ | refine SM.Is.alloc ?_ _)); exact BKM.out⟩⟩
def iF24.f (k : Nat) (l0 : List ByteArray) : Option ((List (S46)) × Bool) := (iF25.f l0).bind fun t371 => (if (t371.length : Int) > 40 then (some (([] : List (S46)), false)) else ((iF28.f k t371).bind fun t374 => (some (t374, true))))
theorem iF24.mono : ∀ a0 k, LeO (iF24.f k a0) (iF24.f (k + 1) a0) := by
 intro a0 k
 unfold iF24.f
 repeat' with_reducible first | exact iF28.mono _ _ | exact LeO.refl _ | exact LeO.none _ | refine LeO.ite ?_ ?_ | refine LeO.bind ?_ (fun _ => ?_)
theorem iF24.calls (k : Nat) (A0 : Option Addr) (c0 : Nat) (l0 : List ByteArray) (r1 : List (S46)) (r2 : Bool) (w : World) (hr0 : Kd.C Kd.string w A0 l0.length l0) (hc0 : l0.length ≤ c0) (h : iF24.f k l0 = some (r1, r2)) :
  Calls Tryz.prog 89 #[.slice A0 l0.length c0] w fun e w' => ∃ v0_ : Value, e = .returned (.tuple #[.agg #[v0_], .bool r2]) ∧ Kd.R k46 46 w' w.heap.size (fun _ => True) v0_ r1 ∧ Below w.heap.size w w' := by
 have hu41 := Tryz.underlying41
 have HR0 := Aside0.mk hr0
 have HC0 := Aside0.mk hc0
 clear hr0 hc0
 have HB := Aside0.mk (Below.refl w.heap.size w)
 have H : ((iF25.f l0).bind fun t371 => (if (t371.length : Int) > 40 then (some (([] : List (S46)), false)) else ((iF28.f k t371).bind fun t374 => (some (t374, true))))) = some (r1, r2) := h
 clear h
 replace H := Option.bind_eq_some_iff.mp H
 obtain ⟨t371, A20, H⟩ := H
 replace H : (if (t371.length : Int) > 40 then (some (([] : List (S46)), false)) else ((iF28.f k t371).bind fun t374 => (some (t374, true)))) = some (r1, r2) := H
 have A2 := Aside0.mk A20
 clear A20
 by_cases c3 : (t371.length : Int) > 40
 ·
  rw [if_pos c3] at H
  have c3b0 : decide (40 < (t371.length : Int)) = true := dT_ c3
  have c3b1 : decide (40 < t371.length) = true := dT_ (by omega)
  clear c3
  simp only [Option.some.injEq, Prod.mk.injEq] at H
  obtain ⟨rfl, rfl⟩ := H
  go_enter Tryz.func89, Tryz.ntmps89
  go_wp2_with (first | ((with_reducible refine gate_dst (N := 2) rfl ?_); refine box_event ?hg (N := 2) ?hd (cs := #[.slice none 0 0]) (t := 41) ?hr ?_; (case hd => rfl); (case hg => rfl); (case hr => first | (go_simp; done) | (go_simp; rfl)); intro gb370 hg w4 hbox hb; have n0_ := Aside0.mk (below_step (by repeat (first | (with_reducible first | exact HB.out | apply below_alloc | apply pw_below_drewN | apply below_drew1) | exact HB.out)) hb); have n1_ := Aside0.mk (hbox); have n2_ := Aside0.mk ((by rw [hg]; exact (below_size (by repeat (first | (with_reducible first | exact HB.out | apply below_alloc | apply pw_below_drewN | apply below_drew1) | exact HB.out))) : w.heap.size ≤ gb370)); have n3_ := Aside0.mk ((by rw [hg]; exact (below_size (by repeat (first | (with_reducible first | exact HB.out | apply below_alloc | apply pw_below_drewN | apply below_drew1) | exact HB.out))) : w.heap.size ≤ gb370)); clear HB; have HB := n0_; have BK370 := n1_; have GW370 := n2_; have GW370 := n3_; clear n0_ n1_ n2_ n3_; clear hb hbox hg) | ((with_reducible refine gate_callee (f := 79) rfl ?_); refine goesL_ (some 6) rfl rfl Tryz.func79 (by kernel_rfl) rfl #[.slice A0 l0.length c0] rfl (by (try simp only [List.map_toArray, List.map_cons, List.map_nil]); first | done | rfl | (simp only [List.length_drop, List.length_take]; rfl)) ?_; (with_reducible refine (iF25.calls _ _ l0 t371 _ ?side1 HC0.out A2.out).mono ?_); (case side1 => repeat (first | exact (Kd.C_below HR0.out HB.out) | with_reducible first | apply cA_ | apply cN_ | apply cD_)); rintro e w5 ⟨v372, rfl, ho0, hb⟩; refine ⟨_, rfl, ?_⟩; have n0_ := Aside0.mk (Kd.R_lower ho0 (below_size (by repeat (first | (with_reducible first | exact HB.out | apply below_alloc | apply pw_below_drewN | apply below_drew1 | refine below_set ?_ GW370.out) | exact HB.out)))); have n1_ := Aside0.mk (blk_below (g := gb370) (o := .cells #[.slice none 0 0] 41 (0, 0)) (by (with_reducible repeat (first | refine blk_drewN ?_ _ | refine blk_drew ?_ | refine blk_alloc ?_ _)); exact BK370.out) hb); have n2_ := Aside0.mk (below_step (by repeat (first | (with_reducible first | exact HB.out | apply below_alloc | apply pw_below_drewN | apply below_drew1 | refine below_set ?_ GW370.out) | exact HB.out)) hb); clear BK370; clear HB; have HO373 := n0_; have BK370 := n1_; have HB := n2_; clear n0_ n1_ n2_; (try clear hb); (try clear hb2); (try clear hk); (try clear hi); (try clear ho0); obtain ⟨Ao6, co6, eo6⟩ := Kd.R_slice HO373.out; subst eo6; have hcz7_0 : w5.cell? ⟨gb370, 0, none⟩ = some (.slice none 0 0) := (blk_cell BK370.out 0).trans rfl; have hfz7_0 := blk_frozen BK370.out 0))
  refine bodyPost_ret (results_ct rfl _ _ gb370 41 #[.slice none 0 0] (0, 0) _ rfl (by (with_reducible repeat (first | refine blk_drewN ?_ _ | refine blk_drew ?_ | refine blk_alloc ?_ _)); refine blk_put (cs := #[.slice none 0 0]) ?_ 0 _ rfl; (with_reducible repeat (first | refine blk_drewN ?_ _ | refine blk_drew ?_ | refine blk_alloc ?_ _)); exact BK370.out) Tryz.underlying41 rfl (by kernel_rfl)) rfl ?_
  exact ⟨_, by first | rfl | (simp [errW_none, errW_some] <;> rfl) | (simp [*, errW_none, errW_some] <;> rfl), by first | exact Kd.R_nil _ _ _ _ _ | exact Kd.N_nil _ _ _ _ _ | exact Kd.V_nil _ _ _ _ _ | exact Kd.Q_nil _ _ _ _ _ | exact Kd.S_nil _ _ _ _ _, by repeat (first | (with_reducible first | exact HB.out | apply below_alloc | apply pw_below_drewN | apply below_drew1 | refine below_set ?_ GW370.out) | exact HB.out)⟩
 rw [if_neg c3] at H
 have c3b0 : decide (40 < (t371.length : Int)) = false := dF_ c3
 have c3b1 : decide (40 < t371.length) = false := dF_ (by omega)
 clear c3
 replace H := Option.bind_eq_some_iff.mp H
 obtain ⟨t374, A80, H⟩ := H
 replace H : (some (t374, true)) = some (r1, r2) := H
 have A8 := Aside0.mk A80
 clear A80
 simp only [Option.some.injEq, Prod.mk.injEq] at H
 obtain ⟨rfl, rfl⟩ := H
 go_enter Tryz.func89, Tryz.ntmps89
 go_wp2_with (first | ((with_reducible refine gate_dst (N := 2) rfl ?_); refine box_event ?hg (N := 2) ?hd (cs := #[.slice none 0 0]) (t := 41) ?hr ?_; (case hd => rfl); (case hg => rfl); (case hr => first | (go_simp; done) | (go_simp; rfl)); intro gb370 hg w9 hbox hb; have n0_ := Aside0.mk (below_step (by repeat (first | (with_reducible first | exact HB.out | apply below_alloc | apply pw_below_drewN | apply below_drew1) | exact HB.out)) hb); have n1_ := Aside0.mk (hbox); have n2_ := Aside0.mk ((by rw [hg]; exact (below_size (by repeat (first | (with_reducible first | exact HB.out | apply below_alloc | apply pw_below_drewN | apply below_drew1) | exact HB.out))) : w.heap.size ≤ gb370)); have n3_ := Aside0.mk ((by rw [hg]; exact (below_size (by repeat (first | (with_reducible first | exact HB.out | apply below_alloc | apply pw_below_drewN | apply below_drew1) | exact HB.out))) : w.heap.size ≤ gb370)); clear HB; have HB := n0_; have BK370 := n1_; have GW370 := n2_; have GW370 := n3_; clear n0_ n1_ n2_ n3_; clear hb hbox hg) | ((with_reducible refine gate_callee (f := 79) rfl ?_); refine goesL_ (some 6) rfl rfl Tryz.func79 (by kernel_rfl) rfl #[.slice A0 l0.length c0] rfl (by (try simp only [List.map_toArray, List.map_cons, List.map_nil]); first | done | rfl | (simp only [List.length_drop, List.length_take]; rfl)) ?_; (with_reducible refine (iF25.calls _ _ l0 t371 _ ?side1 HC0.out A2.out).mono ?_); (case side1 => repeat (first | exact (Kd.C_below HR0.out HB.out) | with_reducible first | apply cA_ | apply cN_ | apply cD_)); rintro e w10 ⟨v372, rfl, ho0, hb⟩; refine ⟨_, rfl, ?_⟩; have n0_ := Aside0.mk (Kd.R_lower ho0 (below_size (by repeat (first | (with_reducible first | exact HB.out | apply below_alloc | apply pw_below_drewN | apply below_drew1 | refine below_set ?_ GW370.out) | exact HB.out)))); have n1_ := Aside0.mk (blk_below (g := gb370) (o := .cells #[.slice none 0 0] 41 (0, 0)) (by (with_reducible repeat (first | refine blk_drewN ?_ _ | refine blk_drew ?_ | refine blk_alloc ?_ _)); exact BK370.out) hb); have n2_ := Aside0.mk (below_step (by repeat (first | (with_reducible first | exact HB.out | apply below_alloc | apply pw_below_drewN | apply below_drew1 | refine below_set ?_ GW370.out) | exact HB.out)) hb); clear BK370; clear HB; have HO373 := n0_; have BK370 := n1_; have HB := n2_; clear n0_ n1_ n2_; (try clear hb); (try clear hb2); (try clear hk); (try clear hi); (try clear ho0); obtain ⟨Ao11, co11, eo11⟩ := Kd.R_slice HO373.out; subst eo11) | ((with_reducible refine gate_callee (f := 102) rfl ?_); refine goesL_ (some 12) rfl rfl Tryz.func102 (by kernel_rfl) rfl #[.slice Ao11 t371.length co11] rfl (by (try simp only [List.map_toArray, List.map_cons, List.map_nil]); first | done | rfl | (simp only [List.length_drop, List.length_take]; rfl)) ?_; (with_reducible refine (iF28.calls k _ _ t371 t374 _ ?side1 ?side2 A8.out).mono ?_); (case side1 => repeat (first | exact (Kd.R_reads' HO373.out).2.2 | with_reducible first | apply cA_ | apply cN_ | apply cD_)); (case side2 => exact (Kd.R_reads' HO373.out).2.1); rintro e w12 ⟨v375, rfl, ho0, hb⟩; refine ⟨_, rfl, ?_⟩; have n0_ := Aside0.mk (Kd.R_below (by (with_reducible repeat (first | apply Kd.R_alloc | apply Kd.R_drewN | apply Kd.R_drew)); exact HO373.out) hb); have n1_ := Aside0.mk (Kd.R_lower ho0 (below_size (by repeat (first | (with_reducible first | exact HB.out | apply below_alloc | apply pw_below_drewN | apply below_drew1 | refine below_set ?_ GW370.out) | exact HB.out)))); have n2_ := Aside0.mk (blk_below (g := gb370) (o := .cells #[.slice none 0 0] 41 (0, 0)) (by (with_reducible repeat (first | refine blk_drewN ?_ _ | refine blk_drew ?_ | refine blk_alloc ?_ _)); exact BK370.out) hb); have n3_ := Aside0.mk (below_step (by repeat (first | (with_reducible first | exact HB.out | apply below_alloc | apply pw_below_drewN | apply below_drew1 | refine below_set ?_ GW370.out) | exact HB.out)) hb); clear HO373; clear BK370; clear HB; have HO373 := n0_; have HO376 := n1_; have BK370 := n2_; have HB := n3_; clear n0_ n1_ n2_ n3_; (try clear hb); (try clear hb2); (try clear hk); (try clear hi); (try clear ho0); obtain ⟨Ao13, co13, eo13⟩ := Kd.R_slice HO376.out; subst eo13; have hcz14_0 : w12.cell? ⟨gb370, 0, none⟩ = some (.slice none 0 0) := (blk_cell BK370.out 0).trans rfl; have hfz14_0 := blk_frozen BK370.out 0))
 refine bodyPost_ret (results_ct rfl _ _ gb370 41 #[.slice Ao13 t374.length co13] (0, 0) _ rfl (by (with_reducible repeat (first | refine blk_drewN ?_ _ | refine blk_drew ?_ | refine blk_alloc ?_ _)); refine blk_put (cs := #[.slice none 0 0]) ?_ 0 _ rfl; (with_reducible repeat (first | refine blk_drewN ?_ _ | refine blk_drew ?_ | refine blk_alloc ?_ _)); exact BK370.out) Tryz.underlying41 rfl (by kernel_rfl)) rfl ?_
 exact ⟨_, by first | rfl | (simp [errW_none, errW_some] <;> rfl) | (simp [*, errW_none, errW_some] <;> rfl), by (with_reducible repeat (first | apply Kd.R_alloc | apply Kd.R_drewN | apply Kd.R_drew)); exact Kd.R_mono (Kd.R_far (p := ⟨gb370, 0, none⟩) (Kd.R_types HO376.out BK370.out (by decide)) (fun _ hk => hk.2) (.slice Ao13 t374.length co13)) (fun _ hk => trivial), by repeat (first | (with_reducible first | exact HB.out | apply below_alloc | apply pw_below_drewN | apply below_drew1 | refine below_set ?_ GW370.out) | exact HB.out)⟩
def iF15.f (k : Nat) (l0 : List ByteArray) : Option ((List (S46)) × Bool) := (iF16.f l0).bind fun t378 => (if t378 = true then (some (([] : List (S46)), false)) else ((iF24.f k l0).bind fun bt379 => (some (bt379.1, bt379.2))))
theorem iF15.mono : ∀ a0 k, LeO (iF15.f k a0) (iF15.f (k + 1) a0) := by
 intro a0 k
 unfold iF15.f
 repeat' with_reducible first | exact iF24.mono _ _ | exact LeO.refl _ | exact LeO.none _ | refine LeO.ite ?_ ?_ | refine LeO.bind ?_ (fun _ => ?_)
theorem iF15.calls (k : Nat) (A0 : Option Addr) (c0 : Nat) (l0 : List ByteArray) (r1 : List (S46)) (r2 : Bool) (w : World) (hr0 : Kd.C Kd.string w A0 l0.length l0) (hc0 : l0.length ≤ c0) (h : iF15.f k l0 = some (r1, r2)) :
  Calls Tryz.prog 60 #[.slice A0 l0.length c0] w fun e w' => ∃ v0_ : Value, e = .returned (.tuple #[.agg #[v0_], .bool r2]) ∧ Kd.R k46 46 w' w.heap.size (fun _ => True) v0_ r1 ∧ Below w.heap.size w w' := by
 have hu41 := Tryz.underlying41
 have HR0 := Aside0.mk hr0
 have HC0 := Aside0.mk hc0
 clear hr0 hc0
 have HB := Aside0.mk (Below.refl w.heap.size w)
 have H : ((iF16.f l0).bind fun t378 => (if t378 = true then (some (([] : List (S46)), false)) else ((iF24.f k l0).bind fun bt379 => (some (bt379.1, bt379.2))))) = some (r1, r2) := h
 clear h
 replace H := Option.bind_eq_some_iff.mp H
 obtain ⟨t378, A20, H⟩ := H
 replace H : (if t378 = true then (some (([] : List (S46)), false)) else ((iF24.f k l0).bind fun bt379 => (some (bt379.1, bt379.2)))) = some (r1, r2) := H
 have A2 := Aside0.mk A20
 clear A20
 by_cases c3 : t378 = true
 ·
  subst c3
  replace H : (some (([] : List (S46)), false)) = some (r1, r2) := by rw [if_pos rfl] at H; exact H
  simp only [Option.some.injEq, Prod.mk.injEq] at H
  obtain ⟨rfl, rfl⟩ := H
  go_enter Tryz.func60, Tryz.ntmps60
  go_wp2_with (first | ((with_reducible refine gate_dst (N := 2) rfl ?_); refine box_event ?hg (N := 2) ?hd (cs := #[.slice none 0 0]) (t := 41) ?hr ?_; (case hd => rfl); (case hg => rfl); (case hr => first | (go_simp; done) | (go_simp; rfl)); intro gb377 hg w4 hbox hb; have n0_ := Aside0.mk (below_step (by repeat (first | (with_reducible first | exact HB.out | apply below_alloc | apply pw_below_drewN | apply below_drew1) | exact HB.out)) hb); have n1_ := Aside0.mk (hbox); have n2_ := Aside0.mk ((by rw [hg]; exact (below_size (by repeat (first | (with_reducible first | exact HB.out | apply below_alloc | apply pw_below_drewN | apply below_drew1) | exact HB.out))) : w.heap.size ≤ gb377)); have n3_ := Aside0.mk ((by rw [hg]; exact (below_size (by repeat (first | (with_reducible first | exact HB.out | apply below_alloc | apply pw_below_drewN | apply below_drew1) | exact HB.out))) : w.heap.size ≤ gb377)); clear HB; have HB := n0_; have BK377 := n1_; have GW377 := n2_; have GW377 := n3_; clear n0_ n1_ n2_ n3_; clear hb hbox hg) | ((with_reducible refine gate_callee (f := 86) rfl ?_); refine goesL_ (some 5) rfl rfl Tryz.func86 (by kernel_rfl) rfl #[.slice A0 l0.length c0, .func (.func 87) #[] #[]] rfl (by (try simp only [List.map_toArray, List.map_cons, List.map_nil]); first | done | rfl | (simp only [List.length_drop, List.length_take]; rfl)) ?_; (with_reducible refine (iF16.calls _ _ l0 true _ ?side1 HC0.out A2.out).mono ?_); (case side1 => repeat (first | exact (Kd.C_below HR0.out HB.out) | with_reducible first | apply cA_ | apply cN_ | apply cD_)); rintro e w5 ⟨rfl, hb⟩; refine ⟨_, rfl, ?_⟩; have n0_ := Aside0.mk (blk_below (g := gb377) (o := .cells #[.slice none 0 0] 41 (0, 0)) (by (with_reducible repeat (first | refine blk_drewN ?_ _ | refine blk_drew ?_ | refine blk_alloc ?_ _)); exact BK377.out) hb); have n1_ := Aside0.mk (below_step (by repeat (first | (with_reducible first | exact HB.out | apply below_alloc | apply pw_below_drewN | apply below_drew1 | refine below_set ?_ GW377.out) | exact HB.out)) hb); clear BK377; clear HB; have BK377 := n0_; have HB := n1_; clear n0_ n1_; (try clear hb); (try clear hb2); (try clear hk); (try clear hi); have hcz6_0 : w5.cell? ⟨gb377, 0, none⟩ = some (.slice none 0 0) := (blk_cell BK377.out 0).trans rfl; have hfz6_0 := blk_frozen BK377.out 0))
  refine bodyPost_ret (results_ct rfl _ _ gb377 41 #[.slice none 0 0] (0, 0) _ rfl (by (with_reducible repeat (first | refine blk_drewN ?_ _ | refine blk_drew ?_ | refine blk_alloc ?_ _)); refine blk_put (cs := #[.slice none 0 0]) ?_ 0 _ rfl; (with_reducible repeat (first | refine blk_drewN ?_ _ | refine blk_drew ?_ | refine blk_alloc ?_ _)); exact BK377.out) Tryz.underlying41 rfl (by kernel_rfl)) rfl ?_
  exact ⟨_, by first | rfl | (simp [errW_none, errW_some] <;> rfl) | (simp [*, errW_none, errW_some] <;> rfl), by first | exact Kd.R_nil _ _ _ _ _ | exact Kd.N_nil _ _ _ _ _ | exact Kd.V_nil _ _ _ _ _ | exact Kd.Q_nil _ _ _ _ _ | exact Kd.S_nil _ _ _ _ _, by repeat (first | (with_reducible first | exact HB.out | apply below_alloc | apply pw_below_drewN | apply below_drew1 | refine below_set ?_ GW377.out) | exact HB.out)⟩
 replace c3 := Bool.eq_false_iff.mpr c3
 subst c3
 replace H : ((iF24.f k l0).bind fun bt379 => (some (bt379.1, bt379.2))) = some (r1, r2) := by rw [if_neg (show ¬ (false = true) by decide)] at H; exact H
 replace H := Option.bind_eq_some_iff.mp H
 obtain ⟨⟨t379, t382⟩, A70, H⟩ := H
 replace H : (some (t379, t382)) = some (r1, r2) := H
 have A7 := Aside0.mk A70
 clear A70
 simp only [Option.some.injEq, Prod.mk.injEq] at H
 obtain ⟨rfl, rfl⟩ := H
 go_enter Tryz.func60, Tryz.ntmps60
 go_wp2_with (first | ((with_reducible refine gate_dst (N := 2) rfl ?_); refine box_event ?hg (N := 2) ?hd (cs := #[.slice none 0 0]) (t := 41) ?hr ?_; (case hd => rfl); (case hg => rfl); (case hr => first | (go_simp; done) | (go_simp; rfl)); intro gb377 hg w8 hbox hb; have n0_ := Aside0.mk (below_step (by repeat (first | (with_reducible first | exact HB.out | apply below_alloc | apply pw_below_drewN | apply below_drew1) | exact HB.out)) hb); have n1_ := Aside0.mk (hbox); have n2_ := Aside0.mk ((by rw [hg]; exact (below_size (by repeat (first | (with_reducible first | exact HB.out | apply below_alloc | apply pw_below_drewN | apply below_drew1) | exact HB.out))) : w.heap.size ≤ gb377)); have n3_ := Aside0.mk ((by rw [hg]; exact (below_size (by repeat (first | (with_reducible first | exact HB.out | apply below_alloc | apply pw_below_drewN | apply below_drew1) | exact HB.out))) : w.heap.size ≤ gb377)); clear HB; have HB := n0_; have BK377 := n1_; have GW377 := n2_; have GW377 := n3_; clear n0_ n1_ n2_ n3_; clear hb hbox hg) | ((with_reducible refine gate_callee (f := 86) rfl ?_); refine goesL_ (some 5) rfl rfl Tryz.func86 (by kernel_rfl) rfl #[.slice A0 l0.length c0, .func (.func 87) #[] #[]] rfl (by (try simp only [List.map_toArray, List.map_cons, List.map_nil]); first | done | rfl | (simp only [List.length_drop, List.length_take]; rfl)) ?_; (with_reducible refine (iF16.calls _ _ l0 false _ ?side1 HC0.out A2.out).mono ?_); (case side1 => repeat (first | exact (Kd.C_below HR0.out HB.out) | with_reducible first | apply cA_ | apply cN_ | apply cD_)); rintro e w9 ⟨rfl, hb⟩; refine ⟨_, rfl, ?_⟩; have n0_ := Aside0.mk (blk_below (g := gb377) (o := .cells #[.slice none 0 0] 41 (0, 0)) (by (with_reducible repeat (first | refine blk_drewN ?_ _ | refine blk_drew ?_ | refine blk_alloc ?_ _)); exact BK377.out) hb); have n1_ := Aside0.mk (below_step (by repeat (first | (with_reducible first | exact HB.out | apply below_alloc | apply pw_below_drewN | apply below_drew1 | refine below_set ?_ GW377.out) | exact HB.out)) hb); clear BK377; clear HB; have BK377 := n0_; have HB := n1_; clear n0_ n1_; (try clear hb); (try clear hb2); (try clear hk); (try clear hi)) | ((with_reducible refine gate_callee (f := 89) rfl ?_); refine goesL_ (some 8) rfl rfl Tryz.func89 (by kernel_rfl) rfl #[.slice A0 l0.length c0] rfl (by (try simp only [List.map_toArray, List.map_cons, List.map_nil]); first | done | rfl | (simp only [List.length_drop, List.length_take]; rfl)) ?_; (with_reducible refine (iF24.calls k _ _ l0 t379 t382 _ ?side1 HC0.out A7.out).mono ?_); (case side1 => repeat (first | exact (Kd.C_below HR0.out HB.out) | with_reducible first | apply cA_ | apply cN_ | apply cD_)); rintro e w10 ⟨v380, rfl, ho0, hb⟩; refine ⟨_, rfl, ?_⟩; have n0_ := Aside0.mk (Kd.R_lower ho0 (below_size (by repeat (first | (with_reducible first | exact HB.out | apply below_alloc | apply pw_below_drewN | apply below_drew1 | refine below_set ?_ GW377.out) | exact HB.out)))); have n1_ := Aside0.mk (blk_below (g := gb377) (o := .cells #[.slice none 0 0] 41 (0, 0)) (by (with_reducible repeat (first | refine blk_drewN ?_ _ | refine blk_drew ?_ | refine blk_alloc ?_ _)); exact BK377.out) hb); have n2_ := Aside0.mk (below_step (by repeat (first | (with_reducible first | exact HB.out | apply below_alloc | apply pw_below_drewN | apply below_drew1 | refine below_set ?_ GW377.out) | exact HB.out)) hb); clear BK377; clear HB; have HO381 := n0_; have BK377 := n1_; have HB := n2_; clear n0_ n1_ n2_; (try clear hb); (try clear hb2); (try clear hk); (try clear hi); (try clear ho0); obtain ⟨Ao11, co11, eo11⟩ := Kd.R_slice HO381.out; subst eo11; have hcz12_0 : w10.cell? ⟨gb377, 0, none⟩ = some (.slice none 0 0) := (blk_cell BK377.out 0).trans rfl; have hfz12_0 := blk_frozen BK377.out 0))
 refine bodyPost_ret (results_ct rfl _ _ gb377 41 #[.slice Ao11 t379.length co11] (0, 0) _ rfl (by (with_reducible repeat (first | refine blk_drewN ?_ _ | refine blk_drew ?_ | refine blk_alloc ?_ _)); refine blk_put (cs := #[.slice none 0 0]) ?_ 0 _ rfl; (with_reducible repeat (first | refine blk_drewN ?_ _ | refine blk_drew ?_ | refine blk_alloc ?_ _)); exact BK377.out) Tryz.underlying41 rfl (by kernel_rfl)) rfl ?_
 exact ⟨_, by first | rfl | (simp [errW_none, errW_some] <;> rfl) | (simp [*, errW_none, errW_some] <;> rfl), by (with_reducible repeat (first | apply Kd.R_alloc | apply Kd.R_drewN | apply Kd.R_drew)); exact Kd.R_mono (Kd.R_far (p := ⟨gb377, 0, none⟩) (Kd.R_types HO381.out BK377.out (by decide)) (fun _ hk => hk.2) (.slice Ao11 t379.length co11)) (fun _ hk => trivial), by repeat (first | (with_reducible first | exact HB.out | apply below_alloc | apply pw_below_drewN | apply below_drew1 | refine below_set ?_ GW377.out) | exact HB.out)⟩
def iF13.f (k : Nat) (a0 : ByteArray) : Option ((List (S46)) × Bool) := (iF14.f k a0).bind fun bt384 => (if bt384.2 = true then (if bt384.1.length < 8796093022208 then ((iF15.f k (bt384.1 ++ [(⟨#[]⟩ : ByteArray)])).bind fun bt391 => (some (bt391.1, bt391.2))) else (none)) else (some (([] : List (S46)), false)))
theorem iF13.mono : ∀ a0 k, LeO (iF13.f k a0) (iF13.f (k + 1) a0) := by
 intro a0 k
 unfold iF13.f
 repeat' with_reducible first | exact iF14.mono _ _ | exact iF15.mono _ _ | exact LeO.refl _ | exact LeO.none _ | refine LeO.ite ?_ ?_ | refine LeO.bind ?_ (fun _ => ?_)
theorem iF13.calls (k : Nat) (a0 : ByteArray) (r1 : List (S46)) (r2 : Bool) (w : World) (h : iF13.f k a0 = some (r1, r2)) :
  Calls Tryz.prog 23 #[.string a0] w fun e w' => ∃ v0_ : Value, e = .returned (.tuple #[.agg #[v0_], .bool r2]) ∧ Kd.R k46 46 w' w.heap.size (fun _ => True) v0_ r1 ∧ Below w.heap.size w w' := by
 have hu41 := Tryz.underlying41
 have HB := Aside0.mk (Below.refl w.heap.size w)
 have H : ((iF14.f k a0).bind fun bt384 => (if bt384.2 = true then (if bt384.1.length < 8796093022208 then ((iF15.f k (bt384.1 ++ [(⟨#[]⟩ : ByteArray)])).bind fun bt391 => (some (bt391.1, bt391.2))) else (none)) else (some (([] : List (S46)), false)))) = some (r1, r2) := h
 clear h
 replace H := Option.bind_eq_some_iff.mp H
 obtain ⟨⟨t384, t385⟩, A20, H⟩ := H
 replace H : (if t385 = true then (if t384.length < 8796093022208 then ((iF15.f k (t384 ++ [(⟨#[]⟩ : ByteArray)])).bind fun bt391 => (some (bt391.1, bt391.2))) else (none)) else (some (([] : List (S46)), false))) = some (r1, r2) := H
 have A2 := Aside0.mk A20
 clear A20
 by_cases c3 : t385 = true
 ·
  subst c3
  replace H : (if t384.length < 8796093022208 then ((iF15.f k (t384 ++ [(⟨#[]⟩ : ByteArray)])).bind fun bt391 => (some (bt391.1, bt391.2))) else (none)) = some (r1, r2) := by rw [if_pos rfl] at H; exact H
  by_cases c4 : t384.length < 8796093022208
  rotate_left
  ·
   rw [if_neg c4] at H
   exact absurd H (by simp)
  rw [if_pos c4] at H
  have LMc4 := Aside0.mk c4
  clear c4
  obtain ⟨y388, hy388⟩ : ∃ y_ : List ByteArray, y_ = (t384 ++ [(⟨#[]⟩ : ByteArray)]) := ⟨_, rfl⟩
  replace H : ((iF15.f k y388).bind fun bt391 => (some (bt391.1, bt391.2))) = some (r1, r2) := by (try rw [hy388]); first | with_reducible exact H | with_reducible exact oS_ H | exact H
  have Ny388 := Aside0.mk hy388
  clear hy388
  replace H := Option.bind_eq_some_iff.mp H
  obtain ⟨⟨t391, t394⟩, A50, H⟩ := H
  replace H : (some (t391, t394)) = some (r1, r2) := H
  have A5 := Aside0.mk A50
  clear A50
  simp only [Option.some.injEq, Prod.mk.injEq] at H
  obtain ⟨rfl, rfl⟩ := H
  go_enter Tryz.func23, Tryz.ntmps23
  go_wp2_with (first | ((with_reducible refine gate_dst (N := 2) rfl ?_); refine box_event ?hg (N := 2) ?hd (cs := #[.slice none 0 0]) (t := 41) ?hr ?_; (case hd => rfl); (case hg => rfl); (case hr => first | (go_simp; done) | (go_simp; rfl)); intro gb383 hg w6 hbox hb; have n0_ := Aside0.mk (below_step (by repeat (first | (with_reducible first | exact HB.out | apply below_alloc | apply pw_below_drewN | apply below_drew1) | exact HB.out)) hb); have n1_ := Aside0.mk (hbox); have n2_ := Aside0.mk ((by rw [hg]; exact (below_size (by repeat (first | (with_reducible first | exact HB.out | apply below_alloc | apply pw_below_drewN | apply below_drew1) | exact HB.out))) : w.heap.size ≤ gb383)); have n3_ := Aside0.mk ((by rw [hg]; exact (below_size (by repeat (first | (with_reducible first | exact HB.out | apply below_alloc | apply pw_below_drewN | apply below_drew1) | exact HB.out))) : w.heap.size ≤ gb383)); clear HB; have HB := n0_; have BK383 := n1_; have GW383 := n2_; have GW383 := n3_; clear n0_ n1_ n2_ n3_; clear hb hbox hg) | ((with_reducible refine gate_callee (f := 7) rfl ?_); refine goesL_ (some 8) rfl rfl Tryz.func7 (by kernel_rfl) rfl #[.string a0] rfl (by (try simp only [List.map_toArray, List.map_cons, List.map_nil]); first | done | rfl | (simp only [List.length_drop, List.length_take]; rfl)) ?_; (with_reducible refine (iF14.calls k a0 t384 true _ A2.out).mono ?_); rintro e w7 ⟨v386, rfl, ho0, hb⟩; refine ⟨_, rfl, ?_⟩; have n0_ := Aside0.mk (Kd.R_lower ho0 (below_size (by repeat (first | (with_reducible first | exact HB.out | apply below_alloc | apply pw_below_drewN | apply below_drew1 | refine below_set ?_ GW383.out) | exact HB.out)))); have n1_ := Aside0.mk (blk_below (g := gb383) (o := .cells #[.slice none 0 0] 41 (0, 0)) (by (with_reducible repeat (first | refine blk_drewN ?_ _ | refine blk_drew ?_ | refine blk_alloc ?_ _)); exact BK383.out) hb); have n2_ := Aside0.mk (below_step (by repeat (first | (with_reducible first | exact HB.out | apply below_alloc | apply pw_below_drewN | apply below_drew1 | refine below_set ?_ GW383.out) | exact HB.out)) hb); clear BK383; clear HB; have HO387 := n0_; have BK383 := n1_; have HB := n2_; clear n0_ n1_ n2_; (try clear hb); (try clear hb2); (try clear hk); (try clear hi); (try clear ho0)) | ((with_reducible refine gate_builtin (b := .append) (xs := #[.tmp 14, .tmp 15]) rfl ?_); at_builtin; refine Kd.R_append Kd.string (w0 := w) w.heap.size rfl (.tmp 14) (.tmp 15) 25 9 (.string ⟨#[]⟩) 16 rfl Tryz.underlying25 info9 rfl (by decide) (by omega) v386 t384 (⟨#[]⟩ : ByteArray) [.string (⟨#[]⟩ : ByteArray)] (fun _ => True) (fun _ => False) rfl rfl ?aP (fun _ hk => hk.elim) ?aF ?aO ?aB ?aS ?aL ?_; (case aP => exact rfl); (case aB => exact (by repeat (first | (with_reducible first | exact HB.out | apply below_alloc | apply pw_below_drewN | apply below_drew1 | refine below_set ?_ GW383.out) | exact HB.out))); (case aF => exact (fun _ _ => trivial)); (case aO => exact (by (with_reducible repeat (first | apply Kd.R_alloc | apply Kd.R_drewN | apply Kd.R_drew)); exact HO387.out)); (case aS => exact (below_size (by repeat (first | (with_reducible first | exact HB.out | apply below_alloc | apply pw_below_drewN | apply below_drew1 | refine below_set ?_ GW383.out) | exact HB.out)))); (case aL => have := LMc4.out; omega); intro v389 w8 ho hb hg hat; rw [← Ny388.out] at ho; have n0_ := Aside0.mk (blk_grown (g := gb383) (o := .cells #[.slice none 0 0] 41 (0, 0)) (by (with_reducible repeat (first | refine blk_drewN ?_ _ | refine blk_drew ?_ | refine blk_alloc ?_ _)); exact BK383.out) hg (Kd.R_ne HO387.out BK383.out (by decide))); have n1_ := Aside0.mk (hb); have n2_ := Aside0.mk (ho); clear BK383; clear HB; clear HO387; have BK383 := n0_; have HB := n1_; have HO390 := n2_; clear n0_ n1_ n2_; clear ho hb hg hat; obtain ⟨Ao9, co9, eo9⟩ := Kd.R_slice HO390.out; subst eo9) | ((with_reducible refine gate_callee (f := 60) rfl ?_); refine goesL_ (some 17) rfl rfl Tryz.func60 (by kernel_rfl) rfl #[.slice Ao9 y388.length co9] rfl (by (try simp only [List.map_toArray, List.map_cons, List.map_nil]); first | done | rfl | (simp only [List.length_drop, List.length_take]; rfl)) ?_; (with_reducible refine (iF15.calls k _ _ y388 t391 t394 _ ?side1 ?side2 A5.out).mono ?_); (case side1 => repeat (first | exact (Kd.R_reads' HO390.out).2.2 | with_reducible first | apply cA_ | apply cN_ | apply cD_)); (case side2 => exact (Kd.R_reads' HO390.out).2.1); rintro e w10 ⟨v392, rfl, ho0, hb⟩; refine ⟨_, rfl, ?_⟩; have n0_ := Aside0.mk (Kd.R_below (by (with_reducible repeat (first | apply Kd.R_alloc | apply Kd.R_drewN | apply Kd.R_drew)); exact HO390.out) hb); have n1_ := Aside0.mk (Kd.R_lower ho0 (below_size (by repeat (first | (with_reducible first | exact HB.out | apply below_alloc | apply pw_below_drewN | apply below_drew1 | refine below_set ?_ GW383.out) | exact HB.out)))); have n2_ := Aside0.mk (blk_below (g := gb383) (o := .cells #[.slice none 0 0] 41 (0, 0)) (by (with_reducible repeat (first | refine blk_drewN ?_ _ | refine blk_drew ?_ | refine blk_alloc ?_ _)); exact BK383.out) hb); have n3_ := Aside0.mk (below_step (by repeat (first | (with_reducible first | exact HB.out | apply below_alloc | apply pw_below_drewN | apply below_drew1 | refine below_set ?_ GW383.out) | exact HB.out)) hb); clear HO390; clear BK383; clear HB; have HO390 := n0_; have HO393 := n1_; have BK383 := n2_; have HB := n3_; clear n0_ n1_ n2_ n3_; (try clear hb); (try clear hb2); (try clear hk); (try clear hi); (try clear ho0); obtain ⟨Ao11, co11, eo11⟩ := Kd.R_slice HO393.out; subst eo11; have hcz12_0 : w10.cell? ⟨gb383, 0, none⟩ = some (.slice none 0 0) := (blk_cell BK383.out 0).trans rfl; have hfz12_0 := blk_frozen BK383.out 0))
  refine bodyPost_ret (results_ct rfl _ _ gb383 41 #[.slice Ao11 t391.length co11] (0, 0) _ rfl (by (with_reducible repeat (first | refine blk_drewN ?_ _ | refine blk_drew ?_ | refine blk_alloc ?_ _)); refine blk_put (cs := #[.slice none 0 0]) ?_ 0 _ rfl; (with_reducible repeat (first | refine blk_drewN ?_ _ | refine blk_drew ?_ | refine blk_alloc ?_ _)); exact BK383.out) Tryz.underlying41 rfl (by kernel_rfl)) rfl ?_
  exact ⟨_, by first | rfl | (simp [errW_none, errW_some] <;> rfl) | (simp [*, errW_none, errW_some] <;> rfl), by (with_reducible repeat (first | apply Kd.R_alloc | apply Kd.R_drewN | apply Kd.R_drew)); exact Kd.R_mono (Kd.R_far (p := ⟨gb383, 0, none⟩) (Kd.R_types HO393.out BK383.out (by decide)) (fun _ hk => hk.2) (.slice Ao11 t391.length co11)) (fun _ hk => trivial), by repeat (first | (with_reducible first | exact HB.out | apply below_alloc | apply pw_below_drewN | apply below_drew1 | refine below_set ?_ GW383.out) | exact HB.out)⟩
 replace c3 := Bool.eq_false_iff.mpr c3
 subst c3
 replace H : (some (([] : List (S46)), false)) = some (r1, r2) := by rw [if_neg (show ¬ (false = true) by decide)] at H; exact H
 simp only [Option.some.injEq, Prod.mk.injEq] at H
 obtain ⟨rfl, rfl⟩ := H
 go_enter Tryz.func23, Tryz.ntmps23
 go_wp2_with (first | ((with_reducible refine gate_dst (N := 2) rfl ?_); refine box_event ?hg (N := 2) ?hd (cs := #[.slice none 0 0]) (t := 41) ?hr ?_; (case hd => rfl); (case hg => rfl); (case hr => first | (go_simp; done) | (go_simp; rfl)); intro gb383 hg w13 hbox hb; have n0_ := Aside0.mk (below_step (by repeat (first | (with_reducible first | exact HB.out | apply below_alloc | apply pw_below_drewN | apply below_drew1) | exact HB.out)) hb); have n1_ := Aside0.mk (hbox); have n2_ := Aside0.mk ((by rw [hg]; exact (below_size (by repeat (first | (with_reducible first | exact HB.out | apply below_alloc | apply pw_below_drewN | apply below_drew1) | exact HB.out))) : w.heap.size ≤ gb383)); have n3_ := Aside0.mk ((by rw [hg]; exact (below_size (by repeat (first | (with_reducible first | exact HB.out | apply below_alloc | apply pw_below_drewN | apply below_drew1) | exact HB.out))) : w.heap.size ≤ gb383)); clear HB; have HB := n0_; have BK383 := n1_; have GW383 := n2_; have GW383 := n3_; clear n0_ n1_ n2_ n3_; clear hb hbox hg) | ((with_reducible refine gate_callee (f := 7) rfl ?_); refine goesL_ (some 8) rfl rfl Tryz.func7 (by kernel_rfl) rfl #[.string a0] rfl (by (try simp only [List.map_toArray, List.map_cons, List.map_nil]); first | done | rfl | (simp only [List.length_drop, List.length_take]; rfl)) ?_; (with_reducible refine (iF14.calls k a0 t384 false _ A2.out).mono ?_); rintro e w14 ⟨v386, rfl, ho0, hb⟩; refine ⟨_, rfl, ?_⟩; have n0_ := Aside0.mk (Kd.R_lower ho0 (below_size (by repeat (first | (with_reducible first | exact HB.out | apply below_alloc | apply pw_below_drewN | apply below_drew1 | refine below_set ?_ GW383.out) | exact HB.out)))); have n1_ := Aside0.mk (blk_below (g := gb383) (o := .cells #[.slice none 0 0] 41 (0, 0)) (by (with_reducible repeat (first | refine blk_drewN ?_ _ | refine blk_drew ?_ | refine blk_alloc ?_ _)); exact BK383.out) hb); have n2_ := Aside0.mk (below_step (by repeat (first | (with_reducible first | exact HB.out | apply below_alloc | apply pw_below_drewN | apply below_drew1 | refine below_set ?_ GW383.out) | exact HB.out)) hb); clear BK383; clear HB; have HO387 := n0_; have BK383 := n1_; have HB := n2_; clear n0_ n1_ n2_; (try clear hb); (try clear hb2); (try clear hk); (try clear hi); (try clear ho0); have hcz15_0 : w14.cell? ⟨gb383, 0, none⟩ = some (.slice none 0 0) := (blk_cell BK383.out 0).trans rfl; have hfz15_0 := blk_frozen BK383.out 0))
 refine bodyPost_ret (results_ct rfl _ _ gb383 41 #[.slice none 0 0] (0, 0) _ rfl (by (with_reducible repeat (first | refine blk_drewN ?_ _ | refine blk_drew ?_ | refine blk_alloc ?_ _)); refine blk_put (cs := #[.slice none 0 0]) ?_ 0 _ rfl; (with_reducible repeat (first | refine blk_drewN ?_ _ | refine blk_drew ?_ | refine blk_alloc ?_ _)); exact BK383.out) Tryz.underlying41 rfl (by kernel_rfl)) rfl ?_
 exact ⟨_, by first | rfl | (simp [errW_none, errW_some] <;> rfl) | (simp [*, errW_none, errW_some] <;> rfl), by first | exact Kd.R_nil _ _ _ _ _ | exact Kd.N_nil _ _ _ _ _ | exact Kd.V_nil _ _ _ _ _ | exact Kd.Q_nil _ _ _ _ _ | exact Kd.S_nil _ _ _ _ _, by repeat (first | (with_reducible first | exact HB.out | apply below_alloc | apply pw_below_drewN | apply below_drew1 | refine below_set ?_ GW383.out) | exact HB.out)⟩
def sF55.l0 : Nat → List ByteArray → ByteArray → Int → Option (Bool)
 | 0, _, _, _ => none
 | k + 1, x0, x1, x5 => if x5 < (x0.length : Int) then (if 0 ≤ x5 then (if (rdOf ByteArray.empty x0 x5).toList = x1.toList then (some true) else (sF55.l0 k x0 x1 (wrap64 (x5 + 1)))) else (none)) else (some false)
def sF55.f (k : Nat) (l0 : List ByteArray) (a1 : ByteArray) : Option (Bool) := sF55.l0 k l0 a1 0
theorem sF55.mono_l : ∀ k, (∀ y0 y1 y2, LeO (sF55.l0 k y0 y1 y2) (sF55.l0 (k + 1) y0 y1 y2))
 | 0 => fun _ _ _ r h => by simp [sF55.l0] at h
 | k + 1 => by
  have ih0 := sF55.mono_l k
  intro y0 y1 y2
  unfold sF55.l0
  repeat' with_reducible first | exact ih0 _ _ _ | exact LeO.refl _ | exact LeO.none _ | refine LeO.ite ?_ ?_ | refine LeO.bind ?_ (fun _ => ?_)
theorem sF55.mono : ∀ a0 a1 k, LeO (sF55.f k a0 a1) (sF55.f (k + 1) a0 a1) := by
 intro a0 a1 k
 have ih0 := sF55.mono_l k
 unfold sF55.f
 repeat' with_reducible first | exact ih0 _ _ _ | exact LeO.refl _ | exact LeO.none _ | refine LeO.ite ?_ ?_ | refine LeO.bind ?_ (fun _ => ?_)
theorem sF55.calls (k : Nat) (A0 : Option Addr) (c0 : Nat) (l0 : List ByteArray) (a1 : ByteArray) (r : Bool) (w : World) (hr0 : Kd.C Kd.string w A0 l0.length l0) (hc0 : l0.length ≤ c0) (h : sF55.f k l0 a1 = some r) :
  Calls Tryz.prog 75 #[.slice A0 l0.length c0, .string a1] w fun e w' => e = .returned (.bool r) ∧ Drawn0 w w' := by
 have HR0 := Aside0.mk hr0
 have HC0 := Aside0.mk hc0
 clear hr0 hc0
 have H : (sF55.l0 k l0 a1 0) = some r := h
 clear h
 have H' := Aside0.mk H
 clear H
 go_enter Tryz.func75, Tryz.ntmps75
 go_wp2
 go_loopg [5] k (fun kq v5 w' => ∃ (x5_1 : Int), v5 = .int .i64 x5_1 ∧ Aside0 (sF55.l0 kq l0 a1 x5_1 = some r) ∧ Aside0 (kq ≤ k) ∧ Drawn0 w w')
 case atStart => exact ⟨(0), (by first | rfl | (simp; done) | (simp [*]; done)), H', ⟨Nat.le_refl _⟩, by repeat (first | exact Drawn0.refl _ | apply Drawn0.step)⟩
 clear H'
 try clear p2
 obtain ⟨x5_1, rfl, HA, HK1, ⟨m1, rfl⟩⟩ := hrel
 cases gk with
 | zero => exact absurd HA.out (by simp [sF55.l0])
 | succ k1 =>
  have H := HA.out
  clear HA
  simp only [sF55.l0] at H
  by_cases c3 : x5_1 < (l0.length : Int)
  rotate_left
  ·
   rw [if_neg c3] at H
   have c3b0 : decide (x5_1 < (l0.length : Int)) = false := dF_ c3
   clear c3
   obtain rfl := Option.some.inj H
   go_wp2
   go_ret
   exact ⟨by first | rfl | (simp; done) | (simp [*]; done), by repeat (first | exact Drawn0.refl _ | apply Drawn0.step)⟩
  rw [if_pos c3] at H
  have c3b0 : decide (x5_1 < (l0.length : Int)) = true := dT_ c3
  clear c3
  by_cases c4 : 0 ≤ x5_1
  rotate_left
  ·
   rw [if_neg c4] at H
   exact absurd H (by simp)
  rw [if_pos c4] at H
  have c4b0 : decide (0 ≤ x5_1) = true := dT_ c4
  clear c4
  by_cases c5 : (rdOf ByteArray.empty l0 x5_1).toList = a1.toList
  ·
   rw [if_pos c5] at H
   have c5b0 : ((rdOf ByteArray.empty l0 x5_1).toList == a1.toList) = true := beq_iff_eq.mpr c5
   have c5b1 : ((rdOf ByteArray.empty l0 x5_1).toList != a1.toList) = false := bne_eq_false_iff_eq.mpr c5
   clear c5
   obtain rfl := Option.some.inj H
   have p395 : 0 ≤ (x5_1 : Int) := oD_ (by first | (with_reducible assumption) | assumption)
   have q395 : x5_1 < (l0.length : Int) := oD_ (by first | (with_reducible assumption) | assumption)
   obtain ⟨ad395, e395, hx395_0⟩ := Kd.at_string HR0.out x5_1 p395 q395
   cases e395
   replace p395 := eq_true p395
   replace q395 := eq_true q395
   go_wp2
   go_ret
   exact ⟨by first | rfl | (simp; done) | (simp [*]; done), by repeat (first | exact Drawn0.refl _ | apply Drawn0.step)⟩
  rw [if_neg c5] at H
  have c5b0 : ((rdOf ByteArray.empty l0 x5_1).toList == a1.toList) = false := beq_eq_false_iff_ne.mpr c5
  have c5b1 : ((rdOf ByteArray.empty l0 x5_1).toList != a1.toList) = true := bne_iff_ne.mpr c5
  have H' := Aside0.mk H
  clear H
  have p395 : 0 ≤ (x5_1 : Int) := oD_ (by first | (with_reducible assumption) | assumption)
  have q395 : x5_1 < (l0.length : Int) := oD_ (by first | (with_reducible assumption) | assumption)
  obtain ⟨ad395, e395, hx395_0⟩ := Kd.at_string HR0.out x5_1 p395 q395
  cases e395
  replace p395 := eq_true p395
  replace q395 := eq_true q395
  go_wp2
  go_roundg k1
  case measure => have := HK1.out; omega
  case rel => exact ⟨(wrap64 (x5_1 + 1)), (by first | rfl | (simp; done) | (simp [*]; done)), H', ⟨by have := HK1.out; omega⟩, by repeat (first | exact Drawn0.refl _ | apply Drawn0.step)⟩
def sF58.l0 : Nat → List ByteArray → ByteArray → Int → Option (Int)
 | 0, _, _, _ => none
 | k + 1, x0, x1, x5 => if x5 < (x0.length : Int) then (if 0 ≤ x5 then (if (rdOf ByteArray.empty x0 x5).toList = x1.toList then (some x5) else (sF58.l0 k x0 x1 (wrap64 (x5 + 1)))) else (none)) else (some (-1))
def sF58.f (k : Nat) (l0 : List ByteArray) (a1 : ByteArray) : Option (Int) := sF58.l0 k l0 a1 0
theorem sF58.mono_l : ∀ k, (∀ y0 y1 y2, LeO (sF58.l0 k y0 y1 y2) (sF58.l0 (k + 1) y0 y1 y2))
 | 0 => fun _ _ _ r h => by simp [sF58.l0] at h
 | k + 1 => by
  have ih0 := sF58.mono_l k
  intro y0 y1 y2
  unfold sF58.l0
  repeat' with_reducible first | exact ih0 _ _ _ | exact LeO.refl _ | exact LeO.none _ | refine LeO.ite ?_ ?_ | refine LeO.bind ?_ (fun _ => ?_)
theorem sF58.mono : ∀ a0 a1 k, LeO (sF58.f k a0 a1) (sF58.f (k + 1) a0 a1) := by
 intro a0 a1 k
 have ih0 := sF58.mono_l k
 unfold sF58.f
 repeat' with_reducible first | exact ih0 _ _ _ | exact LeO.refl _ | exact LeO.none _ | refine LeO.ite ?_ ?_ | refine LeO.bind ?_ (fun _ => ?_)
theorem sF58.calls (k : Nat) (A0 : Option Addr) (c0 : Nat) (l0 : List ByteArray) (a1 : ByteArray) (r : Int) (w : World) (hr0 : Kd.C Kd.string w A0 l0.length l0) (hc0 : l0.length ≤ c0) (h : sF58.f k l0 a1 = some r) :
  Calls Tryz.prog 91 #[.slice A0 l0.length c0, .string a1] w fun e w' => e = .returned (.int .i64 r) ∧ Drawn0 w w' := by
 have HR0 := Aside0.mk hr0
 have HC0 := Aside0.mk hc0
 clear hr0 hc0
 have H : (sF58.l0 k l0 a1 0) = some r := h
 clear h
 have H' := Aside0.mk H
 clear H
 go_enter Tryz.func91, Tryz.ntmps91
 go_wp2
 go_loopg [5] k (fun kq v5 w' => ∃ (x5_1 : Int), v5 = .int .i64 x5_1 ∧ Aside0 (sF58.l0 kq l0 a1 x5_1 = some r) ∧ Aside0 (kq ≤ k) ∧ Drawn0 w w')
 case atStart => exact ⟨(0), (by first | rfl | (simp; done) | (simp [*]; done)), H', ⟨Nat.le_refl _⟩, by repeat (first | exact Drawn0.refl _ | apply Drawn0.step)⟩
 clear H'
 try clear p2
 obtain ⟨x5_1, rfl, HA, HK1, ⟨m1, rfl⟩⟩ := hrel
 cases gk with
 | zero => exact absurd HA.out (by simp [sF58.l0])
 | succ k1 =>
  have H := HA.out
  clear HA
  simp only [sF58.l0] at H
  by_cases c3 : x5_1 < (l0.length : Int)
  rotate_left
  ·
   rw [if_neg c3] at H
   have c3b0 : decide (x5_1 < (l0.length : Int)) = false := dF_ c3
   clear c3
   obtain rfl := Option.some.inj H
   go_wp2
   go_ret
   exact ⟨by first | rfl | (simp; done) | (simp [*]; done), by repeat (first | exact Drawn0.refl _ | apply Drawn0.step)⟩
  rw [if_pos c3] at H
  have c3b0 : decide (x5_1 < (l0.length : Int)) = true := dT_ c3
  clear c3
  by_cases c4 : 0 ≤ x5_1
  rotate_left
  ·
   rw [if_neg c4] at H
   exact absurd H (by simp)
  rw [if_pos c4] at H
  have c4b0 : decide (0 ≤ x5_1) = true := dT_ c4
  clear c4
  by_cases c5 : (rdOf ByteArray.empty l0 x5_1).toList = a1.toList
  ·
   rw [if_pos c5] at H
   have c5b0 : ((rdOf ByteArray.empty l0 x5_1).toList == a1.toList) = true := beq_iff_eq.mpr c5
   have c5b1 : ((rdOf ByteArray.empty l0 x5_1).toList != a1.toList) = false := bne_eq_false_iff_eq.mpr c5
   clear c5
   obtain rfl := Option.some.inj H
   have p396 : 0 ≤ (x5_1 : Int) := oD_ (by first | (with_reducible assumption) | assumption)
   have q396 : x5_1 < (l0.length : Int) := oD_ (by first | (with_reducible assumption) | assumption)
   obtain ⟨ad396, e396, hx396_0⟩ := Kd.at_string HR0.out x5_1 p396 q396
   cases e396
   replace p396 := eq_true p396
   replace q396 := eq_true q396
   go_wp2
   go_ret
   exact ⟨by first | rfl | (simp; done) | (simp [*]; done), by repeat (first | exact Drawn0.refl _ | apply Drawn0.step)⟩
  rw [if_neg c5] at H
  have c5b0 : ((rdOf ByteArray.empty l0 x5_1).toList == a1.toList) = false := beq_eq_false_iff_ne.mpr c5
  have c5b1 : ((rdOf ByteArray.empty l0 x5_1).toList != a1.toList) = true := bne_iff_ne.mpr c5
  have H' := Aside0.mk H
  clear H
  have p396 : 0 ≤ (x5_1 : Int) := oD_ (by first | (with_reducible assumption) | assumption)
  have q396 : x5_1 < (l0.length : Int) := oD_ (by first | (with_reducible assumption) | assumption)
  obtain ⟨ad396, e396, hx396_0⟩ := Kd.at_string HR0.out x5_1 p396 q396
  cases e396
  replace p396 := eq_true p396
  replace q396 := eq_true q396
  go_wp2
  go_roundg k1
  case measure => have := HK1.out; omega
  case rel => exact ⟨(wrap64 (x5_1 + 1)), (by first | rfl | (simp; done) | (simp [*]; done)), H', ⟨by have := HK1.out; omega⟩, by repeat (first | exact Drawn0.refl _ | apply Drawn0.step)⟩
theorem eqA46 (d : Nat) (w : World) (x0 y0 : Int) (x1 y1 : Int) (x2 y2 : Bool) :
    (Op.equalIn (d + 2) 46 (.agg #[.int .i64 x0, .int .i64 x1, .bool x2]) (.agg #[.int .i64 y0, .int .i64 y1, .bool y2])).run Tryz.prog w = .ok (x0 == y0 && (x1 == y1 && (x2 == y2))) w := by
  refine eqA_of Tryz.underlying46 (by kernel_rfl) ?_
  refine eqf_cons (by rfl) (by go_simp; rfl) (by go_simp; rfl) (by go_simp) ?_
  refine eqf_cons (by rfl) (by go_simp; rfl) (by go_simp; rfl) (by go_simp) ?_
  exact eqf_last (by rfl) (by go_simp; rfl) (by go_simp; rfl) (by go_simp)
end Go.Proofs.YtblcdgnihmcdpaaGreatDoor.P
namespace Go.Proofs.YtblcdgnihmcdpaaGreatDoor.P
open Go.RowKit Go.Proofs.YtblcdgnihmcdpaaGreatDoorW.PrintWords Go.Proofs.YtblcdgnihmcdpaaGreatDoorW.PrintLast Go.Proofs.YtblcdgnihmcdpaaGreatDoorW.PrintMore
attribute [local go_sem] max2_int min2_int max_two min_two max_three min_three max_four min_four
attribute [local go_sem high] eqA46
def wF33.l0 : Nat → Int → List (S46) → List (S46) → Option (Bool)
 | 0, _, _, _ => none
 | k + 1, x5, x432000, x433000 => if x5 < (x432000.length : Int) then (if 0 ≤ x5 then (if x5 < (x433000.length : Int) then (if (!(((rd_T46 x432000 x5).f0) == ((rd_T46 x433000 x5).f0)) || (!(((rd_T46 x432000 x5).f1) == ((rd_T46 x433000 x5).f1)) || (!(((rd_T46 x432000 x5).f2) == ((rd_T46 x433000 x5).f2))))) = true then (some false) else (wF33.l0 k (wrap64 (x5 + 1)) x432000 x433000)) else (none)) else (none)) else (some true)
def wF33.f (k : Nat) (l0_0 : List (S46)) (l1_0 : List (S46)) : Option (Bool) := if (l0_0.length : Int) = (l1_0.length : Int) then (wF33.l0 k 0 l0_0 l1_0) else (some false)
theorem wF33.mono_l : ∀ k, (∀ y0 y1 y2, LeO (wF33.l0 k y0 y1 y2) (wF33.l0 (k + 1) y0 y1 y2))
 | 0 => fun _ _ _ r h => by simp [wF33.l0] at h
 | k + 1 => by
  have ih0 := wF33.mono_l k
  intro y0 y1 y2
  unfold wF33.l0
  repeat' with_reducible first | exact ih0 _ _ _ | exact LeO.refl _ | exact LeO.none _ | refine LeO.ite ?_ ?_ | refine LeO.bind ?_ (fun _ => ?_)
theorem wF33.mono : ∀ a0 a1 k, LeO (wF33.f k a0 a1) (wF33.f (k + 1) a0 a1) := by
 intro a0 a1 k
 have ih0 := wF33.mono_l k
 unfold wF33.f
 repeat' with_reducible first | exact ih0 _ _ _ | exact LeO.refl _ | exact LeO.none _ | refine LeO.ite ?_ ?_ | refine LeO.bind ?_ (fun _ => ?_)
theorem wF33.calls (k : Nat) (A0_0 : Option Addr) (c0_0 : Nat) (l0_0 : List (S46)) (A1_0 : Option Addr) (c1_0 : Nat) (l1_0 : List (S46)) (r : Bool) (w : World) (hr0_0 : Kd.C k46 w A0_0 l0_0.length l0_0) (hc0_0 : l0_0.length ≤ c0_0) (hr1_0 : Kd.C k46 w A1_0 l1_0.length l1_0) (hc1_0 : l1_0.length ≤ c1_0) (h : wF33.f k l0_0 l1_0 = some r) :
  Calls Tryz.prog 25 #[.agg #[.slice A0_0 l0_0.length c0_0], .agg #[.slice A1_0 l1_0.length c1_0]] w fun e w' => e = .returned (.bool r) ∧ Below w.heap.size w w' := by
 have hu41 := Tryz.underlying41
 have hu46 := Tryz.underlying46
 have HR0_0 := Aside0.mk hr0_0
 have HC0_0 := Aside0.mk hc0_0
 clear hr0_0 hc0_0
 have HR1_0 := Aside0.mk hr1_0
 have HC1_0 := Aside0.mk hc1_0
 clear hr1_0 hc1_0
 have HB := Aside0.mk (Below.refl w.heap.size w)
 have H : (if (l0_0.length : Int) = (l1_0.length : Int) then (wF33.l0 k 0 l0_0 l1_0) else (some false)) = some r := h
 clear h
 by_cases c3 : (l0_0.length : Int) = (l1_0.length : Int)
 rotate_left
 ·
  rw [if_neg c3] at H
  have c3b0 : ((l0_0.length : Int) == (l1_0.length : Int)) = false := beq_eq_false_iff_ne.mpr c3
  have c3b1 : ((l0_0.length : Int) != (l1_0.length : Int)) = true := bne_iff_ne.mpr c3
  have c3b2 : (l0_0.length == l1_0.length) = false := by first | simpa using c3 | (simp at c3 ⊢; omega)
  obtain rfl := Option.some.inj H
  go_enter Tryz.func25, Tryz.ntmps25
  go_wp2_with (first | ((with_reducible refine gate_dst (N := 2) rfl ?_); refine box_event ?hg (N := 2) ?hd (cs := #[.slice A0_0 l0_0.length c0_0]) (t := 41) ?hr ?_; (case hd => rfl); (case hg => rfl); (case hr => first | (go_simp; done) | (go_simp; rfl)); intro gb431 hg w21 hbox hb; have n0_ := Aside0.mk (below_step (by repeat (first | (with_reducible first | exact HB.out | apply below_alloc | apply pw_below_drewN | apply below_drew1) | exact HB.out)) hb); have n1_ := Aside0.mk (hbox); have n2_ := Aside0.mk ((by rw [hg]; exact (below_size (by repeat (first | (with_reducible first | exact HB.out | apply below_alloc | apply pw_below_drewN | apply below_drew1) | exact HB.out))) : w.heap.size ≤ gb431)); have n3_ := Aside0.mk ((by rw [hg]; exact (below_size (by repeat (first | (with_reducible first | exact HB.out | apply below_alloc | apply pw_below_drewN | apply below_drew1) | exact HB.out))) : w.heap.size ≤ gb431)); clear HB; have HB := n0_; have BK431 := n1_; have GW431 := n2_; have GW431 := n3_; clear n0_ n1_ n2_ n3_; clear hb hbox hg) | ((with_reducible refine gate_dst (N := 3) rfl ?_); refine box_event ?hg (N := 3) ?hd (cs := #[.slice A1_0 l1_0.length c1_0]) (t := 41) ?hr ?_; (case hd => rfl); (case hg => rfl); (case hr => first | (go_simp; done) | (go_simp; rfl)); intro gb432 hg w22 hbox hb; have n0_ := Aside0.mk (blk_below (g := gb431) (o := .cells #[.slice A0_0 l0_0.length c0_0] 41 (0, 0)) (by (with_reducible repeat (first | refine blk_drewN ?_ _ | refine blk_drew ?_ | refine blk_alloc ?_ _)); exact BK431.out) hb); have n1_ := Aside0.mk (below_step (by repeat (first | (with_reducible first | exact HB.out | apply below_alloc | apply pw_below_drewN | apply below_drew1 | refine below_set ?_ GW431.out) | exact HB.out)) hb); have n2_ := Aside0.mk (hbox); have n3_ := Aside0.mk ((by rw [hg]; exact (below_size (by repeat (first | (with_reducible first | exact HB.out | apply below_alloc | apply pw_below_drewN | apply below_drew1 | refine below_set ?_ GW431.out) | exact HB.out))) : w.heap.size ≤ gb432)); have n4_ := Aside0.mk ((by rw [hg]; exact (below_size (by repeat (first | (with_reducible first | exact HB.out | apply below_alloc | apply pw_below_drewN | apply below_drew1 | refine below_set ?_ GW431.out) | exact HB.out))) : w.heap.size ≤ gb432)); have n5_ := Aside0.mk ((by rw [hg]; exact Nat.ne_of_lt (blk_lt (g := gb431) (o := .cells #[.slice A0_0 l0_0.length c0_0] 41 (0, 0)) (by (with_reducible repeat (first | refine blk_drewN ?_ _ | refine blk_drew ?_ | refine blk_alloc ?_ _)); exact BK431.out)) : gb431 ≠ gb432)); have n6_ := Aside0.mk ((by rw [hg]; exact Nat.ne_of_gt (blk_lt (g := gb431) (o := .cells #[.slice A0_0 l0_0.length c0_0] 41 (0, 0)) (by (with_reducible repeat (first | refine blk_drewN ?_ _ | refine blk_drew ?_ | refine blk_alloc ?_ _)); exact BK431.out)) : gb432 ≠ gb431)); clear BK431; clear HB; have BK431 := n0_; have HB := n1_; have BK432 := n2_; have GW432 := n3_; have GW432 := n4_; have NB431_432 := n5_; have NB432_431 := n6_; clear n0_ n1_ n2_ n3_ n4_ n5_ n6_; clear hb hbox hg; have hnb23 := NB431_432.out; have hnc23 := NB432_431.out; have hcz24_0 : w22.cell? ⟨gb431, 0, none⟩ = some (.slice A0_0 l0_0.length c0_0) := (blk_cell BK431.out 0).trans rfl; have hfz24_0 := blk_frozen BK431.out 0; have hcz25_0 : w22.cell? ⟨gb432, 0, none⟩ = some (.slice A1_0 l1_0.length c1_0) := (blk_cell BK432.out 0).trans rfl; have hfz25_0 := blk_frozen BK432.out 0))
  repeat (go_quiet (first | ((with_reducible refine gate_dst (N := 2) rfl ?_); refine box_event ?hg (N := 2) ?hd (cs := #[.slice A0_0 l0_0.length c0_0]) (t := 41) ?hr ?_; (case hd => rfl); (case hg => rfl); (case hr => first | (go_simp; done) | (go_simp; rfl)); intro gb431 hg w21 hbox hb; have n0_ := Aside0.mk (below_step (by repeat (first | (with_reducible first | exact HB.out | apply below_alloc | apply pw_below_drewN | apply below_drew1) | exact HB.out)) hb); have n1_ := Aside0.mk (hbox); have n2_ := Aside0.mk ((by rw [hg]; exact (below_size (by repeat (first | (with_reducible first | exact HB.out | apply below_alloc | apply pw_below_drewN | apply below_drew1) | exact HB.out))) : w.heap.size ≤ gb431)); have n3_ := Aside0.mk ((by rw [hg]; exact (below_size (by repeat (first | (with_reducible first | exact HB.out | apply below_alloc | apply pw_below_drewN | apply below_drew1) | exact HB.out))) : w.heap.size ≤ gb431)); clear HB; have HB := n0_; have BK431 := n1_; have GW431 := n2_; have GW431 := n3_; clear n0_ n1_ n2_ n3_; clear hb hbox hg) | ((with_reducible refine gate_dst (N := 3) rfl ?_); refine box_event ?hg (N := 3) ?hd (cs := #[.slice A1_0 l1_0.length c1_0]) (t := 41) ?hr ?_; (case hd => rfl); (case hg => rfl); (case hr => first | (go_simp; done) | (go_simp; rfl)); intro gb432 hg w22 hbox hb; have n0_ := Aside0.mk (blk_below (g := gb431) (o := .cells #[.slice A0_0 l0_0.length c0_0] 41 (0, 0)) (by (with_reducible repeat (first | refine blk_drewN ?_ _ | refine blk_drew ?_ | refine blk_alloc ?_ _)); exact BK431.out) hb); have n1_ := Aside0.mk (below_step (by repeat (first | (with_reducible first | exact HB.out | apply below_alloc | apply pw_below_drewN | apply below_drew1 | refine below_set ?_ GW431.out) | exact HB.out)) hb); have n2_ := Aside0.mk (hbox); have n3_ := Aside0.mk ((by rw [hg]; exact (below_size (by repeat (first | (with_reducible first | exact HB.out | apply below_alloc | apply pw_below_drewN | apply below_drew1 | refine below_set ?_ GW431.out) | exact HB.out))) : w.heap.size ≤ gb432)); have n4_ := Aside0.mk ((by rw [hg]; exact (below_size (by repeat (first | (with_reducible first | exact HB.out | apply below_alloc | apply pw_below_drewN | apply below_drew1 | refine below_set ?_ GW431.out) | exact HB.out))) : w.heap.size ≤ gb432)); have n5_ := Aside0.mk ((by rw [hg]; exact Nat.ne_of_lt (blk_lt (g := gb431) (o := .cells #[.slice A0_0 l0_0.length c0_0] 41 (0, 0)) (by (with_reducible repeat (first | refine blk_drewN ?_ _ | refine blk_drew ?_ | refine blk_alloc ?_ _)); exact BK431.out)) : gb431 ≠ gb432)); have n6_ := Aside0.mk ((by rw [hg]; exact Nat.ne_of_gt (blk_lt (g := gb431) (o := .cells #[.slice A0_0 l0_0.length c0_0] 41 (0, 0)) (by (with_reducible repeat (first | refine blk_drewN ?_ _ | refine blk_drew ?_ | refine blk_alloc ?_ _)); exact BK431.out)) : gb432 ≠ gb431)); clear BK431; clear HB; have BK431 := n0_; have HB := n1_; have BK432 := n2_; have GW432 := n3_; have GW432 := n4_; have NB431_432 := n5_; have NB432_431 := n6_; clear n0_ n1_ n2_ n3_ n4_ n5_ n6_; clear hb hbox hg; have hnb23 := NB431_432.out; have hnc23 := NB432_431.out; have hcz24_0 : w22.cell? ⟨gb431, 0, none⟩ = some (.slice A0_0 l0_0.length c0_0) := (blk_cell BK431.out 0).trans rfl; have hfz24_0 := blk_frozen BK431.out 0; have hcz25_0 : w22.cell? ⟨gb432, 0, none⟩ = some (.slice A1_0 l1_0.length c1_0) := (blk_cell BK432.out 0).trans rfl; have hfz25_0 := blk_frozen BK432.out 0)); try go_wp2_with (first | ((with_reducible refine gate_dst (N := 2) rfl ?_); refine box_event ?hg (N := 2) ?hd (cs := #[.slice A0_0 l0_0.length c0_0]) (t := 41) ?hr ?_; (case hd => rfl); (case hg => rfl); (case hr => first | (go_simp; done) | (go_simp; rfl)); intro gb431 hg w21 hbox hb; have n0_ := Aside0.mk (below_step (by repeat (first | (with_reducible first | exact HB.out | apply below_alloc | apply pw_below_drewN | apply below_drew1) | exact HB.out)) hb); have n1_ := Aside0.mk (hbox); have n2_ := Aside0.mk ((by rw [hg]; exact (below_size (by repeat (first | (with_reducible first | exact HB.out | apply below_alloc | apply pw_below_drewN | apply below_drew1) | exact HB.out))) : w.heap.size ≤ gb431)); have n3_ := Aside0.mk ((by rw [hg]; exact (below_size (by repeat (first | (with_reducible first | exact HB.out | apply below_alloc | apply pw_below_drewN | apply below_drew1) | exact HB.out))) : w.heap.size ≤ gb431)); clear HB; have HB := n0_; have BK431 := n1_; have GW431 := n2_; have GW431 := n3_; clear n0_ n1_ n2_ n3_; clear hb hbox hg) | ((with_reducible refine gate_dst (N := 3) rfl ?_); refine box_event ?hg (N := 3) ?hd (cs := #[.slice A1_0 l1_0.length c1_0]) (t := 41) ?hr ?_; (case hd => rfl); (case hg => rfl); (case hr => first | (go_simp; done) | (go_simp; rfl)); intro gb432 hg w22 hbox hb; have n0_ := Aside0.mk (blk_below (g := gb431) (o := .cells #[.slice A0_0 l0_0.length c0_0] 41 (0, 0)) (by (with_reducible repeat (first | refine blk_drewN ?_ _ | refine blk_drew ?_ | refine blk_alloc ?_ _)); exact BK431.out) hb); have n1_ := Aside0.mk (below_step (by repeat (first | (with_reducible first | exact HB.out | apply below_alloc | apply pw_below_drewN | apply below_drew1 | refine below_set ?_ GW431.out) | exact HB.out)) hb); have n2_ := Aside0.mk (hbox); have n3_ := Aside0.mk ((by rw [hg]; exact (below_size (by repeat (first | (with_reducible first | exact HB.out | apply below_alloc | apply pw_below_drewN | apply below_drew1 | refine below_set ?_ GW431.out) | exact HB.out))) : w.heap.size ≤ gb432)); have n4_ := Aside0.mk ((by rw [hg]; exact (below_size (by repeat (first | (with_reducible first | exact HB.out | apply below_alloc | apply pw_below_drewN | apply below_drew1 | refine below_set ?_ GW431.out) | exact HB.out))) : w.heap.size ≤ gb432)); have n5_ := Aside0.mk ((by rw [hg]; exact Nat.ne_of_lt (blk_lt (g := gb431) (o := .cells #[.slice A0_0 l0_0.length c0_0] 41 (0, 0)) (by (with_reducible repeat (first | refine blk_drewN ?_ _ | refine blk_drew ?_ | refine blk_alloc ?_ _)); exact BK431.out)) : gb431 ≠ gb432)); have n6_ := Aside0.mk ((by rw [hg]; exact Nat.ne_of_gt (blk_lt (g := gb431) (o := .cells #[.slice A0_0 l0_0.length c0_0] 41 (0, 0)) (by (with_reducible repeat (first | refine blk_drewN ?_ _ | refine blk_drew ?_ | refine blk_alloc ?_ _)); exact BK431.out)) : gb432 ≠ gb431)); clear BK431; clear HB; have BK431 := n0_; have HB := n1_; have BK432 := n2_; have GW432 := n3_; have GW432 := n4_; have NB431_432 := n5_; have NB432_431 := n6_; clear n0_ n1_ n2_ n3_ n4_ n5_ n6_; clear hb hbox hg; have hnb23 := NB431_432.out; have hnc23 := NB432_431.out; have hcz24_0 : w22.cell? ⟨gb431, 0, none⟩ = some (.slice A0_0 l0_0.length c0_0) := (blk_cell BK431.out 0).trans rfl; have hfz24_0 := blk_frozen BK431.out 0; have hcz25_0 : w22.cell? ⟨gb432, 0, none⟩ = some (.slice A1_0 l1_0.length c1_0) := (blk_cell BK432.out 0).trans rfl; have hfz25_0 := blk_frozen BK432.out 0)))
  go_ret
  exact ⟨by first | rfl | (simp [errW_none, errW_some] <;> rfl) | (simp [*, errW_none, errW_some] <;> rfl), by repeat (first | (with_reducible first | exact HB.out | apply below_alloc | apply pw_below_drewN | apply below_drew1 | refine below_set ?_ GW431.out | refine below_set ?_ GW432.out) | exact HB.out)⟩
 rw [if_pos c3] at H
 have c3b0 : ((l0_0.length : Int) == (l1_0.length : Int)) = true := beq_iff_eq.mpr c3
 have c3b1 : ((l0_0.length : Int) != (l1_0.length : Int)) = false := bne_eq_false_iff_eq.mpr c3
 have c3b2 : (l0_0.length == l1_0.length) = true := by first | simpa using c3 | (simp at c3 ⊢; omega)
 clear c3
 have H' := Aside0.mk H
 clear H
 go_enter Tryz.func25, Tryz.ntmps25
 go_wp2_with (first | ((with_reducible refine gate_dst (N := 2) rfl ?_); refine box_event ?hg (N := 2) ?hd (cs := #[.slice A0_0 l0_0.length c0_0]) (t := 41) ?hr ?_; (case hd => rfl); (case hg => rfl); (case hr => first | (go_simp; done) | (go_simp; rfl)); intro gb431 hg w4 hbox hb; have n0_ := Aside0.mk (below_step (by repeat (first | (with_reducible first | exact HB.out | apply below_alloc | apply pw_below_drewN | apply below_drew1) | exact HB.out)) hb); have n1_ := Aside0.mk (hbox); have n2_ := Aside0.mk ((by rw [hg]; exact (below_size (by repeat (first | (with_reducible first | exact HB.out | apply below_alloc | apply pw_below_drewN | apply below_drew1) | exact HB.out))) : w.heap.size ≤ gb431)); have n3_ := Aside0.mk ((by rw [hg]; exact (below_size (by repeat (first | (with_reducible first | exact HB.out | apply below_alloc | apply pw_below_drewN | apply below_drew1) | exact HB.out))) : w.heap.size ≤ gb431)); clear HB; have HB := n0_; have BK431 := n1_; have GW431 := n2_; have GW431 := n3_; clear n0_ n1_ n2_ n3_; clear hb hbox hg) | ((with_reducible refine gate_dst (N := 3) rfl ?_); refine box_event ?hg (N := 3) ?hd (cs := #[.slice A1_0 l1_0.length c1_0]) (t := 41) ?hr ?_; (case hd => rfl); (case hg => rfl); (case hr => first | (go_simp; done) | (go_simp; rfl)); intro gb432 hg w5 hbox hb; have n0_ := Aside0.mk (blk_below (g := gb431) (o := .cells #[.slice A0_0 l0_0.length c0_0] 41 (0, 0)) (by (with_reducible repeat (first | refine blk_drewN ?_ _ | refine blk_drew ?_ | refine blk_alloc ?_ _)); exact BK431.out) hb); have n1_ := Aside0.mk (below_step (by repeat (first | (with_reducible first | exact HB.out | apply below_alloc | apply pw_below_drewN | apply below_drew1 | refine below_set ?_ GW431.out) | exact HB.out)) hb); have n2_ := Aside0.mk (hbox); have n3_ := Aside0.mk ((by rw [hg]; exact (below_size (by repeat (first | (with_reducible first | exact HB.out | apply below_alloc | apply pw_below_drewN | apply below_drew1 | refine below_set ?_ GW431.out) | exact HB.out))) : w.heap.size ≤ gb432)); have n4_ := Aside0.mk ((by rw [hg]; exact (below_size (by repeat (first | (with_reducible first | exact HB.out | apply below_alloc | apply pw_below_drewN | apply below_drew1 | refine below_set ?_ GW431.out) | exact HB.out))) : w.heap.size ≤ gb432)); have n5_ := Aside0.mk ((by rw [hg]; exact Nat.ne_of_lt (blk_lt (g := gb431) (o := .cells #[.slice A0_0 l0_0.length c0_0] 41 (0, 0)) (by (with_reducible repeat (first | refine blk_drewN ?_ _ | refine blk_drew ?_ | refine blk_alloc ?_ _)); exact BK431.out)) : gb431 ≠ gb432)); have n6_ := Aside0.mk ((by rw [hg]; exact Nat.ne_of_gt (blk_lt (g := gb431) (o := .cells #[.slice A0_0 l0_0.length c0_0] 41 (0, 0)) (by (with_reducible repeat (first | refine blk_drewN ?_ _ | refine blk_drew ?_ | refine blk_alloc ?_ _)); exact BK431.out)) : gb432 ≠ gb431)); clear BK431; clear HB; have BK431 := n0_; have HB := n1_; have BK432 := n2_; have GW432 := n3_; have GW432 := n4_; have NB431_432 := n5_; have NB432_431 := n6_; clear n0_ n1_ n2_ n3_ n4_ n5_ n6_; clear hb hbox hg; have hnb6 := NB431_432.out; have hnc6 := NB432_431.out; have hcz7_0 : w5.cell? ⟨gb431, 0, none⟩ = some (.slice A0_0 l0_0.length c0_0) := (blk_cell BK431.out 0).trans rfl; have hfz7_0 := blk_frozen BK431.out 0; have hcz8_0 : w5.cell? ⟨gb432, 0, none⟩ = some (.slice A1_0 l1_0.length c1_0) := (blk_cell BK432.out 0).trans rfl; have hfz8_0 := blk_frozen BK432.out 0))
 repeat (go_quiet (first | ((with_reducible refine gate_dst (N := 2) rfl ?_); refine box_event ?hg (N := 2) ?hd (cs := #[.slice A0_0 l0_0.length c0_0]) (t := 41) ?hr ?_; (case hd => rfl); (case hg => rfl); (case hr => first | (go_simp; done) | (go_simp; rfl)); intro gb431 hg w4 hbox hb; have n0_ := Aside0.mk (below_step (by repeat (first | (with_reducible first | exact HB.out | apply below_alloc | apply pw_below_drewN | apply below_drew1) | exact HB.out)) hb); have n1_ := Aside0.mk (hbox); have n2_ := Aside0.mk ((by rw [hg]; exact (below_size (by repeat (first | (with_reducible first | exact HB.out | apply below_alloc | apply pw_below_drewN | apply below_drew1) | exact HB.out))) : w.heap.size ≤ gb431)); have n3_ := Aside0.mk ((by rw [hg]; exact (below_size (by repeat (first | (with_reducible first | exact HB.out | apply below_alloc | apply pw_below_drewN | apply below_drew1) | exact HB.out))) : w.heap.size ≤ gb431)); clear HB; have HB := n0_; have BK431 := n1_; have GW431 := n2_; have GW431 := n3_; clear n0_ n1_ n2_ n3_; clear hb hbox hg) | ((with_reducible refine gate_dst (N := 3) rfl ?_); refine box_event ?hg (N := 3) ?hd (cs := #[.slice A1_0 l1_0.length c1_0]) (t := 41) ?hr ?_; (case hd => rfl); (case hg => rfl); (case hr => first | (go_simp; done) | (go_simp; rfl)); intro gb432 hg w5 hbox hb; have n0_ := Aside0.mk (blk_below (g := gb431) (o := .cells #[.slice A0_0 l0_0.length c0_0] 41 (0, 0)) (by (with_reducible repeat (first | refine blk_drewN ?_ _ | refine blk_drew ?_ | refine blk_alloc ?_ _)); exact BK431.out) hb); have n1_ := Aside0.mk (below_step (by repeat (first | (with_reducible first | exact HB.out | apply below_alloc | apply pw_below_drewN | apply below_drew1 | refine below_set ?_ GW431.out) | exact HB.out)) hb); have n2_ := Aside0.mk (hbox); have n3_ := Aside0.mk ((by rw [hg]; exact (below_size (by repeat (first | (with_reducible first | exact HB.out | apply below_alloc | apply pw_below_drewN | apply below_drew1 | refine below_set ?_ GW431.out) | exact HB.out))) : w.heap.size ≤ gb432)); have n4_ := Aside0.mk ((by rw [hg]; exact (below_size (by repeat (first | (with_reducible first | exact HB.out | apply below_alloc | apply pw_below_drewN | apply below_drew1 | refine below_set ?_ GW431.out) | exact HB.out))) : w.heap.size ≤ gb432)); have n5_ := Aside0.mk ((by rw [hg]; exact Nat.ne_of_lt (blk_lt (g := gb431) (o := .cells #[.slice A0_0 l0_0.length c0_0] 41 (0, 0)) (by (with_reducible repeat (first | refine blk_drewN ?_ _ | refine blk_drew ?_ | refine blk_alloc ?_ _)); exact BK431.out)) : gb431 ≠ gb432)); have n6_ := Aside0.mk ((by rw [hg]; exact Nat.ne_of_gt (blk_lt (g := gb431) (o := .cells #[.slice A0_0 l0_0.length c0_0] 41 (0, 0)) (by (with_reducible repeat (first | refine blk_drewN ?_ _ | refine blk_drew ?_ | refine blk_alloc ?_ _)); exact BK431.out)) : gb432 ≠ gb431)); clear BK431; clear HB; have BK431 := n0_; have HB := n1_; have BK432 := n2_; have GW432 := n3_; have GW432 := n4_; have NB431_432 := n5_; have NB432_431 := n6_; clear n0_ n1_ n2_ n3_ n4_ n5_ n6_; clear hb hbox hg; have hnb6 := NB431_432.out; have hnc6 := NB432_431.out; have hcz7_0 : w5.cell? ⟨gb431, 0, none⟩ = some (.slice A0_0 l0_0.length c0_0) := (blk_cell BK431.out 0).trans rfl; have hfz7_0 := blk_frozen BK431.out 0; have hcz8_0 : w5.cell? ⟨gb432, 0, none⟩ = some (.slice A1_0 l1_0.length c1_0) := (blk_cell BK432.out 0).trans rfl; have hfz8_0 := blk_frozen BK432.out 0)); try go_wp2_with (first | ((with_reducible refine gate_dst (N := 2) rfl ?_); refine box_event ?hg (N := 2) ?hd (cs := #[.slice A0_0 l0_0.length c0_0]) (t := 41) ?hr ?_; (case hd => rfl); (case hg => rfl); (case hr => first | (go_simp; done) | (go_simp; rfl)); intro gb431 hg w4 hbox hb; have n0_ := Aside0.mk (below_step (by repeat (first | (with_reducible first | exact HB.out | apply below_alloc | apply pw_below_drewN | apply below_drew1) | exact HB.out)) hb); have n1_ := Aside0.mk (hbox); have n2_ := Aside0.mk ((by rw [hg]; exact (below_size (by repeat (first | (with_reducible first | exact HB.out | apply below_alloc | apply pw_below_drewN | apply below_drew1) | exact HB.out))) : w.heap.size ≤ gb431)); have n3_ := Aside0.mk ((by rw [hg]; exact (below_size (by repeat (first | (with_reducible first | exact HB.out | apply below_alloc | apply pw_below_drewN | apply below_drew1) | exact HB.out))) : w.heap.size ≤ gb431)); clear HB; have HB := n0_; have BK431 := n1_; have GW431 := n2_; have GW431 := n3_; clear n0_ n1_ n2_ n3_; clear hb hbox hg) | ((with_reducible refine gate_dst (N := 3) rfl ?_); refine box_event ?hg (N := 3) ?hd (cs := #[.slice A1_0 l1_0.length c1_0]) (t := 41) ?hr ?_; (case hd => rfl); (case hg => rfl); (case hr => first | (go_simp; done) | (go_simp; rfl)); intro gb432 hg w5 hbox hb; have n0_ := Aside0.mk (blk_below (g := gb431) (o := .cells #[.slice A0_0 l0_0.length c0_0] 41 (0, 0)) (by (with_reducible repeat (first | refine blk_drewN ?_ _ | refine blk_drew ?_ | refine blk_alloc ?_ _)); exact BK431.out) hb); have n1_ := Aside0.mk (below_step (by repeat (first | (with_reducible first | exact HB.out | apply below_alloc | apply pw_below_drewN | apply below_drew1 | refine below_set ?_ GW431.out) | exact HB.out)) hb); have n2_ := Aside0.mk (hbox); have n3_ := Aside0.mk ((by rw [hg]; exact (below_size (by repeat (first | (with_reducible first | exact HB.out | apply below_alloc | apply pw_below_drewN | apply below_drew1 | refine below_set ?_ GW431.out) | exact HB.out))) : w.heap.size ≤ gb432)); have n4_ := Aside0.mk ((by rw [hg]; exact (below_size (by repeat (first | (with_reducible first | exact HB.out | apply below_alloc | apply pw_below_drewN | apply below_drew1 | refine below_set ?_ GW431.out) | exact HB.out))) : w.heap.size ≤ gb432)); have n5_ := Aside0.mk ((by rw [hg]; exact Nat.ne_of_lt (blk_lt (g := gb431) (o := .cells #[.slice A0_0 l0_0.length c0_0] 41 (0, 0)) (by (with_reducible repeat (first | refine blk_drewN ?_ _ | refine blk_drew ?_ | refine blk_alloc ?_ _)); exact BK431.out)) : gb431 ≠ gb432)); have n6_ := Aside0.mk ((by rw [hg]; exact Nat.ne_of_gt (blk_lt (g := gb431) (o := .cells #[.slice A0_0 l0_0.length c0_0] 41 (0, 0)) (by (with_reducible repeat (first | refine blk_drewN ?_ _ | refine blk_drew ?_ | refine blk_alloc ?_ _)); exact BK431.out)) : gb432 ≠ gb431)); clear BK431; clear HB; have BK431 := n0_; have HB := n1_; have BK432 := n2_; have GW432 := n3_; have GW432 := n4_; have NB431_432 := n5_; have NB432_431 := n6_; clear n0_ n1_ n2_ n3_ n4_ n5_ n6_; clear hb hbox hg; have hnb6 := NB431_432.out; have hnc6 := NB432_431.out; have hcz7_0 : w5.cell? ⟨gb431, 0, none⟩ = some (.slice A0_0 l0_0.length c0_0) := (blk_cell BK431.out 0).trans rfl; have hfz7_0 := blk_frozen BK431.out 0; have hcz8_0 : w5.cell? ⟨gb432, 0, none⟩ = some (.slice A1_0 l1_0.length c1_0) := (blk_cell BK432.out 0).trans rfl; have hfz8_0 := blk_frozen BK432.out 0)))
 go_loopg [5] k (fun kq v5 w' => ∃ (x5_1 : Int), v5 = .int .i64 x5_1 ∧ Aside0 (wF33.l0 kq x5_1 l0_0 l1_0 = some r) ∧ Aside0 (kq ≤ k) ∧ Aside0 (w'.heap[gb431]? = some (.cells #[(.slice A0_0 l0_0.length c0_0)] 41 (0, 0))) ∧ Aside0 (w'.heap[gb432]? = some (.cells #[(.slice A1_0 l1_0.length c1_0)] 41 (0, 0))) ∧ Aside0 (Below w.heap.size w w'))
 case atStart => exact ⟨(0), (by first | rfl | (simp; done) | (simp [*]; done)), H', ⟨Nat.le_refl _⟩, ⟨by (with_reducible repeat (first | refine blk_drewN ?_ _ | refine blk_drew ?_ | refine blk_alloc ?_ _)); exact BK431.out⟩, ⟨by (with_reducible repeat (first | refine blk_drewN ?_ _ | refine blk_drew ?_ | refine blk_alloc ?_ _)); exact BK432.out⟩, ⟨by repeat (first | (with_reducible first | exact HB.out | apply below_alloc | apply pw_below_drewN | apply below_drew1 | refine below_set ?_ GW431.out | refine below_set ?_ GW432.out) | exact HB.out)⟩⟩
 clear H'
 try clear c1
 try clear c2
 try clear p2
 try clear c3
 try clear c3b0
 try clear c3b1
 try clear c3b2
 try clear c6
 try clear hcz7_0
 try clear hcz8_0
 try clear hfz7_0
 try clear hfz8_0
 obtain ⟨x5_1, rfl, HA, HK1, BK431, BK432, HB⟩ := hrel
 cases gk with
 | zero => exact absurd HA.out (by simp [wF33.l0])
 | succ k1 =>
  have H := HA.out
  clear HA
  simp only [wF33.l0] at H
  by_cases c9 : x5_1 < (l0_0.length : Int)
  rotate_left
  ·
   rw [if_neg c9] at H
   have c9b0 : decide (x5_1 < (l0_0.length : Int)) = false := dF_ c9
   clear c9
   obtain rfl := Option.some.inj H
   have hnb19 := NB431_432.out
   have hnc19 := NB432_431.out
   have hcz20_0 : wr.cell? ⟨gb431, 0, none⟩ = some (.slice A0_0 l0_0.length c0_0) := (blk_cell BK431.out 0).trans rfl
   have hfz20_0 := blk_frozen BK431.out 0
   go_wp2
   repeat (go_quiet (fail); try go_wp2)
   go_ret
   exact ⟨by first | rfl | (simp [errW_none, errW_some] <;> rfl) | (simp [*, errW_none, errW_some] <;> rfl), by repeat (first | (with_reducible first | exact HB.out | apply below_alloc | apply pw_below_drewN | apply below_drew1 | refine below_set ?_ GW431.out | refine below_set ?_ GW432.out) | exact HB.out)⟩
  rw [if_pos c9] at H
  have c9b0 : decide (x5_1 < (l0_0.length : Int)) = true := dT_ c9
  clear c9
  by_cases c10 : 0 ≤ x5_1
  rotate_left
  ·
   rw [if_neg c10] at H
   exact absurd H (by simp)
  rw [if_pos c10] at H
  have c10b0 : decide (0 ≤ x5_1) = true := dT_ c10
  clear c10
  by_cases c11 : x5_1 < (l1_0.length : Int)
  rotate_left
  ·
   rw [if_neg c11] at H
   exact absurd H (by simp)
  rw [if_pos c11] at H
  have c11b0 : decide (x5_1 < (l1_0.length : Int)) = true := dT_ c11
  clear c11
  by_cases c12 : (!(((rd_T46 l0_0 x5_1).f0) == ((rd_T46 l1_0 x5_1).f0)) || (!(((rd_T46 l0_0 x5_1).f1) == ((rd_T46 l1_0 x5_1).f1)) || (!(((rd_T46 l0_0 x5_1).f2) == ((rd_T46 l1_0 x5_1).f2))))) = true
  ·
   rw [if_pos c12] at H
   have c12b0 : (!(((rd_T46 l0_0 x5_1).f0) == ((rd_T46 l1_0 x5_1).f0)) || (!(((rd_T46 l0_0 x5_1).f1) == ((rd_T46 l1_0 x5_1).f1)) || (!(((rd_T46 l0_0 x5_1).f2) == ((rd_T46 l1_0 x5_1).f2))))) = true := c12
   clear c12
   obtain rfl := Option.some.inj H
   have hnb13 := NB431_432.out
   have hnc13 := NB432_431.out
   have hcz14_0 : wr.cell? ⟨gb431, 0, none⟩ = some (.slice A0_0 l0_0.length c0_0) := (blk_cell BK431.out 0).trans rfl
   have hfz14_0 := blk_frozen BK431.out 0
   have p433 : 0 ≤ (x5_1 : Int) := oD_ (by first | (with_reducible assumption) | assumption)
   have q433 : x5_1 < (l0_0.length : Int) := oD_ (by first | (with_reducible assumption) | assumption)
   obtain ⟨ad433, e433, hx433_0, hx433_1, hx433_2⟩ := at_T46 HR0_0.out x5_1 p433 q433
   cases e433
   replace hx433_0 := (HB.out.cell (World.block_lt_of_cell? w _ hx433_0)).trans hx433_0
   replace hx433_1 := (HB.out.cell (World.block_lt_of_cell? w _ hx433_1)).trans hx433_1
   replace hx433_2 := (HB.out.cell (World.block_lt_of_cell? w _ hx433_2)).trans hx433_2
   replace p433 := eq_true p433
   replace q433 := eq_true q433
   have hcz15_0 : wr.cell? ⟨gb432, 0, none⟩ = some (.slice A1_0 l1_0.length c1_0) := (blk_cell BK432.out 0).trans rfl
   have hfz15_0 := blk_frozen BK432.out 0
   have p434 : 0 ≤ (x5_1 : Int) := oD_ (by first | (with_reducible assumption) | assumption)
   have q434 : x5_1 < (l1_0.length : Int) := oD_ (by first | (with_reducible assumption) | assumption)
   obtain ⟨ad434, e434, hx434_0, hx434_1, hx434_2⟩ := at_T46 HR1_0.out x5_1 p434 q434
   cases e434
   replace hx434_0 := (HB.out.cell (World.block_lt_of_cell? w _ hx434_0)).trans hx434_0
   replace hx434_1 := (HB.out.cell (World.block_lt_of_cell? w _ hx434_1)).trans hx434_1
   replace hx434_2 := (HB.out.cell (World.block_lt_of_cell? w _ hx434_2)).trans hx434_2
   replace p434 := eq_true p434
   replace q434 := eq_true q434
   go_wp2
   repeat (go_quiet (fail); try go_wp2)
   go_ret
   exact ⟨by first | rfl | (simp [errW_none, errW_some] <;> rfl) | (simp [*, errW_none, errW_some] <;> rfl), by repeat (first | (with_reducible first | exact HB.out | apply below_alloc | apply pw_below_drewN | apply below_drew1 | refine below_set ?_ GW431.out | refine below_set ?_ GW432.out) | exact HB.out)⟩
  rw [if_neg c12] at H
  have c12b0 : (!(((rd_T46 l0_0 x5_1).f0) == ((rd_T46 l1_0 x5_1).f0)) || (!(((rd_T46 l0_0 x5_1).f1) == ((rd_T46 l1_0 x5_1).f1)) || (!(((rd_T46 l0_0 x5_1).f2) == ((rd_T46 l1_0 x5_1).f2))))) = false := by simpa using c12
  clear c12
  have H' := Aside0.mk H
  clear H
  have hnb16 := NB431_432.out
  have hnc16 := NB432_431.out
  have hcz17_0 : wr.cell? ⟨gb431, 0, none⟩ = some (.slice A0_0 l0_0.length c0_0) := (blk_cell BK431.out 0).trans rfl
  have hfz17_0 := blk_frozen BK431.out 0
  have p433 : 0 ≤ (x5_1 : Int) := oD_ (by first | (with_reducible assumption) | assumption)
  have q433 : x5_1 < (l0_0.length : Int) := oD_ (by first | (with_reducible assumption) | assumption)
  obtain ⟨ad433, e433, hx433_0, hx433_1, hx433_2⟩ := at_T46 HR0_0.out x5_1 p433 q433
  cases e433
  replace hx433_0 := (HB.out.cell (World.block_lt_of_cell? w _ hx433_0)).trans hx433_0
  replace hx433_1 := (HB.out.cell (World.block_lt_of_cell? w _ hx433_1)).trans hx433_1
  replace hx433_2 := (HB.out.cell (World.block_lt_of_cell? w _ hx433_2)).trans hx433_2
  replace p433 := eq_true p433
  replace q433 := eq_true q433
  have hcz18_0 : wr.cell? ⟨gb432, 0, none⟩ = some (.slice A1_0 l1_0.length c1_0) := (blk_cell BK432.out 0).trans rfl
  have hfz18_0 := blk_frozen BK432.out 0
  have p434 : 0 ≤ (x5_1 : Int) := oD_ (by first | (with_reducible assumption) | assumption)
  have q434 : x5_1 < (l1_0.length : Int) := oD_ (by first | (with_reducible assumption) | assumption)
  obtain ⟨ad434, e434, hx434_0, hx434_1, hx434_2⟩ := at_T46 HR1_0.out x5_1 p434 q434
  cases e434
  replace hx434_0 := (HB.out.cell (World.block_lt_of_cell? w _ hx434_0)).trans hx434_0
  replace hx434_1 := (HB.out.cell (World.block_lt_of_cell? w _ hx434_1)).trans hx434_1
  replace hx434_2 := (HB.out.cell (World.block_lt_of_cell? w _ hx434_2)).trans hx434_2
  replace p434 := eq_true p434
  replace q434 := eq_true q434
  go_wp2
  repeat (go_quiet (fail); try go_wp2)
  go_roundg k1
  case measure => have := HK1.out; omega
  case rel => exact ⟨(wrap64 (x5_1 + 1)), (by first | rfl | (simp; done) | (simp [*]; done)), H', ⟨by have := HK1.out; omega⟩, ⟨by (with_reducible repeat (first | refine blk_drewN ?_ _ | refine blk_drew ?_ | refine blk_alloc ?_ _)); exact BK431.out⟩, ⟨by (with_reducible repeat (first | refine blk_drewN ?_ _ | refine blk_drew ?_ | refine blk_alloc ?_ _)); exact BK432.out⟩, ⟨by repeat (first | (with_reducible first | exact HB.out | apply below_alloc | apply pw_below_drewN | apply below_drew1 | refine below_set ?_ GW431.out | refine below_set ?_ GW432.out) | exact HB.out)⟩⟩
end Go.Proofs.YtblcdgnihmcdpaaGreatDoor.P
namespace Go.Proofs.YtblcdgnihmcdpaaGreatDoor.P
open Go.RowKit Go.Proofs.YtblcdgnihmcdpaaGreatDoorW.PrintWords Go.Proofs.YtblcdgnihmcdpaaGreatDoorW.PrintLast Go.Proofs.YtblcdgnihmcdpaaGreatDoorW.PrintMore
attribute [local go_sem] max2_int min2_int max_two min_two max_three min_three max_four min_four
def wF30.f (l0 : List Int) : Option (Bool) := some (decide ((l0.length : Int) > 65536))
theorem wF30.calls (A0 : Option Addr) (c0 : Nat) (l0 : List Int) (r : Bool) (w : World) (hr0 : Kd.C (Kd.int .u8) w A0 l0.length l0) (hc0 : l0.length ≤ c0) (h : wF30.f l0 = some r) :
  Calls Tryz.prog 5 #[.slice A0 l0.length c0] w fun e w' => e = .returned (.bool r) ∧ Drawn0 w w' := by
 have HR0 := Aside0.mk hr0
 have HC0 := Aside0.mk hc0
 clear hr0 hc0
 have H : (some (decide ((l0.length : Int) > 65536))) = some r := h
 clear h
 obtain rfl := Option.some.inj H
 go_enter Tryz.func5, Tryz.ntmps5
 go_wp2
 go_ret
 exact ⟨by first | rfl | (simp; done) | (simp [*]; done), by repeat (first | exact Drawn0.refl _ | apply Drawn0.step)⟩
def sF39.f (k : Nat) (l0 : List Int) : Option ByteArray := (sF51.f k l0 0 0).bind fun b => some b.1
theorem sF39.mono : ∀ a0 k, LeO (sF39.f k a0) (sF39.f (k + 1) a0) := fun a0 k => LeO.bind (sF51.mono _ _ _ _) fun _ => LeO.refl _
set_option maxHeartbeats 1600000 in
theorem sF39.calls (k : Nat) (A0 : Option Addr) (c0 : Nat) (l0 : List Int) (r : ByteArray) (w : World) (hr0 : Kd.C (Kd.int .u8) w A0 l0.length l0) (hc0 : l0.length ≤ c0) (h : sF39.f k l0 = some r) :
  Calls Tryz.prog 42 #[.slice A0 l0.length c0] w fun e w' => e = .returned (.string r) ∧ Below w.heap.size w w' := by
 unfold sF39.f at h
 obtain ⟨⟨t1, t2, t3⟩, h1, h2⟩ := Option.bind_eq_some_iff.mp h
 obtain rfl := Option.some.inj h2
 have HR := Aside0.mk hr0
 have HT := Aside0.mk h1
 clear h h1 hr0 h2
 go_enter Tryz.func42, Tryz.ntmps42
 go_wp2_with (go_at_call 54; refine (sF51.calls k w.heap.size l0 0 0 t1 t2 t3 w _ ⟨A0, c0, blk_new w _, Nat.le_refl _, HR.out⟩ (below_alloc (Below.refl _ _) _) HT.out).mono ?_; rintro e w' ⟨rfl, hi, hb, hk⟩; have HB := Aside0.mk hb; clear hi hb hk)
 go_ret
 exact ⟨rfl, HB.out⟩
def sF41.f (k : Nat) (l0 : List Int) : Option (ByteArray) := (sF39.f k l0).bind fun t146 => (some t146)
theorem sF41.mono : ∀ a0 k, LeO (sF41.f k a0) (sF41.f (k + 1) a0) := by
 intro a0 k
 unfold sF41.f
 repeat' with_reducible first | exact sF39.mono _ _ | exact LeO.refl _ | exact LeO.none _ | refine LeO.ite ?_ ?_ | refine LeO.bind ?_ (fun _ => ?_)
theorem sF41.calls (k : Nat) (A0 : Option Addr) (c0 : Nat) (l0 : List Int) (r : ByteArray) (w : World) (hr0 : Kd.C (Kd.int .u8) w A0 l0.length l0) (hc0 : l0.length ≤ c0) (h : sF41.f k l0 = some r) :
  Calls Tryz.prog 6 #[.slice A0 l0.length c0] w fun e w' => e = .returned (.string r) ∧ Below w.heap.size w w' := by
 have HR0 := Aside0.mk hr0
 have HC0 := Aside0.mk hc0
 clear hr0 hc0
 have HB := Aside0.mk (Below.refl w.heap.size w)
 have H : ((sF39.f k l0).bind fun t146 => (some t146)) = some r := h
 clear h
 replace H := Option.bind_eq_some_iff.mp H
 obtain ⟨t146, A20, H⟩ := H
 replace H : (some t146) = some r := H
 have A2 := Aside0.mk A20
 clear A20
 obtain rfl := Option.some.inj H
 go_enter Tryz.func6, Tryz.ntmps6
 go_wp2_with (first | ((with_reducible refine gate_callee (f := 42) rfl ?_); refine goesL_ (some 4) rfl rfl Tryz.func42 (by kernel_rfl) rfl #[.slice A0 l0.length c0] rfl (by (try simp only [List.map_toArray, List.map_cons, List.map_nil]); first | done | rfl | (simp only [List.length_drop, List.length_take]; rfl)) ?_; (with_reducible refine (sF39.calls k _ _ l0 t146 _ ?side1 HC0.out A2.out).mono ?_); (case side1 => repeat (first | exact HR0.out | with_reducible first | apply cA_ | apply cN_ | apply cD_)); rintro e w3 ⟨rfl, hb⟩; refine ⟨_, rfl, ?_⟩; have n0_ := Aside0.mk (below_step (by repeat (first | (with_reducible first | exact HB.out | apply below_alloc | apply pw_below_drewN | apply below_drew1) | exact HB.out)) hb); clear HB; have HB := n0_; clear n0_; (try clear hb); (try clear hb2); (try clear hk); (try clear hi)))
 go_ret
 exact ⟨by first | rfl | (simp [errW_none, errW_some] <;> rfl) | (simp [*, errW_none, errW_some] <;> rfl), by repeat (first | (with_reducible first | exact HB.out | apply below_alloc | apply pw_below_drewN | apply below_drew1) | exact HB.out)⟩
def iF11.f (a0 : ByteArray) : Option (Bool) := (iF20.f a0).bind fun t213 => (some t213)
theorem iF11.calls (a0 : ByteArray) (r : Bool) (w : World) (h : iF11.f a0 = some r) :
  Calls Tryz.prog 9 #[.string a0] w fun e w' => e = .returned (.bool r) ∧ Below w.heap.size w w' := by
 have HB := Aside0.mk (Below.refl w.heap.size w)
 have H : ((iF20.f a0).bind fun t213 => (some t213)) = some r := h
 clear h
 replace H := Option.bind_eq_some_iff.mp H
 obtain ⟨t213, A20, H⟩ := H
 replace H : (some t213) = some r := H
 have A2 := Aside0.mk A20
 clear A20
 obtain rfl := Option.some.inj H
 go_enter Tryz.func9, Tryz.ntmps9
 go_wp2_with (first | ((with_reducible refine gate_callee (f := 48) rfl ?_); refine goesL_ (some 4) rfl rfl Tryz.func48 (by kernel_rfl) rfl #[.string a0] rfl (by (try simp only [List.map_toArray, List.map_cons, List.map_nil]); first | done | rfl | (simp only [List.length_drop, List.length_take]; rfl)) ?_; (with_reducible refine (iF20.calls a0 t213 _ A2.out).mono ?_); rintro e w3 ⟨rfl, hb⟩; refine ⟨_, rfl, ?_⟩; have n0_ := Aside0.mk (below_step (by repeat (first | (with_reducible first | exact HB.out | apply below_alloc | apply pw_below_drewN | apply below_drew1) | exact HB.out)) hb); clear HB; have HB := n0_; clear n0_; (try clear hb); (try clear hb2); (try clear hk); (try clear hi)))
 go_ret
 exact ⟨by first | rfl | (simp [errW_none, errW_some] <;> rfl) | (simp [*, errW_none, errW_some] <;> rfl), by repeat (first | (with_reducible first | exact HB.out | apply below_alloc | apply pw_below_drewN | apply below_drew1) | exact HB.out)⟩
def sF52.f (a0 : Int) (a1 : Int) (a2 : Int) : Option (Bool) := if a0 ≥ a1 then (some (decide (a0 ≤ a2))) else (some false)
theorem sF52.calls (a0 : Int) (a1 : Int) (a2 : Int) (r : Bool) (w : World) (h : sF52.f a0 a1 a2 = some r) :
  Calls Tryz.prog 74 #[.int .i64 a0, .int .i64 a1, .int .i64 a2] w fun e w' => e = .returned (.bool r) ∧ Drawn0 w w' := by
 have H : (if a0 ≥ a1 then (some (decide (a0 ≤ a2))) else (some false)) = some r := h
 clear h
 by_cases c4 : a0 ≥ a1
 ·
  rw [if_pos c4] at H
  have c4b0 : decide (a1 ≤ a0) = true := dT_ c4
  clear c4
  obtain rfl := Option.some.inj H
  go_enter Tryz.func74, Tryz.ntmps74
  go_wp2
  go_ret
  exact ⟨by first | rfl | (simp; done) | (simp [*]; done), by repeat (first | exact Drawn0.refl _ | apply Drawn0.step)⟩
 rw [if_neg c4] at H
 have c4b0 : decide (a1 ≤ a0) = false := dF_ c4
 clear c4
 obtain rfl := Option.some.inj H
 go_enter Tryz.func74, Tryz.ntmps74
 go_wp2
 go_ret
 exact ⟨by first | rfl | (simp; done) | (simp [*]; done), by repeat (first | exact Drawn0.refl _ | apply Drawn0.step)⟩
def iF19.f (a0 : Int) (a1 : Int) (a2 : Int) : Option (Bool) := if a0 ≥ a1 then (some (decide (a0 ≤ a2))) else (some false)
theorem iF19.calls (a0 : Int) (a1 : Int) (a2 : Int) (r : Bool) (w : World) (h : iF19.f a0 a1 a2 = some r) :
  Calls Tryz.prog 72 #[.int .i64 a0, .int .i64 a1, .int .i64 a2] w fun e w' => e = .returned (.bool r) ∧ Drawn0 w w' := by
 have H : (if a0 ≥ a1 then (some (decide (a0 ≤ a2))) else (some false)) = some r := h
 clear h
 by_cases c4 : a0 ≥ a1
 ·
  rw [if_pos c4] at H
  have c4b0 : decide (a1 ≤ a0) = true := dT_ c4
  clear c4
  obtain rfl := Option.some.inj H
  go_enter Tryz.func72, Tryz.ntmps72
  go_wp2
  go_ret
  exact ⟨by first | rfl | (simp; done) | (simp [*]; done), by repeat (first | exact Drawn0.refl _ | apply Drawn0.step)⟩
 rw [if_neg c4] at H
 have c4b0 : decide (a1 ≤ a0) = false := dF_ c4
 clear c4
 obtain rfl := Option.some.inj H
 go_enter Tryz.func72, Tryz.ntmps72
 go_wp2
 go_ret
 exact ⟨by first | rfl | (simp; done) | (simp [*]; done), by repeat (first | exact Drawn0.refl _ | apply Drawn0.step)⟩
def iF22.f (a0 : Int) : Option (ByteArray) := some (strOfNums (([(wrap64 (97 + a0)) % 256] : List Int)))
theorem iF22.calls (a0 : Int) (r : ByteArray) (w : World) (h : iF22.f a0 = some r) :
  Calls Tryz.prog 73 #[.int .i64 a0] w fun e w' => e = .returned (.string r) ∧ Below w.heap.size w w' := by
 have HB := Aside0.mk (Below.refl w.heap.size w)
 have H : (some (strOfNums (([(wrap64 (97 + a0)) % 256] : List Int)))) = some r := h
 clear h
 obtain ⟨y572, hy572⟩ : ∃ y_ : List Int, y_ = (([(wrap64 (97 + a0)) % 256] : List Int)) := ⟨_, rfl⟩
 replace H : (some (strOfNums y572)) = some r := by (try rw [hy572]); first | with_reducible exact H | with_reducible exact oS_ H | exact H
 have Ny572 := Aside0.mk hy572
 clear hy572
 obtain rfl := Option.some.inj H
 go_enter Tryz.func73, Tryz.ntmps73
 go_wp2_with (first | ((with_reducible refine gate_dst (N := 6) rfl ?_); refine Kd.R_lit (Kd.int .u8) _ 5 ?hg (N := 6) ?hd (xs := ([(wrap64 (97 + a0)) % 256] : List Int)) (inner := [.int .u8 ((wrap64 (97 + a0)) % 256)]) (ok := fun _ => True) (okp := fun _ => True) ?hr ?hp (fun _ hk => hk) trivial (Below.refl _ _) (Nat.le_refl _) (by simp) ?_; (case hd => rfl); (case hg => rfl); (case hr => first | (go_simp; done) | (go_simp; rfl)); (case hp => exact (Reps.one (show Kd.M (Kd.int .u8) _ _ _ ((wrap64 (97 + a0)) % 256) [.int .u8 ((wrap64 (97 + a0)) % 256)] from rfl) (Reps.none _ _))); intro v573 w2 ho3 hb hg_ hnew_; clear hg_ hnew_; (first | rw [← Ny572.out] at ho3 | (simp only [Int.reduceToNat] at ho3; rw [← Ny572.out] at ho3)); have n0_ := Aside0.mk (Kd.R_lower ho3 (below_size (by repeat (first | (with_reducible first | exact HB.out | apply below_alloc | apply pw_below_drewN | apply below_drew1) | exact HB.out)))); have n1_ := Aside0.mk (below_step (by repeat (first | (with_reducible first | exact HB.out | apply below_alloc | apply pw_below_drewN | apply below_drew1) | exact HB.out)) hb); clear HB; have HO574 := n0_; have HB := n1_; clear n0_ n1_; clear hb ho3; have hcv4 := own_string (P := Tryz.prog) Tryz.underlying22 Tryz.underlying5 Tryz.underlying9 (Kd.own_of_R HO574.out)))
 go_ret
 exact ⟨by first | rfl | (simp [errW_none, errW_some] <;> rfl) | (simp [*, errW_none, errW_some] <;> rfl), by repeat (first | (with_reducible first | exact HB.out | apply below_alloc | apply pw_below_drewN | apply below_drew1) | exact HB.out)⟩
end Go.Proofs.YtblcdgnihmcdpaaGreatDoor.P
namespace Go.Proofs.YtblcdgnihmcdpaaGreatDoor.M
open Go.RowKit Go.Proofs.YtblcdgnihmcdpaaGreatDoorW.PrintWords
theorem wrap64_id {x : Int} (h0 : -9223372036854775808 ≤ x) (h1 : x ≤ 9223372036854775807) : wrap64 x = x := by unfold wrap64; omega
theorem wrap64_succ (n : Nat) (h : n < 4611686018427387904) : wrap64 ((n : Int) + 1) = ((n + 1 : Nat) : Int) := by rw [wrap64_id (by omega) (by omega)]; rfl
theorem rd_nat (xs : List Int) (n : Nat) : rd xs (n : Int) = xs.getD n 0 := by simp [rd]
theorem getD_lt {α : Type} (z : α) {xs : List α} {n : Nat} (h : n < xs.length) : xs.getD n z = xs[n] := by simp [List.getD_eq_getElem?_getD, h]
theorem drop_cons_getD {α : Type} (z : α) {xs : List α} {n : Nat} (h : n < xs.length) : xs.drop n = xs.getD n z :: xs.drop (n + 1) := by
 rw [getD_lt z h]; exact List.drop_eq_getElem_cons h
theorem take_succ_getD {α : Type} (z : α) {xs : List α} {n : Nat} (h : n < xs.length) : xs.take (n + 1) = xs.take n ++ [xs.getD n z] := by
 rw [getD_lt z h, List.take_succ_eq_append_getElem h]
theorem Ev.some_bind {α β : Type} {a : α} {f : Nat → α → Option β} {r : β} (k : Ev (fun n => f n a) r) : Ev (fun n => (some a).bind fun t => f n t) r := k
theorem Ev.ifT {α : Type} {c : Prop} [Decidable c] {f g : Nat → Option α} {r : α} (h : c) (k : Ev f r) : Ev (fun n => if c then f n else g n) r := by simpa only [if_pos h] using k
theorem Ev.ifF {α : Type} {c : Prop} [Decidable c] {f g : Nat → Option α} {r : α} (h : ¬ c) (k : Ev g r) : Ev (fun n => if c then f n else g n) r := by simpa only [if_neg h] using k
def B (l : List UInt8) : ByteArray := ⟨l.toArray⟩
theorem exB (a : ByteArray) : ∃ l, a = B l := ⟨a.data.toList, ByteArray.ext (by simp [B])⟩
@[simp] theorem data_B (l : List UInt8) : (B l).data.toList = l := by simp [B]
@[simp] theorem toList_B (l : List UInt8) : (B l).toList = l := by rw [Go.ByteArray.toList_eq]; simp
@[simp] theorem size_B (l : List UInt8) : (B l).size = l.length := by rw [← ByteArray.size_data, ← Array.length_toList, data_B]
theorem B_data (a : ByteArray) : B a.data.toList = a := ByteArray.ext (by simp [B])
theorem eq_B {a : ByteArray} {l : List UInt8} (h : a.data.toList = l) : a = B l := by rw [← h, B_data]
@[simp] theorem append_B (l m : List UInt8) : B l ++ B m = B (l ++ m) := eq_B (by simp)
@[simp] theorem extract_B (l : List UInt8) (a b : Nat) : (B l).extract a b = B ((l.drop a).take (b - a)) := eq_B (by simp)
@[simp] theorem nil_B : (⟨#[]⟩ : ByteArray) = B [] := rfl
theorem bt_B (l : List UInt8) (n : Nat) (h : n < l.length) : bt (B l) (n : Int) = ((l.getD n 0).toNat : Int) := by
 have h2 : ((n : Int).toNat) < (B l).size := by simpa using h
 rw [bt, dif_pos h2, getD_lt 0 h]
 simp [B, ByteArray.getElem_eq_getElem_data]
def letterB (c : UInt8) : Bool := decide (97 ≤ c.toNat ∧ c.toNat ≤ 122)
end Go.Proofs.YtblcdgnihmcdpaaGreatDoor.M
namespace Go.Proofs.YtblcdgnihmcdpaaGreatDoor.M
abbrev Txt := List UInt8
theorem txt_irrefl (a : Txt) : ¬ a < a := List.lt_irrefl a
theorem txt_trans {a b c : Txt} (h : a < b) (k : b < c) : a < c := List.lt_trans h k
theorem txt_asymm {a b : Txt} (h : a < b) : ¬ b < a := fun k => txt_irrefl a (txt_trans h k)
theorem txt_tri {a b : Txt} (h : ¬ a < b) (k : ¬ b < a) : a = b := List.le_antisymm (List.not_lt.1 k) (List.not_lt.1 h)
def putL : List Txt → Txt → List Txt
 | [], w => [w]
 | x :: r, w => if x < w then x :: putL r w else if x = w then x :: r else w :: x :: r
def foundL : List Txt → Txt → Bool
 | [], _ => false
 | x :: r, w => if x < w then foundL r w else decide (x = w)
theorem putL_found : ∀ (l : List Txt) (w : Txt), foundL l w = true → putL l w = l
 | [], _, h => by simp [foundL] at h
 | x :: r, w, h => by
  by_cases h1 : x < w
  ·
   simp only [foundL, if_pos h1] at h; simp only [putL, if_pos h1, putL_found r w h]
  simp only [foundL, if_neg h1, decide_eq_true_eq] at h; simp only [putL, if_neg h1, if_pos h]
def Asc (l : List Txt) : Prop := l.Pairwise (· < ·)
theorem mem_putL : ∀ (l : List Txt) (w y : Txt), y ∈ putL l w ↔ y = w ∨ y ∈ l
 | [], w, y => by simp [putL]
 | x :: r, w, y => by
  by_cases h1 : x < w
  ·
   simp only [putL, if_pos h1, List.mem_cons, mem_putL r w y]
   constructor
   ·
    rintro (h | h | h)
    ·
     exact .inr (.inl h)
    ·
     exact .inl h
    exact .inr (.inr h)
   rintro (h | h | h)
   ·
    exact .inr (.inl h)
   ·
    exact .inl h
   exact .inr (.inr h)
  by_cases h2 : x = w
  ·
   simp only [putL, if_neg h1, if_pos h2, List.mem_cons]
   constructor
   ·
    exact fun h => .inr h
   rintro (h | h)
   ·
    exact .inl (h.trans h2.symm)
   exact h
  simp [putL, h1, h2]
theorem asc_putL : ∀ (l : List Txt) (w : Txt), Asc l → Asc (putL l w)
 | [], w, _ => by simp [putL, Asc]
 | x :: r, w, h => by
  unfold Asc at h ⊢
  rw [List.pairwise_cons] at h
  by_cases h1 : x < w
  ·
   simp only [putL, if_pos h1, List.pairwise_cons]
   refine ⟨fun y hy => ?_, asc_putL r w h.2⟩
   rcases (mem_putL r w y).1 hy with rfl | hy
   ·
    exact h1
   exact h.1 y hy
  by_cases h2 : x = w
  ·
   simp only [putL, if_neg h1, if_pos h2]; exact List.pairwise_cons.2 h
  simp only [putL, if_neg h1, if_neg h2, List.pairwise_cons]
  have hw : w < x := by
   by_cases h3 : w < x
   ·
    exact h3
   exact absurd (txt_tri h1 h3) h2
  refine ⟨fun y hy => ?_, h⟩
  rcases List.mem_cons.1 hy with rfl | hy
  ·
   exact hw
  exact txt_trans hw (h.1 y hy)
theorem asc_ext : ∀ (l m : List Txt), Asc l → Asc m → (∀ y, y ∈ l ↔ y ∈ m) → l = m
 | [], [], _, _, _ => rfl
 | [], y :: m, _, _, h => absurd ((h y).2 (by simp)) (by simp)
 | x :: l, [], _, _, h => absurd ((h x).1 (by simp)) (by simp)
 | x :: l, y :: m, hl, hm, h => by
  unfold Asc at hl hm
  rw [List.pairwise_cons] at hl hm
  have hxy : x = y := by
   rcases List.mem_cons.1 ((h x).1 (by simp)) with e | hx
   ·
    exact e
   rcases List.mem_cons.1 ((h y).2 (by simp)) with e | hy
   ·
    exact e.symm
   exact absurd (hm.1 x hx) (txt_asymm (hl.1 y hy))
  subst hxy
  rw [asc_ext l m hl.2 hm.2 ?_]
  intro z
  have := h z
  simp only [List.mem_cons] at this
  constructor
  ·
   intro hz
   rcases this.1 (.inr hz) with e | hz'
   ·
    exact absurd (hl.1 z hz) (by rw [e]; exact txt_irrefl _)
   exact hz'
  intro hz
  rcases this.2 (.inr hz) with e | hz'
  ·
   exact absurd (hm.1 z hz) (by rw [e]; exact txt_irrefl _)
  exact hz'
def setL (l : List Txt) : List Txt := l.foldl putL []
theorem foldl_putL_mem : ∀ (l acc : List Txt) (y : Txt), y ∈ l.foldl putL acc ↔ y ∈ l ∨ y ∈ acc
 | [], acc, y => by simp
 | x :: l, acc, y => by
  rw [List.foldl_cons, foldl_putL_mem l, mem_putL]
  simp only [List.mem_cons]
  constructor
  ·
   rintro (h | h | h)
   ·
    exact .inl (.inr h)
   ·
    exact .inl (.inl h)
   exact .inr h
  rintro ((h | h) | h)
  ·
   exact .inr (.inl h)
  ·
   exact .inl h
  exact .inr (.inr h)
theorem foldl_putL_asc : ∀ (l acc : List Txt), Asc acc → Asc (l.foldl putL acc)
 | [], _, h => h
 | _ :: l, acc, h => foldl_putL_asc l _ (asc_putL acc _ h)
theorem mem_setL (l : List Txt) (y : Txt) : y ∈ setL l ↔ y ∈ l := by simp [setL, foldl_putL_mem]
theorem asc_setL (l : List Txt) : Asc (setL l) := foldl_putL_asc l [] List.Pairwise.nil
theorem setL_of_asc {l : List Txt} (h : Asc l) : setL l = l := asc_ext _ _ (asc_setL l) h (mem_setL l)
theorem putL_length_le : ∀ (l : List Txt) (w : Txt), (putL l w).length ≤ l.length + 1
 | [], w => by simp [putL]
 | x :: r, w => by
  have := putL_length_le r w
  by_cases h1 : x < w
  ·
   simp only [putL, if_pos h1, List.length_cons]; omega
  by_cases h2 : x = w
  ·
   simp only [putL, if_neg h1, if_pos h2, List.length_cons]; omega
  simp only [putL, if_neg h1, if_neg h2, List.length_cons]; omega
end Go.Proofs.YtblcdgnihmcdpaaGreatDoor.M
