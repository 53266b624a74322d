/-
  Part 4 of the proof that FnExactChanceHit returns true for every input: the functions that it reaches, each with its contract, and the law.
  Conditions: those of the given statement, no others.
-/
import Derived.Test.YtgagmodkjmegeaaCFnExactChanceHitW0
import Derived.Shelf.Abstract
import Derived.WalkKit
import Derived.ProofKit
import Derived.OpenShut
import Derived.Deep.Slices
import Derived.Deep.Fields
import Derived.ChangeSame
import Derived.Lib.SmallJoins
import Derived.Lib.SlicesCompact
import Derived.Test.YtgagmodkjmegeaaCFnExactChanceHit0
import Derived.Test.YtgagmodkjmegeaaCFnExactChanceHit2
import Derived.Test.YtgagmodkjmegeaaCFnExactChanceHit1
set_option linter.unusedVariables false
set_option linter.unusedSimpArgs false
namespace Go.Proofs.Ytgagmodkjmegeaa.P
open Go.RowKit Go.Proofs.YtgagmodkjmegeaaW.PrintWords Go.Proofs.YtgagmodkjmegeaaW.PrintLast Go.Proofs.YtgagmodkjmegeaaW.PrintMore
attribute [local go_sem] max2_int min2_int max_two min_two max_three min_three max_four min_four
set_option linter.unusedVariables false
set_option linter.unusedSimpArgs false

/-! ### slices_IsSorted_string_string: function 87 -/
def slices_IsSorted_string_string.l0 : Nat → List ByteArray → Int → Option (Bool)
 | 0, _, _ => none
 | k + 1, x0, x3 => if x3 > 0 then (if 0 ≤ x3 then (if x3 < (x0.length : Int) then (if 0 ≤ (wrap64 (x3 - 1)) then (if (wrap64 (x3 - 1)) < (x0.length : Int) then ((cmp_Less_string.f (rdOf ByteArray.empty x0 x3) (rdOf ByteArray.empty x0 (wrap64 (x3 - 1)))).bind fun t286 => (if t286 = true then (some false) else (slices_IsSorted_string_string.l0 k x0 (wrap64 (x3 - 1))))) else (none)) else (none)) else (none)) else (none)) else (some true)
def slices_IsSorted_string_string.f (k : Nat) (l0 : List ByteArray) : Option (Bool) := slices_IsSorted_string_string.l0 k l0 (wrap64 ((l0.length : Int) - 1))
theorem slices_IsSorted_string_string.mono_l : ∀ k, (∀ y0 y1, LeO (slices_IsSorted_string_string.l0 k y0 y1) (slices_IsSorted_string_string.l0 (k + 1) y0 y1))
 | 0 => fun _ _ r h => by simp [slices_IsSorted_string_string.l0] at h
 | k + 1 => by
  have ih0 := slices_IsSorted_string_string.mono_l k
  ·
   intro y0 y1
   unfold slices_IsSorted_string_string.l0
   repeat' first
   | (with_reducible exact ih0 _ _)
   | (with_reducible exact LeO.refl _)
   | (with_reducible exact LeO.none _)
   | (with_reducible refine LeO.ite ?_ ?_)
   | (with_reducible refine LeO.bind ?_ (fun _ => ?_))
   | exact ih0 _ _
   | exact LeO.none _
   | refine LeO.ite ?_ ?_
   | refine LeO.bind ?_ (fun _ => ?_)
theorem slices_IsSorted_string_string.mono : ∀ a0 k, LeO (slices_IsSorted_string_string.f k a0) (slices_IsSorted_string_string.f (k + 1) a0) := by
 intro a0 k
 have ih0 := slices_IsSorted_string_string.mono_l k
 unfold slices_IsSorted_string_string.f
 repeat' first
   | (with_reducible exact ih0 _ _)
   | (with_reducible exact LeO.refl _)
   | (with_reducible exact LeO.none _)
   | (with_reducible refine LeO.ite ?_ ?_)
   | (with_reducible refine LeO.bind ?_ (fun _ => ?_))
   | exact ih0 _ _
   | exact LeO.none _
   | refine LeO.ite ?_ ?_
   | refine LeO.bind ?_ (fun _ => ?_)
set_option maxHeartbeats 8000000 in
set_option maxRecDepth 100000 in
theorem slices_IsSorted_string_string.calls (k : Nat) (A0 : Option Addr) (c0 : Nat) (l0 : List ByteArray) (r : Bool) (w : World) (hr0 : Kd.C Kd.string w A0 l0.length l0) (hc0 : l0.length ≤ c0) (h : slices_IsSorted_string_string.f k l0 = some r) :
  Calls Try.prog 87 #[.slice A0 l0.length c0] w fun e w' => e = .returned (.bool r) ∧ Drawn0 w w' := by
 have HR0 := Aside0.mk hr0
 have HC0 := Aside0.mk hc0
 clear hr0 hc0
 have H : (slices_IsSorted_string_string.l0 k l0 (wrap64 ((l0.length : Int) - 1))) = some r := h
 clear h
 have H' := Aside0.mk H
 clear H
 go_enter Try.func87, Try.ntmps87
 go_wp2
 repeat (go_quiet (fail); try go_wp2)
 go_loopg [3] k (fun kq v3 w' => ∃ (x3_1 : Int), v3 = .int .i64 x3_1 ∧ Aside0 (slices_IsSorted_string_string.l0 kq l0 x3_1 = some r) ∧ Aside0 (kq ≤ k) ∧ Drawn0 w w')
 case atStart => exact ⟨(wrap64 ((l0.length : Int) - 1)), (by first | rfl | (simp; done) | (simp [*]; done)), H', ⟨Nat.le_refl _⟩, by repeat (first | exact Drawn0.refl _ | apply Drawn0.step)⟩
 case round =>
  clear H'
  obtain ⟨x3_1, rfl, HA, HK1, ⟨m1, rfl⟩⟩ := hrel
  cases gk with
  | zero => exact absurd HA.out (by simp [slices_IsSorted_string_string.l0])
  | succ k1 =>
   have H := HA.out
   clear HA
   simp only [slices_IsSorted_string_string.l0] at H
   by_cases c2 : x3_1 > 0
   ·
    rw [if_pos c2] at H
    have c2b0 : decide (0 < x3_1) = true := decide_eq_true c2
    clear c2
    by_cases c3 : 0 ≤ x3_1
    ·
     rw [if_pos c3] at H
     have c3b0 : decide (0 ≤ x3_1) = true := decide_eq_true c3
     clear c3
     by_cases c4 : x3_1 < (l0.length : Int)
     ·
      rw [if_pos c4] at H
      have c4b0 : decide (x3_1 < (l0.length : Int)) = true := decide_eq_true c4
      clear c4
      obtain ⟨ji5, hji5⟩ : ∃ j_ : Int, (wrap64 (x3_1 - 1)) = j_ := ⟨_, rfl⟩
      replace H : (if 0 ≤ (ji5) then (if (ji5) < (l0.length : Int) then ((cmp_Less_string.f (rdOf ByteArray.empty l0 x3_1) (rdOf ByteArray.empty l0 (ji5))).bind fun t286 => (if t286 = true then (some false) else (slices_IsSorted_string_string.l0 k1 l0 ji5))) else (none)) else (none)) = some r := by first | (rw [hji5] at H; exact H) | (simp only [hji5] at H ⊢; exact H)
      have hji5w : (IntKind.i64.wrap (x3_1 - 1)) = ji5 := (i64_w _).trans hji5
      by_cases c6 : 0 ≤ (ji5)
      ·
       rw [if_pos c6] at H
       have c6b0 : decide (0 ≤ (ji5)) = true := decide_eq_true c6
       clear c6
       by_cases c7 : (ji5) < (l0.length : Int)
       ·
        rw [if_pos c7] at H
        have c7b0 : decide ((ji5) < (l0.length : Int)) = true := decide_eq_true c7
        clear c7
        replace H := Option.bind_eq_some_iff.mp H
        obtain ⟨t286, A80, H⟩ := H
        replace H : (if t286 = true then (some false) else (slices_IsSorted_string_string.l0 k1 l0 ji5)) = some r := H
        have A8 := Aside0.mk A80
        clear A80
        by_cases c9 : t286 = true
        ·
         subst c9
         have H1 : (some false) = some r := by rw [if_pos rfl] at H; exact H
         clear H
         have H := H1
         clear H1
         obtain rfl := Option.some.inj H
         have p284 : 0 ≤ (x3_1 : Int) := of_decide_eq_true (by first | (with_reducible assumption) | assumption)
         have q284 : x3_1 < (l0.length : Int) := of_decide_eq_true (by first | (with_reducible assumption) | assumption)
         obtain ⟨ad284, e284, hx284_0⟩ := Kd.at_string HR0.out x3_1 p284 q284
         cases e284
         replace p284 := eq_true p284
         replace q284 := eq_true q284
         have p285 : 0 ≤ ((ji5) : Int) := of_decide_eq_true (by first | (with_reducible assumption) | assumption)
         have q285 : (ji5) < (l0.length : Int) := of_decide_eq_true (by first | (with_reducible assumption) | assumption)
         obtain ⟨ad285, e285, hx285_0⟩ := Kd.at_string HR0.out (ji5) p285 q285
         obtain rfl : ad284 = ad285 := (by injection e285)
         replace p285 := eq_true p285
         replace q285 := eq_true q285
         go_wp2_with (first | (go_at_call 113; (with_reducible refine (cmp_Less_string.calls (rdOf ByteArray.empty l0 x3_1) (rdOf ByteArray.empty l0 (ji5)) true _ A8.out).mono ?_); rintro e w' ⟨rfl, ⟨nd, rfl⟩⟩; (try first | exact ⟨rfl, _, World.drewN_drewN _ _ _⟩ | exact ⟨rfl, _, Eq.trans (World.drewN_drewN _ _ _) (congrArg (World.drewN _) (Nat.add_assoc _ _ _))⟩)))
         repeat (go_quiet (first | (go_at_call 113; (with_reducible refine (cmp_Less_string.calls (rdOf ByteArray.empty l0 x3_1) (rdOf ByteArray.empty l0 (ji5)) true _ A8.out).mono ?_); rintro e w' ⟨rfl, ⟨nd, rfl⟩⟩; (try first | exact ⟨rfl, _, World.drewN_drewN _ _ _⟩ | exact ⟨rfl, _, Eq.trans (World.drewN_drewN _ _ _) (congrArg (World.drewN _) (Nat.add_assoc _ _ _))⟩))); try go_wp2_with (first | (go_at_call 113; (with_reducible refine (cmp_Less_string.calls (rdOf ByteArray.empty l0 x3_1) (rdOf ByteArray.empty l0 (ji5)) true _ A8.out).mono ?_); rintro e w' ⟨rfl, ⟨nd, rfl⟩⟩; (try first | exact ⟨rfl, _, World.drewN_drewN _ _ _⟩ | exact ⟨rfl, _, Eq.trans (World.drewN_drewN _ _ _) (congrArg (World.drewN _) (Nat.add_assoc _ _ _))⟩))))
         go_ret
         exact ⟨by first | rfl | (simp; done) | (simp only [← hji5] <;> (first | rfl | simp)) | (simp [*]; done), by repeat (first | exact Drawn0.refl _ | apply Drawn0.step)⟩
        ·
         replace c9 := Bool.eq_false_iff.mpr c9
         subst c9
         have H1 : (slices_IsSorted_string_string.l0 k1 l0 ji5) = some r := by rw [if_neg (show ¬ (false = true) by decide)] at H; exact H
         clear H
         have H := H1
         clear H1
         have H' := Aside0.mk H
         clear H
         have p284 : 0 ≤ (x3_1 : Int) := of_decide_eq_true (by first | (with_reducible assumption) | assumption)
         have q284 : x3_1 < (l0.length : Int) := of_decide_eq_true (by first | (with_reducible assumption) | assumption)
         obtain ⟨ad284, e284, hx284_0⟩ := Kd.at_string HR0.out x3_1 p284 q284
         cases e284
         replace p284 := eq_true p284
         replace q284 := eq_true q284
         have p285 : 0 ≤ ((ji5) : Int) := of_decide_eq_true (by first | (with_reducible assumption) | assumption)
         have q285 : (ji5) < (l0.length : Int) := of_decide_eq_true (by first | (with_reducible assumption) | assumption)
         obtain ⟨ad285, e285, hx285_0⟩ := Kd.at_string HR0.out (ji5) p285 q285
         obtain rfl : ad284 = ad285 := (by injection e285)
         replace p285 := eq_true p285
         replace q285 := eq_true q285
         go_wp2_with (first | (go_at_call 113; (with_reducible refine (cmp_Less_string.calls (rdOf ByteArray.empty l0 x3_1) (rdOf ByteArray.empty l0 (ji5)) false _ A8.out).mono ?_); rintro e w' ⟨rfl, ⟨nd, rfl⟩⟩; (try first | exact ⟨rfl, _, World.drewN_drewN _ _ _⟩ | exact ⟨rfl, _, Eq.trans (World.drewN_drewN _ _ _) (congrArg (World.drewN _) (Nat.add_assoc _ _ _))⟩)))
         repeat (go_quiet (first | (go_at_call 113; (with_reducible refine (cmp_Less_string.calls (rdOf ByteArray.empty l0 x3_1) (rdOf ByteArray.empty l0 (ji5)) false _ A8.out).mono ?_); rintro e w' ⟨rfl, ⟨nd, rfl⟩⟩; (try first | exact ⟨rfl, _, World.drewN_drewN _ _ _⟩ | exact ⟨rfl, _, Eq.trans (World.drewN_drewN _ _ _) (congrArg (World.drewN _) (Nat.add_assoc _ _ _))⟩))); try go_wp2_with (first | (go_at_call 113; (with_reducible refine (cmp_Less_string.calls (rdOf ByteArray.empty l0 x3_1) (rdOf ByteArray.empty l0 (ji5)) false _ A8.out).mono ?_); rintro e w' ⟨rfl, ⟨nd, rfl⟩⟩; (try first | exact ⟨rfl, _, World.drewN_drewN _ _ _⟩ | exact ⟨rfl, _, Eq.trans (World.drewN_drewN _ _ _) (congrArg (World.drewN _) (Nat.add_assoc _ _ _))⟩))))
         go_roundg k1
         case measure => have := HK1.out; omega
         case rel => exact ⟨(ji5), (by first | rfl | (simp; done) | (simp only [← hji5] <;> (first | rfl | simp)) | (simp [*]; done)), H', ⟨by have := HK1.out; omega⟩, by repeat (first | exact Drawn0.refl _ | apply Drawn0.step)⟩
       ·
        rw [if_neg c7] at H
        exact absurd H (by simp)
      ·
       rw [if_neg c6] at H
       exact absurd H (by simp)
     ·
      rw [if_neg c4] at H
      exact absurd H (by simp)
    ·
     rw [if_neg c3] at H
     exact absurd H (by simp)
   ·
    rw [if_neg c2] at H
    have c2b0 : decide (0 < x3_1) = false := decide_eq_false c2
    clear c2
    obtain rfl := Option.some.inj H
    go_wp2
    repeat (go_quiet (fail); try go_wp2)
    go_ret
    exact ⟨by first | rfl | (simp; done) | (simp [*]; done), by repeat (first | exact Drawn0.refl _ | apply Drawn0.step)⟩

end Go.Proofs.Ytgagmodkjmegeaa.P

namespace Go.Proofs.Ytgagmodkjmegeaa.P
open Go.RowKit Go.Proofs.YtgagmodkjmegeaaW.PrintWords Go.Proofs.YtgagmodkjmegeaaW.PrintLast Go.Proofs.YtgagmodkjmegeaaW.PrintMore
attribute [local go_sem] max2_int min2_int max_two min_two max_three min_three max_four min_four
set_option linter.unusedVariables false
set_option linter.unusedSimpArgs false

attribute [local go_sem high] eqA80
/-! ### impl_Node: function 88 -/
def impl_Node.l0 : Nat → List (S80) → List (S80) → Int → Int → Option (Bool)
 | 0, _, _, _, _ => none
 | k + 1, x0, x1, x12, x13 => if x13 < x12 then (if 0 ≤ x13 then (if x13 < (x0.length : Int) then (if x13 < (x1.length : Int) then (if (!(((rd_T80 x0 x13).f0) == ((rd_T80 x1 x13).f0)) || (!(((rd_T80 x0 x13).f1) == ((rd_T80 x1 x13).f1)) || (!(((rd_T80 x0 x13).f2) == ((rd_T80 x1 x13).f2))))) = true then (some false) else (impl_Node.l0 k x0 x1 x12 (wrap64 (x13 + 1)))) else (none)) else (none)) else (none)) else (some true)
def impl_Node.f (k : Nat) (l0 : List (S80)) (l1 : List (S80)) : Option (Bool) := if (l0.length : Int) = (l1.length : Int) then (impl_Node.l0 k l0 l1 (l0.length : Int) 0) else (some false)
theorem impl_Node.mono_l : ∀ k, (∀ y0 y1 y2 y3, LeO (impl_Node.l0 k y0 y1 y2 y3) (impl_Node.l0 (k + 1) y0 y1 y2 y3))
 | 0 => fun _ _ _ _ r h => by simp [impl_Node.l0] at h
 | k + 1 => by
  have ih0 := impl_Node.mono_l k
  ·
   intro y0 y1 y2 y3
   unfold impl_Node.l0
   repeat' first
   | (with_reducible exact ih0 _ _ _ _)
   | (with_reducible exact LeO.refl _)
   | (with_reducible exact LeO.none _)
   | (with_reducible refine LeO.ite ?_ ?_)
   | (with_reducible refine LeO.bind ?_ (fun _ => ?_))
   | exact ih0 _ _ _ _
   | exact LeO.none _
   | refine LeO.ite ?_ ?_
   | refine LeO.bind ?_ (fun _ => ?_)
theorem impl_Node.mono : ∀ a0 a1 k, LeO (impl_Node.f k a0 a1) (impl_Node.f (k + 1) a0 a1) := by
 intro a0 a1 k
 have ih0 := impl_Node.mono_l k
 unfold impl_Node.f
 repeat' first
   | (with_reducible exact ih0 _ _ _ _)
   | (with_reducible exact LeO.refl _)
   | (with_reducible exact LeO.none _)
   | (with_reducible refine LeO.ite ?_ ?_)
   | (with_reducible refine LeO.bind ?_ (fun _ => ?_))
   | exact ih0 _ _ _ _
   | exact LeO.none _
   | refine LeO.ite ?_ ?_
   | refine LeO.bind ?_ (fun _ => ?_)
set_option maxHeartbeats 8000000 in
set_option maxRecDepth 100000 in
theorem impl_Node.calls (k : Nat) (A0 : Option Addr) (c0 : Nat) (l0 : List (S80)) (A1 : Option Addr) (c1 : Nat) (l1 : List (S80)) (r : Bool) (w : World) (hr0 : Kd.C k80 w A0 l0.length l0) (hc0 : l0.length ≤ c0) (hr1 : Kd.C k80 w A1 l1.length l1) (hc1 : l1.length ≤ c1) (h : impl_Node.f k l0 l1 = some r) :
  Calls Try.prog 88 #[.slice A0 l0.length c0, .slice A1 l1.length c1] w fun e w' => e = .returned (.bool r) ∧ Drawn0 w w' := by
 have hu80 := Try.underlying80
 have HR0 := Aside0.mk hr0
 have HC0 := Aside0.mk hc0
 clear hr0 hc0
 have HR1 := Aside0.mk hr1
 have HC1 := Aside0.mk hc1
 clear hr1 hc1
 have H : (if (l0.length : Int) = (l1.length : Int) then (impl_Node.l0 k l0 l1 (l0.length : Int) 0) else (some false)) = some r := h
 clear h
 by_cases c3 : (l0.length : Int) = (l1.length : Int)
 ·
  rw [if_pos c3] at H
  have c3b0 : ((l0.length : Int) == (l1.length : Int)) = true := beq_iff_eq.mpr c3
  have c3b1 : ((l0.length : Int) != (l1.length : Int)) = false := bne_eq_false_iff_eq.mpr c3
  have c3b2 : (l0.length == l1.length) = true := by first | simpa using c3 | (simp at c3 ⊢; omega)
  clear c3
  have H' := Aside0.mk H
  clear H
  go_enter Try.func88, Try.ntmps88
  go_wp2
  repeat (go_quiet (fail); try go_wp2)
  go_loopg [13] k (fun kq v13 w' => ∃ (x13_1 : Int), v13 = .int .i64 x13_1 ∧ Aside0 (impl_Node.l0 kq l0 l1 (l0.length : Int) x13_1 = some r) ∧ Aside0 (kq ≤ k) ∧ Drawn0 w w')
  case atStart => exact ⟨(0), (by first | rfl | (simp; done) | (simp [*]; done)), H', ⟨Nat.le_refl _⟩, by repeat (first | exact Drawn0.refl _ | apply Drawn0.step)⟩
  case round =>
   clear H'
   try clear c1
   try clear p2
   try clear c3
   try clear c3b0
   try clear c3b1
   try clear c3b2
   obtain ⟨x13_1, rfl, HA, HK1, ⟨m1, rfl⟩⟩ := hrel
   cases gk with
   | zero => exact absurd HA.out (by simp [impl_Node.l0])
   | succ k1 =>
    have H := HA.out
    clear HA
    simp only [impl_Node.l0] at H
    by_cases c4 : x13_1 < (l0.length : Int)
    ·
     rw [if_pos c4] at H
     have c4b0 : decide (x13_1 < (l0.length : Int)) = true := decide_eq_true c4
     clear c4
     by_cases c5 : 0 ≤ x13_1
     ·
      rw [if_pos c5] at H
      have c5b0 : decide (0 ≤ x13_1) = true := decide_eq_true c5
      clear c5
      by_cases c6 : x13_1 < (l0.length : Int)
      ·
       rw [if_pos c6] at H
       have c6b0 : decide (x13_1 < (l0.length : Int)) = true := decide_eq_true c6
       clear c6
       by_cases c7 : x13_1 < (l1.length : Int)
       ·
        rw [if_pos c7] at H
        have c7b0 : decide (x13_1 < (l1.length : Int)) = true := decide_eq_true c7
        clear c7
        by_cases c8 : (!(((rd_T80 l0 x13_1).f0) == ((rd_T80 l1 x13_1).f0)) || (!(((rd_T80 l0 x13_1).f1) == ((rd_T80 l1 x13_1).f1)) || (!(((rd_T80 l0 x13_1).f2) == ((rd_T80 l1 x13_1).f2))))) = true
        ·
         rw [if_pos c8] at H
         have c8b0 : (!(((rd_T80 l0 x13_1).f0) == ((rd_T80 l1 x13_1).f0)) || (!(((rd_T80 l0 x13_1).f1) == ((rd_T80 l1 x13_1).f1)) || (!(((rd_T80 l0 x13_1).f2) == ((rd_T80 l1 x13_1).f2))))) = true := c8
         clear c8
         obtain rfl := Option.some.inj H
         have p287 : 0 ≤ (x13_1 : Int) := of_decide_eq_true (by first | (with_reducible assumption) | assumption)
         have q287 : x13_1 < (l0.length : Int) := of_decide_eq_true (by first | (with_reducible assumption) | assumption)
         obtain ⟨ad287, e287, hx287_0, hx287_1, hx287_2⟩ := at_T80 HR0.out x13_1 p287 q287
         cases e287
         replace p287 := eq_true p287
         replace q287 := eq_true q287
         have p288 : 0 ≤ (x13_1 : Int) := of_decide_eq_true (by first | (with_reducible assumption) | assumption)
         have q288 : x13_1 < (l1.length : Int) := of_decide_eq_true (by first | (with_reducible assumption) | assumption)
         obtain ⟨ad288, e288, hx288_0, hx288_1, hx288_2⟩ := at_T80 HR1.out x13_1 p288 q288
         cases e288
         replace p288 := eq_true p288
         replace q288 := eq_true q288
         go_wp2
         repeat (go_quiet (fail); try go_wp2)
         go_ret
         exact ⟨by first | rfl | (simp; done) | (simp [*]; done), by repeat (first | exact Drawn0.refl _ | apply Drawn0.step)⟩
        ·
         rw [if_neg c8] at H
         have c8b0 : (!(((rd_T80 l0 x13_1).f0) == ((rd_T80 l1 x13_1).f0)) || (!(((rd_T80 l0 x13_1).f1) == ((rd_T80 l1 x13_1).f1)) || (!(((rd_T80 l0 x13_1).f2) == ((rd_T80 l1 x13_1).f2))))) = false := by simpa using c8
         clear c8
         have H' := Aside0.mk H
         clear H
         have p287 : 0 ≤ (x13_1 : Int) := of_decide_eq_true (by first | (with_reducible assumption) | assumption)
         have q287 : x13_1 < (l0.length : Int) := of_decide_eq_true (by first | (with_reducible assumption) | assumption)
         obtain ⟨ad287, e287, hx287_0, hx287_1, hx287_2⟩ := at_T80 HR0.out x13_1 p287 q287
         cases e287
         replace p287 := eq_true p287
         replace q287 := eq_true q287
         have p288 : 0 ≤ (x13_1 : Int) := of_decide_eq_true (by first | (with_reducible assumption) | assumption)
         have q288 : x13_1 < (l1.length : Int) := of_decide_eq_true (by first | (with_reducible assumption) | assumption)
         obtain ⟨ad288, e288, hx288_0, hx288_1, hx288_2⟩ := at_T80 HR1.out x13_1 p288 q288
         cases e288
         replace p288 := eq_true p288
         replace q288 := eq_true q288
         go_wp2
         repeat (go_quiet (fail); try go_wp2)
         go_roundg k1
         case measure => have := HK1.out; omega
         case rel => exact ⟨(wrap64 (x13_1 + 1)), (by first | rfl | (simp; done) | (simp [*]; done)), H', ⟨by have := HK1.out; omega⟩, by repeat (first | exact Drawn0.refl _ | apply Drawn0.step)⟩
       ·
        rw [if_neg c7] at H
        exact absurd H (by simp)
      ·
       rw [if_neg c6] at H
       exact absurd H (by simp)
     ·
      rw [if_neg c5] at H
      exact absurd H (by simp)
    ·
     rw [if_neg c4] at H
     have c4b0 : decide (x13_1 < (l0.length : Int)) = false := decide_eq_false c4
     clear c4
     obtain rfl := Option.some.inj H
     go_wp2
     repeat (go_quiet (fail); try go_wp2)
     go_ret
     exact ⟨by first | rfl | (simp; done) | (simp [*]; done), by repeat (first | exact Drawn0.refl _ | apply Drawn0.step)⟩
 ·
  rw [if_neg c3] at H
  have c3b0 : ((l0.length : Int) == (l1.length : Int)) = false := beq_eq_false_iff_ne.mpr c3
  have c3b1 : ((l0.length : Int) != (l1.length : Int)) = true := bne_iff_ne.mpr c3
  have c3b2 : (l0.length == l1.length) = false := by first | simpa using c3 | (simp at c3 ⊢; omega)
  obtain rfl := Option.some.inj H
  go_enter Try.func88, Try.ntmps88
  go_wp2
  repeat (go_quiet (fail); try go_wp2)
  go_ret
  exact ⟨by first | rfl | (simp; done) | (simp [*]; done), by repeat (first | exact Drawn0.refl _ | apply Drawn0.step)⟩

end Go.Proofs.Ytgagmodkjmegeaa.P

namespace Go.Proofs.Ytgagmodkjmegeaa.P
open Go.RowKit Go.Proofs.YtgagmodkjmegeaaW.PrintWords Go.Proofs.YtgagmodkjmegeaaW.PrintLast Go.Proofs.YtgagmodkjmegeaaW.PrintMore
attribute [local go_sem] max2_int min2_int max_two min_two max_three min_three max_four min_four
set_option linter.unusedVariables false
set_option linter.unusedSimpArgs false

/-! ### impl_isTrie: function 48 -/
def impl_isTrie.j0 : Nat → Bool → List (S80) → Option (Bool)
 | 0, _, _ => none
 | k + 1, x16, x318000 => if x16 = true then (some false) else ((impl_Trie_words.f k x318000).bind fun t323 => (if (t323.length : Int) ≤ 40 then ((slices_IsSorted_string_string.f k t323).bind fun t326 => (if t326 = true then ((impl_trieOf.f k t323).bind fun t327 => ((impl_Node.f k t327 x318000).bind fun t330 => (some t330))) else (some false))) else (some false)))
def impl_isTrie.f (k : Nat) (l0_0 : List (S80)) : Option (Bool) := (impl_Trie_prefixes.f k l0_0).bind fun bt318 => (if bt318.2 = true then ((impl_isTrie_any.f bt318.1).bind fun t322 => (impl_isTrie.j0 k t322 l0_0)) else (impl_isTrie.j0 k true l0_0))
theorem impl_isTrie.mono_l : ∀ k, (∀ y0 y1, LeO (impl_isTrie.j0 k y0 y1) (impl_isTrie.j0 (k + 1) y0 y1))
 | 0 => fun _ _ r h => by simp [impl_isTrie.j0] at h
 | k + 1 => by
  have ih0 := impl_isTrie.mono_l k
  ·
   intro y0 y1
   unfold impl_isTrie.j0
   repeat' first
   | (with_reducible exact ih0 _ _)
   | (with_reducible exact impl_Node.mono _ _ _)
   | (with_reducible exact impl_Trie_prefixes.mono _ _)
   | (with_reducible exact impl_Trie_words.mono _ _)
   | (with_reducible exact impl_trieOf.mono _ _)
   | (with_reducible exact slices_IsSorted_string_string.mono _ _)
   | (with_reducible exact LeO.refl _)
   | (with_reducible exact LeO.none _)
   | (with_reducible refine LeO.ite ?_ ?_)
   | (with_reducible refine LeO.bind ?_ (fun _ => ?_))
   | exact ih0 _ _
   | exact impl_Node.mono _ _ _
   | exact impl_Trie_prefixes.mono _ _
   | exact impl_Trie_words.mono _ _
   | exact impl_trieOf.mono _ _
   | exact slices_IsSorted_string_string.mono _ _
   | exact LeO.none _
   | refine LeO.ite ?_ ?_
   | refine LeO.bind ?_ (fun _ => ?_)
theorem impl_isTrie.mono : ∀ a0 k, LeO (impl_isTrie.f k a0) (impl_isTrie.f (k + 1) a0) := by
 intro a0 k
 have ih0 := impl_isTrie.mono_l k
 unfold impl_isTrie.f
 repeat' first
   | (with_reducible exact ih0 _ _)
   | (with_reducible exact impl_Node.mono _ _ _)
   | (with_reducible exact impl_Trie_prefixes.mono _ _)
   | (with_reducible exact impl_Trie_words.mono _ _)
   | (with_reducible exact impl_trieOf.mono _ _)
   | (with_reducible exact slices_IsSorted_string_string.mono _ _)
   | (with_reducible exact LeO.refl _)
   | (with_reducible exact LeO.none _)
   | (with_reducible refine LeO.ite ?_ ?_)
   | (with_reducible refine LeO.bind ?_ (fun _ => ?_))
   | exact ih0 _ _
   | exact impl_Node.mono _ _ _
   | exact impl_Trie_prefixes.mono _ _
   | exact impl_Trie_words.mono _ _
   | exact impl_trieOf.mono _ _
   | exact slices_IsSorted_string_string.mono _ _
   | exact LeO.none _
   | refine LeO.ite ?_ ?_
   | refine LeO.bind ?_ (fun _ => ?_)
def impl_isTrie.T5 : Bool × List (List Nat × List Nat) := (true, [([], []), ([0], [0]), ([1], [1]), ([2], [2]), ([3], [3]), ([4, 3, 3], [3, 4]), ([3, 5], [3, 5]), ([6, 5], [6]), ([7], [7]), ([8, 7, 7], [7, 8]), ([9, 7], [7, 9]), ([7], [7]), ([11, 7], [7, 11]), ([10, 12, 9, 7], [7, 10, 12]), ([7, 13], [7, 13]), ([14, 13, 0, 1, 2, 3, 4, 5, 6, 7, 8, 9, 10, 11, 12, 13, 14], [14])])
def impl_isTrie.B5 : List Nat := [0, 1, 3, 7, 15, 31, 63, 127, 255, 511, 1023, 255, 2303, 8191, 16383, 32767]
theorem impl_isTrie.tab5 : rtab .any (opsOf Try.f48 5) = impl_isTrie.T5 := by kernel_rfl
theorem impl_isTrie.bits5 : waitsOk impl_isTrie.T5.2 impl_isTrie.B5 = true := by kernel_rfl
set_option maxHeartbeats 8000000 in
set_option maxRecDepth 100000 in
theorem impl_isTrie.calls (k : Nat) (A0_0 : Option Addr) (c0_0 : Nat) (l0_0 : List (S80)) (r : Bool) (w : World) (hr0_0 : Kd.C k80 w A0_0 l0_0.length l0_0) (hc0_0 : l0_0.length ≤ c0_0) (h : impl_isTrie.f k l0_0 = some r) :
  Calls Try.prog 48 #[.agg #[.slice A0_0 l0_0.length c0_0]] w fun e w' => e = .returned (.bool r) ∧ Below w.heap.size w w' := by
 have hu31 := Try.underlying31
 have hfd : ∀ (a_ : Option Addr) (n_ c_ : Nat) (W_ : World), (Instr.field 31 (.agg #[.slice a_ n_ c_]) 0).run Try.prog W_ = .ok (.slice a_ n_ c_) W_ := fun a_ n_ c_ W_ => by first | rfl | kernel_rfl
 have HR0_0 := Aside0.mk hr0_0
 have HC0_0 := Aside0.mk hc0_0
 clear hr0_0 hc0_0
 have HB := Aside0.mk (Below.refl w.heap.size w)
 have H : ((impl_Trie_prefixes.f k l0_0).bind fun bt318 => (if bt318.2 = true then ((impl_isTrie_any.f bt318.1).bind fun t322 => (impl_isTrie.j0 k t322 l0_0)) else (impl_isTrie.j0 k true l0_0))) = some r := h
 clear h
 replace H := Option.bind_eq_some_iff.mp H
 obtain ⟨⟨t318, t321⟩, A20, H⟩ := H
 replace H : (if t321 = true then ((impl_isTrie_any.f t318).bind fun t322 => (impl_isTrie.j0 k t322 l0_0)) else (impl_isTrie.j0 k true l0_0)) = some r := H
 have A2 := Aside0.mk A20
 clear A20
 have HC3 := Aside0.mk H
 clear H
 go_enter Try.func48, Try.ntmps48
 go_upto_region 2 with (first | ((with_reducible refine gate_dst (N := 1) rfl ?_); refine box_event ?hg (N := 1) ?hd (cs := #[.slice A0_0 l0_0.length c0_0]) (t := 31) ?hr ?_; (case hd => rfl); (case hg => rfl); (case hr => first | (go_simp; done) | (go_simp; rfl)); intro gb317 hg w4 hbox hb; have n0_ := Aside0.mk (below_step (by repeat (first | (with_reducible first | exact HB.out | apply below_alloc | apply pw_below_drewN | apply below_drew1) | exact HB.out)) hb); have n1_ := Aside0.mk (hbox); have n2_ := Aside0.mk ((by rw [hg]; exact (below_size (by repeat (first | (with_reducible first | exact HB.out | apply below_alloc | apply pw_below_drewN | apply below_drew1) | exact HB.out))) : w.heap.size ≤ gb317)); have n3_ := Aside0.mk ((by rw [hg]; exact (below_size (by repeat (first | (with_reducible first | exact HB.out | apply below_alloc | apply pw_below_drewN | apply below_drew1) | exact HB.out))) : w.heap.size ≤ gb317)); clear HB; have HB := n0_; have BK317 := n1_; have GW317 := n2_; have GE317 := n3_; clear n0_ n1_ n2_ n3_; clear hb hbox hg; have hcz5_0 : w4.cell? ⟨gb317, 0, none⟩ = some (.slice A0_0 l0_0.length c0_0) := (blk_cell BK317.out 0).trans rfl; have hfz5_0 := blk_frozen BK317.out 0) | ((with_reducible refine gate_callee (f := 56) rfl ?_); refine goesL_ (some 8) rfl rfl Try.func56 (by kernel_rfl) rfl #[.agg #[.slice A0_0 l0_0.length c0_0]] rfl (by (try simp only [List.map_toArray, List.map_cons, List.map_nil]); first | done | rfl | (simp only [List.length_drop, List.length_take]; rfl)) ?_; (with_reducible refine (impl_Trie_prefixes.calls k _ _ l0_0 t318 t321 _ ?side1 ?side2 A2.out).mono ?_); (case side1 => repeat (first | exact (Kd.C_below HR0_0.out HB.out) | (with_reducible refine Kd.C_alloc ?_ _) | (with_reducible refine Kd.C_drewN ?_ _) | (with_reducible refine Kd.C_drew ?_))); (case side2 => exact HC0_0.out); rintro e w6 ⟨v319, rfl, ho0, hb⟩; refine ⟨_, rfl, ?_⟩; have n0_ := Aside0.mk (Kd.R_lower ho0 (below_size (by repeat (first | (with_reducible first | exact HB.out | apply below_alloc | apply pw_below_drewN | apply below_drew1 | refine below_set ?_ GE317.out) | exact HB.out)))); have n1_ := Aside0.mk (blk_below (g := gb317) (o := .cells #[.slice A0_0 l0_0.length c0_0] 31 (0, 0)) (by (with_reducible repeat (first | refine blk_drewN ?_ _ | refine blk_drew ?_ | refine blk_alloc ?_ _)); exact BK317.out) hb); have n2_ := Aside0.mk (below_step (by repeat (first | (with_reducible first | exact HB.out | apply below_alloc | apply pw_below_drewN | apply below_drew1 | refine below_set ?_ GE317.out) | exact HB.out)) hb); clear BK317; clear HB; have HO320 := n0_; have BK317 := n1_; have HB := n2_; clear n0_ n1_ n2_; (try clear hb); (try clear hb2); (try clear hk); (try clear hi); (try clear ho0)))
 (try simp only [Act.put, List.setIfInBounds_toArray, List.set_cons_zero, List.set_cons_succ])
 go_cut [16] (fun v16 wc => ∃ (kq : Nat) (x16_2 : Bool), v16 = .bool x16_2 ∧ Aside0 (impl_isTrie.j0 kq x16_2 l0_0 = some r) ∧ Aside0 (kq ≤ k) ∧ Aside0 (wc.heap[gb317]? = some (.cells #[(.slice A0_0 l0_0.length c0_0)] 31 (0, 0))) ∧ Aside0 (Below w.heap.size w wc))
 case first =>
  have H := HC3.out
  clear HC3
  by_cases c7 : t321 = true
  ·
   subst c7
   have H1 : ((impl_isTrie_any.f t318).bind fun t322 => (impl_isTrie.j0 k t322 l0_0)) = some r := by rw [if_pos rfl] at H; exact H
   clear H
   have H := H1
   clear H1
   replace H := Option.bind_eq_some_iff.mp H
   obtain ⟨t322, A80, H⟩ := H
   replace H : (impl_isTrie.j0 k t322 l0_0) = some r := H
   have A8 := Aside0.mk A80
   clear A80
   have H' := Aside0.mk H
   clear H
   obtain ⟨Ao9, co9, eo9⟩ := Kd.R_slice HO320.out
   subst eo9
   go_wp2_with (first | (go_at_call 85; (with_reducible refine (impl_isTrie_any.calls _ _ t318 t322 _ ?side1 ?side2 A8.out).mono ?_); (case side1 => repeat (first | exact (Kd.R_reads' HO320.out).2.2 | (with_reducible refine Kd.C_alloc ?_ _) | (with_reducible refine Kd.C_drewN ?_ _) | (with_reducible refine Kd.C_drew ?_))); (case side2 => exact (Kd.R_reads' HO320.out).2.1); rintro e w10 ⟨rfl, hb⟩; have n0_ := Aside0.mk (Kd.R_below (by (with_reducible repeat (first | apply Kd.R_alloc | apply Kd.R_drewN | apply Kd.R_drew)); exact HO320.out) hb); have n1_ := Aside0.mk (blk_below (g := gb317) (o := .cells #[.slice A0_0 l0_0.length c0_0] 31 (0, 0)) (by (with_reducible repeat (first | refine blk_drewN ?_ _ | refine blk_drew ?_ | refine blk_alloc ?_ _)); exact BK317.out) hb); have n2_ := Aside0.mk (below_step (by repeat (first | (with_reducible first | exact HB.out | apply below_alloc | apply pw_below_drewN | apply below_drew1 | refine below_set ?_ GE317.out) | exact HB.out)) hb); clear HO320; clear BK317; clear HB; have HO320 := n0_; have BK317 := n1_; have HB := n2_; clear n0_ n1_ n2_; (try clear hb); (try clear hb2); (try clear hk); (try clear hi)))
   go_meet
   case rel => exact ⟨_, (t322), (by first | rfl | (simp; done) | (simp [*]; done)), H', ⟨by first | omega | exact Nat.le_refl _⟩, ⟨by (with_reducible repeat (first | refine blk_drewN ?_ _ | refine blk_drew ?_ | refine blk_alloc ?_ _)); exact BK317.out⟩, ⟨by repeat (first | (with_reducible first | exact HB.out | apply below_alloc | apply pw_below_drewN | apply below_drew1 | refine below_set ?_ GE317.out) | exact HB.out)⟩⟩
  ·
   replace c7 := Bool.eq_false_iff.mpr c7
   subst c7
   have H1 : (impl_isTrie.j0 k true l0_0) = some r := by rw [if_neg (show ¬ (false = true) by decide)] at H; exact H
   clear H
   have H := H1
   clear H1
   have H' := Aside0.mk H
   clear H
   go_wp2
   go_meet
   case rel => exact ⟨_, (true), (by first | rfl | (simp; done) | (simp [*]; done)), H', ⟨by first | omega | exact Nat.le_refl _⟩, ⟨by (with_reducible repeat (first | refine blk_drewN ?_ _ | refine blk_drew ?_ | refine blk_alloc ?_ _)); exact BK317.out⟩, ⟨by repeat (first | (with_reducible first | exact HB.out | apply below_alloc | apply pw_below_drewN | apply below_drew1 | refine below_set ?_ GE317.out) | exact HB.out)⟩⟩
 case rest =>
  clear HC3
  try clear p2
  try clear c4
  try clear c5
  try clear c7
  try clear hcz5_0
  try clear hfz5_0
  obtain ⟨kq, x16_2, rfl, HA, HJ2, BK317, HB⟩ := hcut
  cases kq with
  | zero => exact absurd HA.out (by simp [impl_isTrie.j0])
  | succ kj2 =>
   have H := HA.out
   clear HA
   simp only [impl_isTrie.j0] at H
   by_cases c11 : x16_2 = true
   ·
    subst c11
    have H1 : (some false) = some r := by rw [if_pos rfl] at H; exact H
    clear H
    have H := H1
    clear H1
    obtain rfl := Option.some.inj H
    go_wp2
    go_ret
    exact ⟨by first | rfl | (simp [errW_none, errW_some] <;> rfl) | (simp [*, errW_none, errW_some] <;> rfl), by repeat (first | (with_reducible first | exact HB.out | apply below_alloc | apply pw_below_drewN | apply below_drew1 | refine below_set ?_ GE317.out) | exact HB.out)⟩
   ·
    replace c11 := Bool.eq_false_iff.mpr c11
    subst c11
    have H1 : ((impl_Trie_words.f kj2 l0_0).bind fun t323 => (if (t323.length : Int) ≤ 40 then ((slices_IsSorted_string_string.f kj2 t323).bind fun t326 => (if t326 = true then ((impl_trieOf.f kj2 t323).bind fun t327 => ((impl_Node.f kj2 t327 l0_0).bind fun t330 => (some t330))) else (some false))) else (some false))) = some r := by rw [if_neg (show ¬ (false = true) by decide)] at H; exact H
    clear H
    have H := H1
    clear H1
    replace H := Option.bind_eq_some_iff.mp H
    obtain ⟨t323, A120, H⟩ := H
    replace H : (if (t323.length : Int) ≤ 40 then ((slices_IsSorted_string_string.f kj2 t323).bind fun t326 => (if t326 = true then ((impl_trieOf.f kj2 t323).bind fun t327 => ((impl_Node.f kj2 t327 l0_0).bind fun t330 => (some t330))) else (some false))) else (some false)) = some r := H
    have A12 := Aside0.mk A120
    clear A120
    by_cases c13 : (t323.length : Int) ≤ 40
    ·
     rw [if_pos c13] at H
     have c13b0 : decide ((t323.length : Int) ≤ 40) = true := decide_eq_true c13
     have c13b1 : decide (t323.length ≤ 40) = true := decide_eq_true (by omega)
     clear c13
     replace H := Option.bind_eq_some_iff.mp H
     obtain ⟨t326, A140, H⟩ := H
     replace H : (if t326 = true then ((impl_trieOf.f kj2 t323).bind fun t327 => ((impl_Node.f kj2 t327 l0_0).bind fun t330 => (some t330))) else (some false)) = some r := H
     have A14 := Aside0.mk A140
     clear A140
     by_cases c15 : t326 = true
     ·
      subst c15
      have H1 : ((impl_trieOf.f kj2 t323).bind fun t327 => ((impl_Node.f kj2 t327 l0_0).bind fun t330 => (some t330))) = some r := by rw [if_pos rfl] at H; exact H
      clear H
      have H := H1
      clear H1
      replace H := Option.bind_eq_some_iff.mp H
      obtain ⟨t327, A160, H⟩ := H
      replace H : ((impl_Node.f kj2 t327 l0_0).bind fun t330 => (some t330)) = some r := H
      have A16 := Aside0.mk A160
      clear A160
      replace H := Option.bind_eq_some_iff.mp H
      obtain ⟨t330, A170, H⟩ := H
      replace H : (some t330) = some r := H
      have A17 := Aside0.mk A170
      clear A170
      obtain rfl := Option.some.inj H
      have hcz18_0 : wc.cell? ⟨gb317, 0, none⟩ = some (.slice A0_0 l0_0.length c0_0) := (blk_cell BK317.out 0).trans rfl
      have hfz18_0 := blk_frozen BK317.out 0
      try go_wp2_with (first | ((with_reducible refine gate_callee (f := 49) rfl ?_); refine goesL_ (some 18) rfl rfl Try.func49 (by kernel_rfl) rfl #[.agg #[.slice A0_0 l0_0.length c0_0]] rfl (by (try simp only [List.map_toArray, List.map_cons, List.map_nil]); first | done | rfl | (simp only [List.length_drop, List.length_take]; rfl)) ?_; (with_reducible refine (impl_Trie_words.calls kj2 _ _ l0_0 t323 _ ?side1 ?side2 A12.out).mono ?_); (case side1 => repeat (first | exact (Kd.C_below HR0_0.out HB.out) | (with_reducible refine Kd.C_alloc ?_ _) | (with_reducible refine Kd.C_drewN ?_ _) | (with_reducible refine Kd.C_drew ?_))); (case side2 => exact HC0_0.out); rintro e w19 ⟨v324, rfl, ho0, hb⟩; refine ⟨_, rfl, ?_⟩; have n0_ := Aside0.mk (Kd.R_lower ho0 (below_size (by repeat (first | (with_reducible first | exact HB.out | apply below_alloc | apply pw_below_drewN | apply below_drew1 | refine below_set ?_ GE317.out) | exact HB.out)))); have n1_ := Aside0.mk (blk_below (g := gb317) (o := .cells #[.slice A0_0 l0_0.length c0_0] 31 (0, 0)) (by (with_reducible repeat (first | refine blk_drewN ?_ _ | refine blk_drew ?_ | refine blk_alloc ?_ _)); exact BK317.out) hb); have n2_ := Aside0.mk (below_step (by repeat (first | (with_reducible first | exact HB.out | apply below_alloc | apply pw_below_drewN | apply below_drew1 | refine below_set ?_ GE317.out) | exact HB.out)) hb); clear BK317; clear HB; have HO325 := n0_; have BK317 := n1_; have HB := n2_; clear n0_ n1_ n2_; (try clear hb); (try clear hb2); (try clear hk); (try clear hi); (try clear ho0)))
      have n0_ := Aside0.mk (Kd.R_drew HO325.out)
      have n1_ := Aside0.mk (blk_drew BK317.out)
      have n2_ := Aside0.mk (below_drew1 HB.out)
      clear HO325
      clear BK317
      clear HB
      have HO325 := n0_
      have BK317 := n1_
      have HB := n2_
      clear n0_ n1_ n2_
      obtain ⟨Ao21, co21, eo21⟩ := Kd.R_slice HO325.out
      (first | subst eo21 | (injection eo21 with f1_ f2_ f3_; have f4_ := f1_.symm; have f5_ := f3_.symm; clear f1_ f2_ f3_; subst f4_; subst f5_))
      refine start_ (n := 16) (S := fun w' => w'.cell? ⟨gb317, 0, none⟩ = some (.slice A0_0 l0_0.length c0_0)) (ds := []) #[false, false, false, false, false, false, false, false, false, false, false, false, false, false, false, false] (by kernel_rfl) rfl rfl ((blk_cell BK317.out 0).trans rfl) (fun hHeld => ?_); refine with_tabW impl_isTrie.tab5 impl_isTrie.bits5 (fun HT_ HW_ => ?_)
      generalize w19.drew = w20 at HO325 BK317 HB hHeld ⊢
      refine pure_ (i := 0) (N := some 19) (v := ?_) (a' := ?_) #[true, false, false, false, false, false, false, false, false, false, false, false, false, false, false, false] rfl rfl (any_of HT_.out (by kernel_rfl)) (fun _ _ _ h => h) (Or.inl ⟨by rfl, ?_⟩) ?_ ?_
      rotate_left
      ·
       intro w'
       go_simp
       with_reducible rfl
      rotate_left
      ·
       simp only [Act.put, List.setIfInBounds_toArray, List.set_cons_zero, List.set_cons_succ, i64_w, i32_w]
       rfl
      refine pure_ (i := 1) (N := some 20) (v := ?_) (a' := ?_) #[true, true, false, false, false, false, false, false, false, false, false, false, false, false, false, false] rfl rfl (any_of HT_.out (by kernel_rfl)) (fun _ _ _ h => h) (Or.inl ⟨by rfl, ?_⟩) ?_ ?_
      rotate_left
      ·
       intro w'
       go_simp
       with_reducible rfl
      rotate_left
      ·
       simp only [Act.put, List.setIfInBounds_toArray, List.set_cons_zero, List.set_cons_succ, i64_w, i32_w]
       rfl
      refine pure_ (i := 2) (N := some 21) (v := ?_) (a' := ?_) #[true, true, true, false, false, false, false, false, false, false, false, false, false, false, false, false] rfl rfl (any_of HT_.out (by kernel_rfl)) (fun _ _ _ h => h) (Or.inl ⟨by rfl, ?_⟩) ?_ ?_
      rotate_left
      ·
       intro w'
       go_simp
       with_reducible rfl
      rotate_left
      ·
       simp only [Act.put, List.setIfInBounds_toArray, List.set_cons_zero, List.set_cons_succ, i64_w, i32_w]
       rfl
      refine pure_ (i := 3) (N := some 22) (v := ?_) (a' := ?_) #[true, true, true, true, false, false, false, false, false, false, false, false, false, false, false, false] rfl rfl (any_of HT_.out (by kernel_rfl)) (fun _ _ _ h => h) (Or.inl ⟨by rfl, ?_⟩) ?_ ?_
      rotate_left
      ·
       intro w'
       go_simp
       with_reducible rfl
      rotate_left
      ·
       simp only [Act.put, List.setIfInBounds_toArray, List.set_cons_zero, List.set_cons_succ, i64_w, i32_w]
       rfl
      refine pure_ (i := 4) (N := some 23) (v := ?_) (a' := ?_) #[true, true, true, true, true, false, false, false, false, false, false, false, false, false, false, false] rfl rfl (any_of HT_.out (by kernel_rfl)) (fun _ _ _ h => h) (Or.inl ⟨by rfl, ?_⟩) ?_ ?_
      rotate_left
      ·
       intro w'
       go_simp
       with_reducible rfl
      rotate_left
      ·
       simp only [Act.put, List.setIfInBounds_toArray, List.set_cons_zero, List.set_cons_succ, i64_w, i32_w]
       rfl
      refine one_ (i := 5) (N := some 24) #[true, true, true, true, true, true, false, false, false, false, false, false, false, false, false, false] rfl rfl (one_of HT_.out (by kernel_rfl)) (by decide) (fun K hK => ?_)
      refine goes_ Try.func87 (by kernel_rfl) rfl #[.slice Ao21 t323.length co21] (by rfl) rfl rfl (by (try simp only [List.map_toArray, List.map_cons, List.map_nil]); first | done | rfl | (simp only [List.length_drop, List.length_take]; rfl)) ?_
      with_reducible refine (slices_IsSorted_string_string.calls kj2 _ _ t323 true _ ?side1 ?side2 A14.out).mono ?_
      (case side1 => repeat (first | exact (Kd.R_reads' HO325.out).2.2 | (with_reducible refine Kd.C_alloc ?_ _) | (with_reducible refine Kd.C_drewN ?_ _) | (with_reducible refine Kd.C_drew ?_)))
      (case side2 => exact (Kd.R_reads' HO325.out).2.1)
      rintro e w' ⟨rfl, ⟨nd, rfl⟩⟩
      refine ⟨_, rfl, ?_⟩
      refine hK.out _ _ ((blk_cell BK317.out 0).trans rfl) (fun hHeld => ?_)
      clear hK K
      refine norm_ (a' := ?_) ?_ ?_
      rotate_left
      ·
       show Act.put _ (some 24) _ = _
       simp only [Act.put, List.setIfInBounds_toArray, List.set_cons_zero, List.set_cons_succ, i64_w, i32_w]
       rfl
      refine pure_ (i := 6) (N := some 25) (v := ?_) (a' := ?_) #[true, true, true, true, true, true, true, false, false, false, false, false, false, false, false, false] rfl rfl (any_of HT_.out (by kernel_rfl)) (fun _ _ _ h => h) (Or.inl ⟨by rfl, ?_⟩) ?_ ?_
      rotate_left
      ·
       intro w'
       go_simp
       with_reducible rfl
      rotate_left
      ·
       simp only [Act.put, List.setIfInBounds_toArray, List.set_cons_zero, List.set_cons_succ, i64_w, i32_w]
       rfl
      refine pure_ (i := 7) (N := some 26) (v := ?_) (a' := ?_) #[true, true, true, true, true, true, true, true, false, false, false, false, false, false, false, false] rfl rfl (any_of HT_.out (by kernel_rfl)) (fun _ _ _ h => h) (Or.inl ⟨by rfl, ?_⟩) ?_ ?_
      rotate_left
      ·
       intro w'
       go_simp
       with_reducible rfl
      rotate_left
      ·
       simp only [Act.put, List.setIfInBounds_toArray, List.set_cons_zero, List.set_cons_succ, i64_w, i32_w]
       rfl
      refine pure_ (i := 8) (N := some 27) (v := ?_) (a' := ?_) #[true, true, true, true, true, true, true, true, true, false, false, false, false, false, false, false] rfl rfl (any_of HT_.out (by kernel_rfl)) (fun _ _ _ h => h) (Or.inl ⟨by rfl, ?_⟩) ?_ ?_
      rotate_left
      ·
       intro w'
       go_simp
       with_reducible rfl
      rotate_left
      ·
       simp only [Act.put, List.setIfInBounds_toArray, List.set_cons_zero, List.set_cons_succ, i64_w, i32_w]
       rfl
      refine pure_ (i := 11) (N := some 30) (v := ?_) (a' := ?_) #[true, true, true, true, true, true, true, true, true, false, false, true, false, false, false, false] rfl rfl (any_of HT_.out (by kernel_rfl)) (fun _ _ _ h => h) (Or.inl ⟨by rfl, ?_⟩) ?_ ?_
      rotate_left
      ·
       intro w'
       go_simp
       with_reducible rfl
      rotate_left
      ·
       simp only [Act.put, List.setIfInBounds_toArray, List.set_cons_zero, List.set_cons_succ, i64_w, i32_w]
       rfl
      refine take_ (i := 12) (N := some 31) (v := ?_) (a' := ?_) #[true, true, true, true, true, true, true, true, true, false, false, true, true, false, false, false] rfl rfl (take_ofW HT_.out HW_.out (by kernel_rfl)) (fun _ _ _ h => h) (Or.inl ⟨by rfl, ?_⟩) hHeld ?_ ?_
      rotate_left
      ·
       intro w' s0
       go_simp
       with_reducible rfl
      rotate_left
      ·
       simp only [Act.put, List.setIfInBounds_toArray, List.set_cons_zero, List.set_cons_succ, i64_w, i32_w]
       rfl
      refine one_ (i := 9) (N := some 28) #[true, true, true, true, true, true, true, true, true, true, false, true, true, false, false, false] rfl rfl (one_of HT_.out (by kernel_rfl)) (by decide) (fun K hK => ?_)
      refine goes_ Try.func89 (by kernel_rfl) rfl #[.slice Ao21 t323.length co21] (by rfl) rfl rfl (by (try simp only [List.map_toArray, List.map_cons, List.map_nil]); first | done | rfl | (simp only [List.length_drop, List.length_take]; rfl)) ?_
      with_reducible refine (impl_trieOf.calls kj2 _ _ t323 t327 _ ?side1 ?side2 A16.out).mono ?_
      (case side1 => repeat (first | exact (Kd.R_reads' HO325.out).2.2 | (with_reducible refine Kd.C_alloc ?_ _) | (with_reducible refine Kd.C_drewN ?_ _) | (with_reducible refine Kd.C_drew ?_)))
      (case side2 => exact (Kd.R_reads' HO325.out).2.1)
      rintro e w22 ⟨v328, rfl, ho0, hb⟩
      refine ⟨_, rfl, ?_⟩
      have n0_ := Aside0.mk (Kd.R_below (by (with_reducible repeat (first | apply Kd.R_alloc | apply Kd.R_drewN | apply Kd.R_drew)); exact HO325.out) hb)
      have n1_ := Aside0.mk (Kd.R_lower ho0 (below_size (by repeat (first | (with_reducible first | exact HB.out | apply below_alloc | apply pw_below_drewN | apply below_drew1 | refine below_set ?_ GE317.out) | exact HB.out))))
      have n2_ := Aside0.mk (blk_below (g := gb317) (o := .cells #[.slice A0_0 l0_0.length c0_0] 31 (0, 0)) (by (with_reducible repeat (first | refine blk_drewN ?_ _ | refine blk_drew ?_ | refine blk_alloc ?_ _)); exact BK317.out) hb)
      have n3_ := Aside0.mk (below_step (by repeat (first | (with_reducible first | exact HB.out | apply below_alloc | apply pw_below_drewN | apply below_drew1 | refine below_set ?_ GE317.out) | exact HB.out)) hb)
      clear HO325
      clear BK317
      clear HB
      have HO325 := n0_
      have HO329 := n1_
      have BK317 := n2_
      have HB := n3_
      clear n0_ n1_ n2_ n3_
      (try clear hb)
      (try clear hb2)
      (try clear hk)
      (try clear hi)
      (try clear ho0)
      obtain ⟨Ao23, co23, eo23⟩ := Kd.R_slice HO329.out
      (first | subst eo23 | (injection eo23 with f1_ f2_ f3_; have f4_ := f1_.symm; have f5_ := f3_.symm; clear f1_ f2_ f3_; subst f4_; subst f5_))
      refine hK.out _ _ ((blk_cell BK317.out 0).trans rfl) (fun hHeld => ?_)
      clear hK K
      refine norm_ (a' := ?_) ?_ ?_
      rotate_left
      ·
       show Act.put _ (some 28) _ = _
       simp only [Act.put, List.setIfInBounds_toArray, List.set_cons_zero, List.set_cons_succ, i64_w, i32_w]
       rfl
      refine pure_ (i := 10) (N := some 29) (v := ?_) (a' := ?_) #[true, true, true, true, true, true, true, true, true, true, true, true, true, false, false, false] rfl rfl (any_of HT_.out (by kernel_rfl)) (fun _ _ _ h => h) (Or.inl ⟨by rfl, ?_⟩) ?_ ?_
      rotate_left
      ·
       intro w'
       go_simp
       with_reducible rfl
      rotate_left
      ·
       simp only [Act.put, List.setIfInBounds_toArray, List.set_cons_zero, List.set_cons_succ, i64_w, i32_w]
       rfl
      refine one_ (i := 13) (N := some 32) #[true, true, true, true, true, true, true, true, true, true, true, true, true, true, false, false] rfl rfl (one_of HT_.out (by kernel_rfl)) (by decide) (fun K hK => ?_)
      refine goes_ Try.func88 (by kernel_rfl) rfl #[.slice Ao23 t327.length co23, .slice A0_0 l0_0.length c0_0] (by rfl) rfl rfl (by (try simp only [List.map_toArray, List.map_cons, List.map_nil]); first | done | rfl | (simp only [List.length_drop, List.length_take]; rfl)) ?_
      with_reducible refine (impl_Node.calls kj2 _ _ t327 _ _ l0_0 t330 _ ?side1 ?side2 ?side3 ?side4 A17.out).mono ?_
      (case side1 => repeat (first | exact (Kd.R_reads' HO329.out).2.2 | (with_reducible refine Kd.C_alloc ?_ _) | (with_reducible refine Kd.C_drewN ?_ _) | (with_reducible refine Kd.C_drew ?_)))
      (case side2 => exact (Kd.R_reads' HO329.out).2.1)
      (case side3 => repeat (first | exact (Kd.C_below HR0_0.out HB.out) | (with_reducible refine Kd.C_alloc ?_ _) | (with_reducible refine Kd.C_drewN ?_ _) | (with_reducible refine Kd.C_drew ?_)))
      (case side4 => exact HC0_0.out)
      rintro e w' ⟨rfl, ⟨nd, rfl⟩⟩
      refine ⟨_, rfl, ?_⟩
      refine hK.out _ _ ((blk_cell BK317.out 0).trans rfl) (fun hHeld => ?_)
      clear hK K
      refine norm_ (a' := ?_) ?_ ?_
      rotate_left
      ·
       show Act.put _ (some 32) _ = _
       simp only [Act.put, List.setIfInBounds_toArray, List.set_cons_zero, List.set_cons_succ, i64_w, i32_w]
       rfl
      refine pure_ (i := 14) (N := some 33) (v := ?_) (a' := ?_) #[true, true, true, true, true, true, true, true, true, true, true, true, true, true, true, false] rfl rfl (any_of HT_.out (by kernel_rfl)) (fun _ _ _ h => h) (Or.inl ⟨by rfl, ?_⟩) ?_ ?_
      rotate_left
      ·
       intro w'
       go_simp
       with_reducible rfl
      rotate_left
      ·
       simp only [Act.put, List.setIfInBounds_toArray, List.set_cons_zero, List.set_cons_succ, i64_w, i32_w]
       rfl
      refine pure_ (i := 15) (N := some 2) (v := ?_) (a' := ?_) #[true, true, true, true, true, true, true, true, true, true, true, true, true, true, true, true] rfl rfl (any_of HT_.out (by kernel_rfl)) (fun _ _ _ h => h) (Or.inl ⟨by rfl, ?_⟩) ?_ ?_
      rotate_left
      ·
       intro w'
       go_simp
       with_reducible rfl
      rotate_left
      ·
       simp only [Act.put, List.setIfInBounds_toArray, List.set_cons_zero, List.set_cons_succ, i64_w, i32_w]
       rfl
      refine done_ (done_of HT_.out (by kernel_rfl)) ?_
      try go_wp2
      go_ret
      exact ⟨by first | rfl | (simp [errW_none, errW_some] <;> rfl) | (simp [*, errW_none, errW_some] <;> rfl), by repeat (first | (with_reducible first | exact HB.out | apply below_alloc | apply pw_below_drewN | apply below_drew1 | refine below_set ?_ GE317.out) | exact HB.out)⟩
     ·
      replace c15 := Bool.eq_false_iff.mpr c15
      subst c15
      have H1 : (some false) = some r := by rw [if_neg (show ¬ (false = true) by decide)] at H; exact H
      clear H
      have H := H1
      clear H1
      obtain rfl := Option.some.inj H
      have hcz24_0 : wc.cell? ⟨gb317, 0, none⟩ = some (.slice A0_0 l0_0.length c0_0) := (blk_cell BK317.out 0).trans rfl
      have hfz24_0 := blk_frozen BK317.out 0
      try go_wp2_with (first | ((with_reducible refine gate_callee (f := 49) rfl ?_); refine goesL_ (some 18) rfl rfl Try.func49 (by kernel_rfl) rfl #[.agg #[.slice A0_0 l0_0.length c0_0]] rfl (by (try simp only [List.map_toArray, List.map_cons, List.map_nil]); first | done | rfl | (simp only [List.length_drop, List.length_take]; rfl)) ?_; (with_reducible refine (impl_Trie_words.calls kj2 _ _ l0_0 t323 _ ?side1 ?side2 A12.out).mono ?_); (case side1 => repeat (first | exact (Kd.C_below HR0_0.out HB.out) | (with_reducible refine Kd.C_alloc ?_ _) | (with_reducible refine Kd.C_drewN ?_ _) | (with_reducible refine Kd.C_drew ?_))); (case side2 => exact HC0_0.out); rintro e w25 ⟨v324, rfl, ho0, hb⟩; refine ⟨_, rfl, ?_⟩; have n0_ := Aside0.mk (Kd.R_lower ho0 (below_size (by repeat (first | (with_reducible first | exact HB.out | apply below_alloc | apply pw_below_drewN | apply below_drew1 | refine below_set ?_ GE317.out) | exact HB.out)))); have n1_ := Aside0.mk (blk_below (g := gb317) (o := .cells #[.slice A0_0 l0_0.length c0_0] 31 (0, 0)) (by (with_reducible repeat (first | refine blk_drewN ?_ _ | refine blk_drew ?_ | refine blk_alloc ?_ _)); exact BK317.out) hb); have n2_ := Aside0.mk (below_step (by repeat (first | (with_reducible first | exact HB.out | apply below_alloc | apply pw_below_drewN | apply below_drew1 | refine below_set ?_ GE317.out) | exact HB.out)) hb); clear BK317; clear HB; have HO325 := n0_; have BK317 := n1_; have HB := n2_; clear n0_ n1_ n2_; (try clear hb); (try clear hb2); (try clear hk); (try clear hi); (try clear ho0)))
      have n0_ := Aside0.mk (Kd.R_drew HO325.out)
      have n1_ := Aside0.mk (blk_drew BK317.out)
      have n2_ := Aside0.mk (below_drew1 HB.out)
      clear HO325
      clear BK317
      clear HB
      have HO325 := n0_
      have BK317 := n1_
      have HB := n2_
      clear n0_ n1_ n2_
      obtain ⟨Ao27, co27, eo27⟩ := Kd.R_slice HO325.out
      (first | subst eo27 | (injection eo27 with f1_ f2_ f3_; have f4_ := f1_.symm; have f5_ := f3_.symm; clear f1_ f2_ f3_; subst f4_; subst f5_))
      refine start_ (n := 16) (S := fun w' => True) (ds := []) #[false, false, false, false, false, false, false, false, false, false, false, false, false, false, false, false] (by kernel_rfl) rfl rfl trivial (fun hHeld => ?_); refine with_tabW impl_isTrie.tab5 impl_isTrie.bits5 (fun HT_ HW_ => ?_)
      generalize w25.drew = w26 at HO325 BK317 HB hHeld ⊢
      refine pure_ (i := 0) (N := some 19) (v := ?_) (a' := ?_) #[true, false, false, false, false, false, false, false, false, false, false, false, false, false, false, false] rfl rfl (any_of HT_.out (by kernel_rfl)) (fun _ _ _ h => h) (Or.inl ⟨by rfl, ?_⟩) ?_ ?_
      rotate_left
      ·
       intro w'
       go_simp
       with_reducible rfl
      rotate_left
      ·
       simp only [Act.put, List.setIfInBounds_toArray, List.set_cons_zero, List.set_cons_succ, i64_w, i32_w]
       rfl
      refine pure_ (i := 1) (N := some 20) (v := ?_) (a' := ?_) #[true, true, false, false, false, false, false, false, false, false, false, false, false, false, false, false] rfl rfl (any_of HT_.out (by kernel_rfl)) (fun _ _ _ h => h) (Or.inl ⟨by rfl, ?_⟩) ?_ ?_
      rotate_left
      ·
       intro w'
       go_simp
       with_reducible rfl
      rotate_left
      ·
       simp only [Act.put, List.setIfInBounds_toArray, List.set_cons_zero, List.set_cons_succ, i64_w, i32_w]
       rfl
      refine pure_ (i := 2) (N := some 21) (v := ?_) (a' := ?_) #[true, true, true, false, false, false, false, false, false, false, false, false, false, false, false, false] rfl rfl (any_of HT_.out (by kernel_rfl)) (fun _ _ _ h => h) (Or.inl ⟨by rfl, ?_⟩) ?_ ?_
      rotate_left
      ·
       intro w'
       go_simp
       with_reducible rfl
      rotate_left
      ·
       simp only [Act.put, List.setIfInBounds_toArray, List.set_cons_zero, List.set_cons_succ, i64_w, i32_w]
       rfl
      refine pure_ (i := 3) (N := some 22) (v := ?_) (a' := ?_) #[true, true, true, true, false, false, false, false, false, false, false, false, false, false, false, false] rfl rfl (any_of HT_.out (by kernel_rfl)) (fun _ _ _ h => h) (Or.inl ⟨by rfl, ?_⟩) ?_ ?_
      rotate_left
      ·
       intro w'
       go_simp
       with_reducible rfl
      rotate_left
      ·
       simp only [Act.put, List.setIfInBounds_toArray, List.set_cons_zero, List.set_cons_succ, i64_w, i32_w]
       rfl
      refine pure_ (i := 4) (N := some 23) (v := ?_) (a' := ?_) #[true, true, true, true, true, false, false, false, false, false, false, false, false, false, false, false] rfl rfl (any_of HT_.out (by kernel_rfl)) (fun _ _ _ h => h) (Or.inl ⟨by rfl, ?_⟩) ?_ ?_
      rotate_left
      ·
       intro w'
       go_simp
       with_reducible rfl
      rotate_left
      ·
       simp only [Act.put, List.setIfInBounds_toArray, List.set_cons_zero, List.set_cons_succ, i64_w, i32_w]
       rfl
      refine one_ (i := 5) (N := some 24) #[true, true, true, true, true, true, false, false, false, false, false, false, false, false, false, false] rfl rfl (one_of HT_.out (by kernel_rfl)) (by decide) (fun K hK => ?_)
      refine goes_ Try.func87 (by kernel_rfl) rfl #[.slice Ao27 t323.length co27] (by rfl) rfl rfl (by (try simp only [List.map_toArray, List.map_cons, List.map_nil]); first | done | rfl | (simp only [List.length_drop, List.length_take]; rfl)) ?_
      with_reducible refine (slices_IsSorted_string_string.calls kj2 _ _ t323 false _ ?side1 ?side2 A14.out).mono ?_
      (case side1 => repeat (first | exact (Kd.R_reads' HO325.out).2.2 | (with_reducible refine Kd.C_alloc ?_ _) | (with_reducible refine Kd.C_drewN ?_ _) | (with_reducible refine Kd.C_drew ?_)))
      (case side2 => exact (Kd.R_reads' HO325.out).2.1)
      rintro e w' ⟨rfl, ⟨nd, rfl⟩⟩
      refine ⟨_, rfl, ?_⟩
      refine hK.out _ _ trivial (fun hHeld => ?_)
      clear hK K
      refine norm_ (a' := ?_) ?_ ?_
      rotate_left
      ·
       show Act.put _ (some 24) _ = _
       simp only [Act.put, List.setIfInBounds_toArray, List.set_cons_zero, List.set_cons_succ, i64_w, i32_w]
       rfl
      refine pure_ (i := 6) (N := some 25) (v := ?_) (a' := ?_) #[true, true, true, true, true, true, true, false, false, false, false, false, false, false, false, false] rfl rfl (any_of HT_.out (by kernel_rfl)) (fun _ _ _ h => h) (Or.inl ⟨by rfl, ?_⟩) ?_ ?_
      rotate_left
      ·
       intro w'
       go_simp
       with_reducible rfl
      rotate_left
      ·
       simp only [Act.put, List.setIfInBounds_toArray, List.set_cons_zero, List.set_cons_succ, i64_w, i32_w]
       rfl
      refine pure_ (i := 7) (N := some 26) (v := ?_) (a' := ?_) #[true, true, true, true, true, true, true, true, false, false, false, false, false, false, false, false] rfl rfl (any_of HT_.out (by kernel_rfl)) (fun _ _ _ h => h) (Or.inl ⟨by rfl, ?_⟩) ?_ ?_
      rotate_left
      ·
       intro w'
       go_simp
       with_reducible rfl
      rotate_left
      ·
       simp only [Act.put, List.setIfInBounds_toArray, List.set_cons_zero, List.set_cons_succ, i64_w, i32_w]
       rfl
      refine pure_ (i := 8) (N := some 27) (v := undef) (a' := ?_) #[true, true, true, true, true, true, true, true, true, false, false, false, false, false, false, false] rfl rfl (any_of HT_.out (by kernel_rfl)) (fun _ _ _ h => h) (Or.inr ⟨by rfl, rfl⟩) ?_ ?_
      rotate_left
      ·
       simp only [Act.put, List.setIfInBounds_toArray, List.set_cons_zero, List.set_cons_succ, i64_w, i32_w]
       rfl
      refine pure_ (i := 9) (N := some 28) (v := undef) (a' := ?_) #[true, true, true, true, true, true, true, true, true, true, false, false, false, false, false, false] rfl rfl (any_of HT_.out (by kernel_rfl)) (fun _ _ _ h => h) (Or.inr ⟨by rfl, rfl⟩) ?_ ?_
      rotate_left
      ·
       simp only [Act.put, List.setIfInBounds_toArray, List.set_cons_zero, List.set_cons_succ, i64_w, i32_w]
       rfl
      refine pure_ (i := 10) (N := some 29) (v := undef) (a' := ?_) #[true, true, true, true, true, true, true, true, true, true, true, false, false, false, false, false] rfl rfl (any_of HT_.out (by kernel_rfl)) (fun _ _ _ h => h) (Or.inr ⟨by rfl, rfl⟩) ?_ ?_
      rotate_left
      ·
       simp only [Act.put, List.setIfInBounds_toArray, List.set_cons_zero, List.set_cons_succ, i64_w, i32_w]
       rfl
      refine pure_ (i := 11) (N := some 30) (v := undef) (a' := ?_) #[true, true, true, true, true, true, true, true, true, true, true, true, false, false, false, false] rfl rfl (any_of HT_.out (by kernel_rfl)) (fun _ _ _ h => h) (Or.inr ⟨by rfl, rfl⟩) ?_ ?_
      rotate_left
      ·
       simp only [Act.put, List.setIfInBounds_toArray, List.set_cons_zero, List.set_cons_succ, i64_w, i32_w]
       rfl
      refine pure_ (i := 12) (N := some 31) (v := undef) (a' := ?_) #[true, true, true, true, true, true, true, true, true, true, true, true, true, false, false, false] rfl rfl (any_of HT_.out (by kernel_rfl)) (fun _ _ _ h => h) (Or.inr ⟨by rfl, rfl⟩) ?_ ?_
      rotate_left
      ·
       simp only [Act.put, List.setIfInBounds_toArray, List.set_cons_zero, List.set_cons_succ, i64_w, i32_w]
       rfl
      refine pure_ (i := 13) (N := some 32) (v := undef) (a' := ?_) #[true, true, true, true, true, true, true, true, true, true, true, true, true, true, false, false] rfl rfl (any_of HT_.out (by kernel_rfl)) (fun _ _ _ h => h) (Or.inr ⟨by rfl, rfl⟩) ?_ ?_
      rotate_left
      ·
       simp only [Act.put, List.setIfInBounds_toArray, List.set_cons_zero, List.set_cons_succ, i64_w, i32_w]
       rfl
      refine pure_ (i := 14) (N := some 33) (v := ?_) (a' := ?_) #[true, true, true, true, true, true, true, true, true, true, true, true, true, true, true, false] rfl rfl (any_of HT_.out (by kernel_rfl)) (fun _ _ _ h => h) (Or.inl ⟨by rfl, ?_⟩) ?_ ?_
      rotate_left
      ·
       intro w'
       go_simp
       with_reducible rfl
      rotate_left
      ·
       simp only [Act.put, List.setIfInBounds_toArray, List.set_cons_zero, List.set_cons_succ, i64_w, i32_w]
       rfl
      refine pure_ (i := 15) (N := some 2) (v := ?_) (a' := ?_) #[true, true, true, true, true, true, true, true, true, true, true, true, true, true, true, true] rfl rfl (any_of HT_.out (by kernel_rfl)) (fun _ _ _ h => h) (Or.inl ⟨by rfl, ?_⟩) ?_ ?_
      rotate_left
      ·
       intro w'
       go_simp
       with_reducible rfl
      rotate_left
      ·
       simp only [Act.put, List.setIfInBounds_toArray, List.set_cons_zero, List.set_cons_succ, i64_w, i32_w]
       rfl
      refine done_ (done_of HT_.out (by kernel_rfl)) ?_
      try go_wp2
      go_ret
      exact ⟨by first | rfl | (simp [errW_none, errW_some] <;> rfl) | (simp [*, errW_none, errW_some] <;> rfl), by repeat (first | (with_reducible first | exact HB.out | apply below_alloc | apply pw_below_drewN | apply below_drew1 | refine below_set ?_ GE317.out) | exact HB.out)⟩
    ·
     rw [if_neg c13] at H
     have c13b0 : decide ((t323.length : Int) ≤ 40) = false := decide_eq_false c13
     have c13b1 : decide (t323.length ≤ 40) = false := decide_eq_false (by omega)
     clear c13
     obtain rfl := Option.some.inj H
     have hcz28_0 : wc.cell? ⟨gb317, 0, none⟩ = some (.slice A0_0 l0_0.length c0_0) := (blk_cell BK317.out 0).trans rfl
     have hfz28_0 := blk_frozen BK317.out 0
     try go_wp2_with (first | ((with_reducible refine gate_callee (f := 49) rfl ?_); refine goesL_ (some 18) rfl rfl Try.func49 (by kernel_rfl) rfl #[.agg #[.slice A0_0 l0_0.length c0_0]] rfl (by (try simp only [List.map_toArray, List.map_cons, List.map_nil]); first | done | rfl | (simp only [List.length_drop, List.length_take]; rfl)) ?_; (with_reducible refine (impl_Trie_words.calls kj2 _ _ l0_0 t323 _ ?side1 ?side2 A12.out).mono ?_); (case side1 => repeat (first | exact (Kd.C_below HR0_0.out HB.out) | (with_reducible refine Kd.C_alloc ?_ _) | (with_reducible refine Kd.C_drewN ?_ _) | (with_reducible refine Kd.C_drew ?_))); (case side2 => exact HC0_0.out); rintro e w29 ⟨v324, rfl, ho0, hb⟩; refine ⟨_, rfl, ?_⟩; have n0_ := Aside0.mk (Kd.R_lower ho0 (below_size (by repeat (first | (with_reducible first | exact HB.out | apply below_alloc | apply pw_below_drewN | apply below_drew1 | refine below_set ?_ GE317.out) | exact HB.out)))); have n1_ := Aside0.mk (blk_below (g := gb317) (o := .cells #[.slice A0_0 l0_0.length c0_0] 31 (0, 0)) (by (with_reducible repeat (first | refine blk_drewN ?_ _ | refine blk_drew ?_ | refine blk_alloc ?_ _)); exact BK317.out) hb); have n2_ := Aside0.mk (below_step (by repeat (first | (with_reducible first | exact HB.out | apply below_alloc | apply pw_below_drewN | apply below_drew1 | refine below_set ?_ GE317.out) | exact HB.out)) hb); clear BK317; clear HB; have HO325 := n0_; have BK317 := n1_; have HB := n2_; clear n0_ n1_ n2_; (try clear hb); (try clear hb2); (try clear hk); (try clear hi); (try clear ho0)))
     have n0_ := Aside0.mk (Kd.R_drew HO325.out)
     have n1_ := Aside0.mk (blk_drew BK317.out)
     have n2_ := Aside0.mk (below_drew1 HB.out)
     clear HO325
     clear BK317
     clear HB
     have HO325 := n0_
     have BK317 := n1_
     have HB := n2_
     clear n0_ n1_ n2_
     obtain ⟨Ao31, co31, eo31⟩ := Kd.R_slice HO325.out
     (first | subst eo31 | (injection eo31 with f1_ f2_ f3_; have f4_ := f1_.symm; have f5_ := f3_.symm; clear f1_ f2_ f3_; subst f4_; subst f5_))
     refine start_ (n := 16) (S := fun w' => True) (ds := []) #[false, false, false, false, false, false, false, false, false, false, false, false, false, false, false, false] (by kernel_rfl) rfl rfl trivial (fun hHeld => ?_); refine with_tabW impl_isTrie.tab5 impl_isTrie.bits5 (fun HT_ HW_ => ?_)
     generalize w29.drew = w30 at HO325 BK317 HB hHeld ⊢
     refine pure_ (i := 0) (N := some 19) (v := ?_) (a' := ?_) #[true, false, false, false, false, false, false, false, false, false, false, false, false, false, false, false] rfl rfl (any_of HT_.out (by kernel_rfl)) (fun _ _ _ h => h) (Or.inl ⟨by rfl, ?_⟩) ?_ ?_
     rotate_left
     ·
      intro w'
      go_simp
      with_reducible rfl
     rotate_left
     ·
      simp only [Act.put, List.setIfInBounds_toArray, List.set_cons_zero, List.set_cons_succ, i64_w, i32_w]
      rfl
     refine pure_ (i := 1) (N := some 20) (v := ?_) (a' := ?_) #[true, true, false, false, false, false, false, false, false, false, false, false, false, false, false, false] rfl rfl (any_of HT_.out (by kernel_rfl)) (fun _ _ _ h => h) (Or.inl ⟨by rfl, ?_⟩) ?_ ?_
     rotate_left
     ·
      intro w'
      go_simp
      with_reducible rfl
     rotate_left
     ·
      simp only [Act.put, List.setIfInBounds_toArray, List.set_cons_zero, List.set_cons_succ, i64_w, i32_w]
      rfl
     refine pure_ (i := 2) (N := some 21) (v := ?_) (a' := ?_) #[true, true, true, false, false, false, false, false, false, false, false, false, false, false, false, false] rfl rfl (any_of HT_.out (by kernel_rfl)) (fun _ _ _ h => h) (Or.inl ⟨by rfl, ?_⟩) ?_ ?_
     rotate_left
     ·
      intro w'
      go_simp
      with_reducible rfl
     rotate_left
     ·
      simp only [Act.put, List.setIfInBounds_toArray, List.set_cons_zero, List.set_cons_succ, i64_w, i32_w]
      rfl
     refine pure_ (i := 3) (N := some 22) (v := ?_) (a' := ?_) #[true, true, true, true, false, false, false, false, false, false, false, false, false, false, false, false] rfl rfl (any_of HT_.out (by kernel_rfl)) (fun _ _ _ h => h) (Or.inl ⟨by rfl, ?_⟩) ?_ ?_
     rotate_left
     ·
      intro w'
      go_simp
      with_reducible rfl
     rotate_left
     ·
      simp only [Act.put, List.setIfInBounds_toArray, List.set_cons_zero, List.set_cons_succ, i64_w, i32_w]
      rfl
     refine pure_ (i := 4) (N := some 23) (v := undef) (a' := ?_) #[true, true, true, true, true, false, false, false, false, false, false, false, false, false, false, false] rfl rfl (any_of HT_.out (by kernel_rfl)) (fun _ _ _ h => h) (Or.inr ⟨by rfl, rfl⟩) ?_ ?_
     rotate_left
     ·
      simp only [Act.put, List.setIfInBounds_toArray, List.set_cons_zero, List.set_cons_succ, i64_w, i32_w]
      rfl
     refine pure_ (i := 5) (N := some 24) (v := undef) (a' := ?_) #[true, true, true, true, true, true, false, false, false, false, false, false, false, false, false, false] rfl rfl (any_of HT_.out (by kernel_rfl)) (fun _ _ _ h => h) (Or.inr ⟨by rfl, rfl⟩) ?_ ?_
     rotate_left
     ·
      simp only [Act.put, List.setIfInBounds_toArray, List.set_cons_zero, List.set_cons_succ, i64_w, i32_w]
      rfl
     refine pure_ (i := 6) (N := some 25) (v := ?_) (a' := ?_) #[true, true, true, true, true, true, true, false, false, false, false, false, false, false, false, false] rfl rfl (any_of HT_.out (by kernel_rfl)) (fun _ _ _ h => h) (Or.inl ⟨by rfl, ?_⟩) ?_ ?_
     rotate_left
     ·
      intro w'
      go_simp
      with_reducible rfl
     rotate_left
     ·
      simp only [Act.put, List.setIfInBounds_toArray, List.set_cons_zero, List.set_cons_succ, i64_w, i32_w]
      rfl
     refine pure_ (i := 7) (N := some 26) (v := ?_) (a' := ?_) #[true, true, true, true, true, true, true, true, false, false, false, false, false, false, false, false] rfl rfl (any_of HT_.out (by kernel_rfl)) (fun _ _ _ h => h) (Or.inl ⟨by rfl, ?_⟩) ?_ ?_
     rotate_left
     ·
      intro w'
      go_simp
      with_reducible rfl
     rotate_left
     ·
      simp only [Act.put, List.setIfInBounds_toArray, List.set_cons_zero, List.set_cons_succ, i64_w, i32_w]
      rfl
     refine pure_ (i := 8) (N := some 27) (v := undef) (a' := ?_) #[true, true, true, true, true, true, true, true, true, false, false, false, false, false, false, false] rfl rfl (any_of HT_.out (by kernel_rfl)) (fun _ _ _ h => h) (Or.inr ⟨by rfl, rfl⟩) ?_ ?_
     rotate_left
     ·
      simp only [Act.put, List.setIfInBounds_toArray, List.set_cons_zero, List.set_cons_succ, i64_w, i32_w]
      rfl
     refine pure_ (i := 9) (N := some 28) (v := undef) (a' := ?_) #[true, true, true, true, true, true, true, true, true, true, false, false, false, false, false, false] rfl rfl (any_of HT_.out (by kernel_rfl)) (fun _ _ _ h => h) (Or.inr ⟨by rfl, rfl⟩) ?_ ?_
     rotate_left
     ·
      simp only [Act.put, List.setIfInBounds_toArray, List.set_cons_zero, List.set_cons_succ, i64_w, i32_w]
      rfl
     refine pure_ (i := 10) (N := some 29) (v := undef) (a' := ?_) #[true, true, true, true, true, true, true, true, true, true, true, false, false, false, false, false] rfl rfl (any_of HT_.out (by kernel_rfl)) (fun _ _ _ h => h) (Or.inr ⟨by rfl, rfl⟩) ?_ ?_
     rotate_left
     ·
      simp only [Act.put, List.setIfInBounds_toArray, List.set_cons_zero, List.set_cons_succ, i64_w, i32_w]
      rfl
     refine pure_ (i := 11) (N := some 30) (v := undef) (a' := ?_) #[true, true, true, true, true, true, true, true, true, true, true, true, false, false, false, false] rfl rfl (any_of HT_.out (by kernel_rfl)) (fun _ _ _ h => h) (Or.inr ⟨by rfl, rfl⟩) ?_ ?_
     rotate_left
     ·
      simp only [Act.put, List.setIfInBounds_toArray, List.set_cons_zero, List.set_cons_succ, i64_w, i32_w]
      rfl
     refine pure_ (i := 12) (N := some 31) (v := undef) (a' := ?_) #[true, true, true, true, true, true, true, true, true, true, true, true, true, false, false, false] rfl rfl (any_of HT_.out (by kernel_rfl)) (fun _ _ _ h => h) (Or.inr ⟨by rfl, rfl⟩) ?_ ?_
     rotate_left
     ·
      simp only [Act.put, List.setIfInBounds_toArray, List.set_cons_zero, List.set_cons_succ, i64_w, i32_w]
      rfl
     refine pure_ (i := 13) (N := some 32) (v := undef) (a' := ?_) #[true, true, true, true, true, true, true, true, true, true, true, true, true, true, false, false] rfl rfl (any_of HT_.out (by kernel_rfl)) (fun _ _ _ h => h) (Or.inr ⟨by rfl, rfl⟩) ?_ ?_
     rotate_left
     ·
      simp only [Act.put, List.setIfInBounds_toArray, List.set_cons_zero, List.set_cons_succ, i64_w, i32_w]
      rfl
     refine pure_ (i := 14) (N := some 33) (v := ?_) (a' := ?_) #[true, true, true, true, true, true, true, true, true, true, true, true, true, true, true, false] rfl rfl (any_of HT_.out (by kernel_rfl)) (fun _ _ _ h => h) (Or.inl ⟨by rfl, ?_⟩) ?_ ?_
     rotate_left
     ·
      intro w'
      go_simp
      with_reducible rfl
     rotate_left
     ·
      simp only [Act.put, List.setIfInBounds_toArray, List.set_cons_zero, List.set_cons_succ, i64_w, i32_w]
      rfl
     refine pure_ (i := 15) (N := some 2) (v := ?_) (a' := ?_) #[true, true, true, true, true, true, true, true, true, true, true, true, true, true, true, true] rfl rfl (any_of HT_.out (by kernel_rfl)) (fun _ _ _ h => h) (Or.inl ⟨by rfl, ?_⟩) ?_ ?_
     rotate_left
     ·
      intro w'
      go_simp
      with_reducible rfl
     rotate_left
     ·
      simp only [Act.put, List.setIfInBounds_toArray, List.set_cons_zero, List.set_cons_succ, i64_w, i32_w]
      rfl
     refine done_ (done_of HT_.out (by kernel_rfl)) ?_
     try go_wp2
     go_ret
     exact ⟨by first | rfl | (simp [errW_none, errW_some] <;> rfl) | (simp [*, errW_none, errW_some] <;> rfl), by repeat (first | (with_reducible first | exact HB.out | apply below_alloc | apply pw_below_drewN | apply below_drew1 | refine below_set ?_ GE317.out) | exact HB.out)⟩

end Go.Proofs.Ytgagmodkjmegeaa.P

namespace Go.Proofs.Ytgagmodkjmegeaa.P
open Go.RowKit Go.Proofs.YtgagmodkjmegeaaW.PrintWords Go.Proofs.YtgagmodkjmegeaaW.PrintLast Go.Proofs.YtgagmodkjmegeaaW.PrintMore
attribute [local go_sem] max2_int min2_int max_two min_two max_three min_three max_four min_four
set_option linter.unusedVariables false
set_option linter.unusedSimpArgs false

/-! ### impl_divisor: function 90 -/
def impl_divisor.l0 : Nat → Int → Int → Option (Int)
 | 0, _, _ => none
 | k + 1, x0, x1 => if x1 = 0 then (some x0) else (impl_divisor.l0 k x1 (Int.tmod x0 x1))
def impl_divisor.f (k : Nat) (a0 : Int) (a1 : Int) : Option (Int) := impl_divisor.l0 k a0 a1
theorem impl_divisor.mono_l : ∀ k, (∀ y0 y1, LeO (impl_divisor.l0 k y0 y1) (impl_divisor.l0 (k + 1) y0 y1))
 | 0 => fun _ _ r h => by simp [impl_divisor.l0] at h
 | k + 1 => by
  have ih0 := impl_divisor.mono_l k
  ·
   intro y0 y1
   unfold impl_divisor.l0
   repeat' first
   | (with_reducible exact ih0 _ _)
   | (with_reducible exact LeO.refl _)
   | (with_reducible exact LeO.none _)
   | (with_reducible refine LeO.ite ?_ ?_)
   | (with_reducible refine LeO.bind ?_ (fun _ => ?_))
   | exact ih0 _ _
   | exact LeO.none _
   | refine LeO.ite ?_ ?_
   | refine LeO.bind ?_ (fun _ => ?_)
theorem impl_divisor.mono : ∀ a0 a1 k, LeO (impl_divisor.f k a0 a1) (impl_divisor.f (k + 1) a0 a1) := by
 intro a0 a1 k
 have ih0 := impl_divisor.mono_l k
 unfold impl_divisor.f
 repeat' first
   | (with_reducible exact ih0 _ _)
   | (with_reducible exact LeO.refl _)
   | (with_reducible exact LeO.none _)
   | (with_reducible refine LeO.ite ?_ ?_)
   | (with_reducible refine LeO.bind ?_ (fun _ => ?_))
   | exact ih0 _ _
   | exact LeO.none _
   | refine LeO.ite ?_ ?_
   | refine LeO.bind ?_ (fun _ => ?_)
set_option maxHeartbeats 8000000 in
set_option maxRecDepth 100000 in
theorem impl_divisor.calls (k : Nat) (a0 : Int) (a1 : Int) (r : Int) (w : World) (h : impl_divisor.f k a0 a1 = some r) :
  Calls Try.prog 90 #[.int .i64 a0, .int .i64 a1] w fun e w' => e = .returned (.int .i64 r) ∧ Drawn0 w w' := by
 have H : (impl_divisor.l0 k a0 a1) = some r := h
 clear h
 have H' := Aside0.mk H
 clear H
 go_enter Try.func90, Try.ntmps90
 go_wp2
 repeat (go_quiet (fail); try go_wp2)
 go_loopg [0, 1] k (fun kq v0 v1 w' => ∃ (x0_1 : Int) (x1_1 : Int), v0 = .int .i64 x0_1 ∧ v1 = .int .i64 x1_1 ∧ Aside0 (impl_divisor.l0 kq x0_1 x1_1 = some r) ∧ Aside0 (kq ≤ k) ∧ Drawn0 w w')
 case atStart => exact ⟨(a0), (a1), (by first | rfl | (simp; done) | (simp [*]; done)), (by first | rfl | (simp; done) | (simp [*]; done)), H', ⟨Nat.le_refl _⟩, by repeat (first | exact Drawn0.refl _ | apply Drawn0.step)⟩
 case round =>
  clear H'
  try clear p2
  obtain ⟨x0_1, x1_1, rfl, rfl, HA, HK1, ⟨m1, rfl⟩⟩ := hrel
  cases gk with
  | zero => exact absurd HA.out (by simp [impl_divisor.l0])
  | succ k1 =>
   have H := HA.out
   clear HA
   simp only [impl_divisor.l0] at H
   by_cases c3 : x1_1 = 0
   ·
    rw [if_pos c3] at H
    have c3b0 : (x1_1 == 0) = true := beq_iff_eq.mpr c3
    have c3b1 : (x1_1 != 0) = false := bne_eq_false_iff_eq.mpr c3
    clear c3
    obtain rfl := Option.some.inj H
    go_wp2
    repeat (go_quiet (fail); try go_wp2)
    go_ret
    exact ⟨by first | rfl | (simp; done) | (simp [*]; done), by repeat (first | exact Drawn0.refl _ | apply Drawn0.step)⟩
   ·
    rw [if_neg c3] at H
    have c3b0 : (x1_1 == 0) = false := beq_eq_false_iff_ne.mpr c3
    have c3b1 : (x1_1 != 0) = true := bne_iff_ne.mpr c3
    have H' := Aside0.mk H
    clear H
    go_wp2
    repeat (go_quiet (fail); try go_wp2)
    go_roundg k1
    case measure => have := HK1.out; omega
    case rel => exact ⟨(x1_1), (Int.tmod x0_1 x1_1), (by first | rfl | (simp; done) | (simp [*]; done)), (by first | rfl | (simp; done) | (simp [*]; done)), H', ⟨by have := HK1.out; omega⟩, by repeat (first | exact Drawn0.refl _ | apply Drawn0.step)⟩

end Go.Proofs.Ytgagmodkjmegeaa.P

namespace Go.Proofs.Ytgagmodkjmegeaa.P
open Go.RowKit Go.Proofs.YtgagmodkjmegeaaW.PrintWords Go.Proofs.YtgagmodkjmegeaaW.PrintLast Go.Proofs.YtgagmodkjmegeaaW.PrintMore
attribute [local go_sem] max2_int min2_int max_two min_two max_three min_three max_four min_four
set_option linter.unusedVariables false
set_option linter.unusedSimpArgs false

/-! ### impl_fraction: function 51 -/
def impl_fraction.f (k : Nat) (a0 : Int) (a1 : Int) : Option (Int × Int) := (impl_divisor.f k a0 a1).bind fun t337 => (if t337 = 0 then (none) else (some (wrap64 (Int.tdiv a0 t337), wrap64 (Int.tdiv a1 t337))))
theorem impl_fraction.mono : ∀ a0 a1 k, LeO (impl_fraction.f k a0 a1) (impl_fraction.f (k + 1) a0 a1) := by
 intro a0 a1 k
 unfold impl_fraction.f
 repeat' first
   | (with_reducible exact impl_divisor.mono _ _ _)
   | (with_reducible exact LeO.refl _)
   | (with_reducible exact LeO.none _)
   | (with_reducible refine LeO.ite ?_ ?_)
   | (with_reducible refine LeO.bind ?_ (fun _ => ?_))
   | exact impl_divisor.mono _ _ _
   | exact LeO.none _
   | refine LeO.ite ?_ ?_
   | refine LeO.bind ?_ (fun _ => ?_)
def impl_fraction.T2 : Bool × List (List Nat × List Nat) := (true, [([], []), ([], []), ([0, 1], [0, 1]), ([], []), ([], []), ([3, 4], [3, 4]), ([2, 5], [2, 5]), ([6, 0, 1, 2, 3, 4, 5, 6], [6])])
def impl_fraction.B2 : List Nat := [0, 0, 3, 0, 0, 24, 63, 127]
theorem impl_fraction.tab2 : rtab .any (opsOf Try.f51 2) = impl_fraction.T2 := by kernel_rfl
theorem impl_fraction.bits2 : waitsOk impl_fraction.T2.2 impl_fraction.B2 = true := by kernel_rfl
set_option maxHeartbeats 8000000 in
set_option maxRecDepth 100000 in
theorem impl_fraction.calls (k : Nat) (a0 : Int) (a1 : Int) (r1 : Int) (r2 : Int) (w : World) (h : impl_fraction.f k a0 a1 = some (r1, r2)) :
  Calls Try.prog 51 #[.int .i64 a0, .int .i64 a1] w fun e w' => e = .returned (.agg #[.int .i64 r1, .int .i64 r2]) ∧ Below w.heap.size w w' := by
 have hu26 := Try.underlying26
 have HB := Aside0.mk (Below.refl w.heap.size w)
 have H : ((impl_divisor.f k a0 a1).bind fun t337 => (if t337 = 0 then (none) else (some (wrap64 (Int.tdiv a0 t337), wrap64 (Int.tdiv a1 t337))))) = some (r1, r2) := h
 clear h
 replace H := Option.bind_eq_some_iff.mp H
 obtain ⟨t337, A30, H⟩ := H
 replace H : (if t337 = 0 then (none) else (some (wrap64 (Int.tdiv a0 t337), wrap64 (Int.tdiv a1 t337)))) = some (r1, r2) := H
 have A3 := Aside0.mk A30
 clear A30
 by_cases c4 : t337 = 0
 ·
  rw [if_pos c4] at H
  exact absurd H (by simp)
 ·
  rw [if_neg c4] at H
  have c4b0 : (t337 == 0) = false := beq_eq_false_iff_ne.mpr c4
  have c4b1 : (t337 != 0) = true := bne_iff_ne.mpr c4
  simp only [Option.some.injEq, Prod.mk.injEq] at H
  obtain ⟨rfl, rfl⟩ := H
  go_enter Try.func51, Try.ntmps51
  try go_wp2_with (first | ((with_reducible refine gate_dst (N := 4) rfl ?_); refine box_event ?hg (N := 4) ?hd (cs := #[.int .i64 0, .int .i64 0]) (t := 26) ?hr ?_; (case hd => rfl); (case hg => rfl); (case hr => first | (go_simp; done) | (go_simp; rfl)); intro gb336 hg w5 hbox hb; have n0_ := Aside0.mk (below_step (by repeat (first | (with_reducible first | exact HB.out | apply below_alloc | apply pw_below_drewN | apply below_drew1) | exact HB.out)) hb); have n1_ := Aside0.mk (hbox); have n2_ := Aside0.mk ((by rw [hg]; exact (below_size (by repeat (first | (with_reducible first | exact HB.out | apply below_alloc | apply pw_below_drewN | apply below_drew1) | exact HB.out))) : w.heap.size ≤ gb336)); have n3_ := Aside0.mk ((by rw [hg]; exact (below_size (by repeat (first | (with_reducible first | exact HB.out | apply below_alloc | apply pw_below_drewN | apply below_drew1) | exact HB.out))) : w.heap.size ≤ gb336)); clear HB; have HB := n0_; have BK336 := n1_; have GW336 := n2_; have GE336 := n3_; clear n0_ n1_ n2_ n3_; clear hb hbox hg) | ((with_reducible refine gate_callee (f := 90) rfl ?_); refine goesL_ (some 8) rfl rfl Try.func90 (by kernel_rfl) rfl #[.int .i64 a0, .int .i64 a1] rfl (by (try simp only [List.map_toArray, List.map_cons, List.map_nil]); first | done | rfl | (simp only [List.length_drop, List.length_take]; rfl)) ?_; (with_reducible refine (impl_divisor.calls k a0 a1 t337 _ A3.out).mono ?_); rintro e w' ⟨rfl, ⟨nd, rfl⟩⟩; refine ⟨_, rfl, ?_⟩; (try (rw [drewN_self w5]; generalize hq_ : World.drewN w5 _ = w5; have n0_ : Aside0 (w5.heap[gb336]? = some (.cells #[.int .i64 0, .int .i64 0] 26 (0, 0))) := ⟨by rw [← hq_]; exact (by (with_reducible repeat (first | refine blk_drewN ?_ _ | refine blk_drew ?_ | refine blk_alloc ?_ _)); exact BK336.out)⟩; have n1_ : Aside0 (Below w.heap.size w w5) := ⟨by rw [← hq_]; exact (by repeat (first | (with_reducible first | exact HB.out | apply below_alloc | apply pw_below_drewN | apply below_drew1 | refine below_set ?_ GE336.out) | exact HB.out))⟩; clear BK336 HB hq_; have BK336 := n0_; have HB := n1_; clear n0_ n1_))))
  have n0_ := Aside0.mk (blk_drew BK336.out)
  have n1_ := Aside0.mk (below_drew1 HB.out)
  clear BK336
  clear HB
  have BK336 := n0_
  have HB := n1_
  clear n0_ n1_
  refine start_ (n := 8) (S := fun w' => True) (ds := []) #[false, false, false, false, false, false, false, false] (by kernel_rfl) rfl rfl trivial (fun hHeld => ?_); refine with_tabW impl_fraction.tab2 impl_fraction.bits2 (fun HT_ HW_ => ?_)
  generalize w5.drew = w6 at BK336 HB hHeld ⊢
  refine pure_ (i := 0) (N := some 9) (v := ?_) (a' := ?_) #[true, false, false, false, false, false, false, false] rfl rfl (any_of HT_.out (by kernel_rfl)) (fun _ _ _ h => h) (Or.inl ⟨by rfl, ?_⟩) ?_ ?_
  rotate_left
  ·
   intro w'
   go_simp
   with_reducible rfl
  rotate_left
  ·
   simp only [Act.put, List.setIfInBounds_toArray, List.set_cons_zero, List.set_cons_succ, i64_w, i32_w]
   rfl
  refine pure_ (i := 1) (N := some 10) (v := ?_) (a' := ?_) #[true, true, false, false, false, false, false, false] rfl rfl (any_of HT_.out (by kernel_rfl)) (fun _ _ _ h => h) (Or.inl ⟨by rfl, ?_⟩) ?_ ?_
  rotate_left
  ·
   intro w'
   go_simp
   with_reducible rfl
  rotate_left
  ·
   simp only [Act.put, List.setIfInBounds_toArray, List.set_cons_zero, List.set_cons_succ, i64_w, i32_w]
   rfl
  refine pure_ (i := 2) (N := some 11) (v := ?_) (a' := ?_) #[true, true, true, false, false, false, false, false] rfl rfl (any_of HT_.out (by kernel_rfl)) (fun _ _ _ h => h) (Or.inl ⟨by rfl, ?_⟩) ?_ ?_
  rotate_left
  ·
   intro w'
   go_simp
   with_reducible rfl
  rotate_left
  ·
   simp only [Act.put, List.setIfInBounds_toArray, List.set_cons_zero, List.set_cons_succ, i64_w, i32_w]
   rfl
  refine pure_ (i := 3) (N := some 12) (v := ?_) (a' := ?_) #[true, true, true, true, false, false, false, false] rfl rfl (any_of HT_.out (by kernel_rfl)) (fun _ _ _ h => h) (Or.inl ⟨by rfl, ?_⟩) ?_ ?_
  rotate_left
  ·
   intro w'
   go_simp
   with_reducible rfl
  rotate_left
  ·
   simp only [Act.put, List.setIfInBounds_toArray, List.set_cons_zero, List.set_cons_succ, i64_w, i32_w]
   rfl
  refine pure_ (i := 4) (N := some 13) (v := ?_) (a' := ?_) #[true, true, true, true, true, false, false, false] rfl rfl (any_of HT_.out (by kernel_rfl)) (fun _ _ _ h => h) (Or.inl ⟨by rfl, ?_⟩) ?_ ?_
  rotate_left
  ·
   intro w'
   go_simp
   with_reducible rfl
  rotate_left
  ·
   simp only [Act.put, List.setIfInBounds_toArray, List.set_cons_zero, List.set_cons_succ, i64_w, i32_w]
   rfl
  refine pure_ (i := 5) (N := some 14) (v := ?_) (a' := ?_) #[true, true, true, true, true, true, false, false] rfl rfl (any_of HT_.out (by kernel_rfl)) (fun _ _ _ h => h) (Or.inl ⟨by rfl, ?_⟩) ?_ ?_
  rotate_left
  ·
   intro w'
   go_simp
   with_reducible rfl
  rotate_left
  ·
   simp only [Act.put, List.setIfInBounds_toArray, List.set_cons_zero, List.set_cons_succ, i64_w, i32_w]
   rfl
  refine pure_ (i := 6) (N := some 15) (v := ?_) (a' := ?_) #[true, true, true, true, true, true, true, false] rfl rfl (any_of HT_.out (by kernel_rfl)) (fun _ _ _ h => h) (Or.inl ⟨by rfl, ?_⟩) ?_ ?_
  rotate_left
  ·
   intro w'
   go_simp
   with_reducible rfl
  rotate_left
  ·
   simp only [Act.put, List.setIfInBounds_toArray, List.set_cons_zero, List.set_cons_succ, i64_w, i32_w]
   rfl
  refine one_ (i := 7) (N := none) #[true, true, true, true, true, true, true, true] rfl rfl (one_of HT_.out (by kernel_rfl)) (by decide) (fun K hK => ?_)
  have hs7 : w6.cell? ⟨gb336, 0, none⟩ = some (.int .i64 0) := (blk_cell BK336.out 0).trans rfl
  have hfs7 := blk_frozen BK336.out 0
  have hs8 : w6.cell? ⟨gb336, 1, none⟩ = some (.int .i64 0) := (blk_cell BK336.out 1).trans rfl
  have hfs8 := blk_frozen BK336.out 1
  refine skip_ (w1 := ?_) (by rfl) rfl ?_ ?_
  rotate_left
  ·
   go_simp
   rfl
  refine hK.out _ _ trivial (fun hHeld => ?_)
  clear hK K
  refine done_ (done_of HT_.out (by kernel_rfl)) ?_
  try go_wp2
  refine bodyPost_ret (results_cell_row rfl _ _ gb336 26 #[.int .i64 (wrap64 (Int.tdiv a0 t337)), .int .i64 (wrap64 (Int.tdiv a1 t337))] (0, 0) _ rfl (by (with_reducible repeat (first | refine blk_drewN ?_ _ | refine blk_drew ?_ | refine blk_alloc ?_ _)); refine blk_put (cs := #[.int .i64 (wrap64 (Int.tdiv a0 t337)), .int .i64 0]) ?_ 1 _ rfl; (with_reducible repeat (first | refine blk_drewN ?_ _ | refine blk_drew ?_ | refine blk_alloc ?_ _)); refine blk_put (cs := #[.int .i64 0, .int .i64 0]) ?_ 0 _ rfl; (with_reducible repeat (first | refine blk_drewN ?_ _ | refine blk_drew ?_ | refine blk_alloc ?_ _)); exact BK336.out) Try.underlying26 rfl (by kernel_rfl)) rfl ?_
  exact ⟨by first | rfl | (simp [errW_none, errW_some] <;> rfl) | (simp [*, errW_none, errW_some] <;> rfl), by repeat (first | (with_reducible first | exact HB.out | apply below_alloc | apply pw_below_drewN | apply below_drew1 | refine below_set ?_ GE336.out) | exact HB.out)⟩

end Go.Proofs.Ytgagmodkjmegeaa.P

namespace Go.Proofs.Ytgagmodkjmegeaa.P
open Go.RowKit Go.Proofs.YtgagmodkjmegeaaW.PrintWords Go.Proofs.YtgagmodkjmegeaaW.PrintLast Go.Proofs.YtgagmodkjmegeaaW.PrintMore
attribute [local go_sem] max2_int min2_int max_two min_two max_three min_three max_four min_four
set_option linter.unusedVariables false
set_option linter.unusedSimpArgs false

/-! ### impl_isRandom: function 62 -/
def impl_isRandom.f (a0 : Int) (a1 : Int) : Option (Bool) := (impl_in.f a0 1 26).bind fun t560 => (if t560 = true then ((impl_in.f a1 0 12).bind fun t561 => (some t561)) else (some false))
set_option maxHeartbeats 8000000 in
set_option maxRecDepth 100000 in
theorem impl_isRandom.calls (a0 : Int) (a1 : Int) (r : Bool) (w : World) (h : impl_isRandom.f a0 a1 = some r) :
  Calls Try.prog 62 #[.int .i64 a0, .int .i64 a1] w fun e w' => e = .returned (.bool r) ∧ Drawn0 w w' := by
 have H : ((impl_in.f a0 1 26).bind fun t560 => (if t560 = true then ((impl_in.f a1 0 12).bind fun t561 => (some t561)) else (some false))) = some r := h
 clear h
 replace H := Option.bind_eq_some_iff.mp H
 obtain ⟨t560, A30, H⟩ := H
 replace H : (if t560 = true then ((impl_in.f a1 0 12).bind fun t561 => (some t561)) else (some false)) = some r := H
 have A3 := Aside0.mk A30
 clear A30
 by_cases c4 : t560 = true
 ·
  subst c4
  have H1 : ((impl_in.f a1 0 12).bind fun t561 => (some t561)) = some r := by rw [if_pos rfl] at H; exact H
  clear H
  have H := H1
  clear H1
  replace H := Option.bind_eq_some_iff.mp H
  obtain ⟨t561, A50, H⟩ := H
  replace H : (some t561) = some r := H
  have A5 := Aside0.mk A50
  clear A50
  obtain rfl := Option.some.inj H
  go_enter Try.func62, Try.ntmps62
  go_wp2_with (first | ((with_reducible refine gate_callee (f := 55) rfl ?_); refine goesL_ (some 6) rfl rfl Try.func55 (by kernel_rfl) rfl #[.int .i64 a0, .int .i64 1, .int .i64 26] rfl (by (try simp only [List.map_toArray, List.map_cons, List.map_nil]); first | done | rfl | (simp only [List.length_drop, List.length_take]; rfl)) ?_; (with_reducible refine (impl_in.calls a0 1 26 true _ A3.out).mono ?_); rintro e w' ⟨rfl, ⟨nd, rfl⟩⟩; refine ⟨_, rfl, ?_⟩) | (go_at_call 55; (with_reducible refine (impl_in.calls a1 0 12 t561 _ A5.out).mono ?_); rintro e w' ⟨rfl, ⟨nd, rfl⟩⟩))
  go_ret
  exact ⟨by first | rfl | (simp; done) | (simp [*]; done), by repeat (first | exact Drawn0.refl _ | apply Drawn0.step)⟩
 ·
  replace c4 := Bool.eq_false_iff.mpr c4
  subst c4
  have H1 : (some false) = some r := by rw [if_neg (show ¬ (false = true) by decide)] at H; exact H
  clear H
  have H := H1
  clear H1
  obtain rfl := Option.some.inj H
  go_enter Try.func62, Try.ntmps62
  go_wp2_with (first | ((with_reducible refine gate_callee (f := 55) rfl ?_); refine goesL_ (some 6) rfl rfl Try.func55 (by kernel_rfl) rfl #[.int .i64 a0, .int .i64 1, .int .i64 26] rfl (by (try simp only [List.map_toArray, List.map_cons, List.map_nil]); first | done | rfl | (simp only [List.length_drop, List.length_take]; rfl)) ?_; (with_reducible refine (impl_in.calls a0 1 26 false _ A3.out).mono ?_); rintro e w' ⟨rfl, ⟨nd, rfl⟩⟩; refine ⟨_, rfl, ?_⟩))
  go_ret
  exact ⟨by first | rfl | (simp; done) | (simp [*]; done), by repeat (first | exact Drawn0.refl _ | apply Drawn0.step)⟩

end Go.Proofs.Ytgagmodkjmegeaa.P

namespace Go.Proofs.Ytgagmodkjmegeaa.P
open Go.RowKit Go.Proofs.YtgagmodkjmegeaaW.PrintWords Go.Proofs.YtgagmodkjmegeaaW.PrintLast Go.Proofs.YtgagmodkjmegeaaW.PrintMore
attribute [local go_sem] max2_int min2_int max_two min_two max_three min_three max_four min_four
set_option linter.unusedVariables false
set_option linter.unusedSimpArgs false

/-! ### impl_isOf: function 65 -/
def impl_isOf.l0 : Nat → ByteArray → Int → Int → Int → Option (Bool)
 | 0, _, _, _, _ => none
 | k + 1, x0, x1, x7, x8 => if x8 < x7 then (if 0 ≤ x8 then (if x8 < (x0.size : Int) then (if (((bt x0 x8) - 97) % 256) ≥ x1 then (some false) else (impl_isOf.l0 k x0 x1 x7 (wrap64 (x8 + 1)))) else (none)) else (none)) else (some true)
def impl_isOf.f (k : Nat) (a0 : ByteArray) (a1 : Int) : Option (Bool) := impl_isOf.l0 k a0 a1 (a0.size : Int) 0
theorem impl_isOf.mono_l : ∀ k, (∀ y0 y1 y2 y3, LeO (impl_isOf.l0 k y0 y1 y2 y3) (impl_isOf.l0 (k + 1) y0 y1 y2 y3))
 | 0 => fun _ _ _ _ r h => by simp [impl_isOf.l0] at h
 | k + 1 => by
  have ih0 := impl_isOf.mono_l k
  ·
   intro y0 y1 y2 y3
   unfold impl_isOf.l0
   repeat' first
   | (with_reducible exact ih0 _ _ _ _)
   | (with_reducible exact LeO.refl _)
   | (with_reducible exact LeO.none _)
   | (with_reducible refine LeO.ite ?_ ?_)
   | (with_reducible refine LeO.bind ?_ (fun _ => ?_))
   | exact ih0 _ _ _ _
   | exact LeO.none _
   | refine LeO.ite ?_ ?_
   | refine LeO.bind ?_ (fun _ => ?_)
theorem impl_isOf.mono : ∀ a0 a1 k, LeO (impl_isOf.f k a0 a1) (impl_isOf.f (k + 1) a0 a1) := by
 intro a0 a1 k
 have ih0 := impl_isOf.mono_l k
 unfold impl_isOf.f
 repeat' first
   | (with_reducible exact ih0 _ _ _ _)
   | (with_reducible exact LeO.refl _)
   | (with_reducible exact LeO.none _)
   | (with_reducible refine LeO.ite ?_ ?_)
   | (with_reducible refine LeO.bind ?_ (fun _ => ?_))
   | exact ih0 _ _ _ _
   | exact LeO.none _
   | refine LeO.ite ?_ ?_
   | refine LeO.bind ?_ (fun _ => ?_)
set_option maxHeartbeats 8000000 in
set_option maxRecDepth 100000 in
theorem impl_isOf.calls (k : Nat) (a0 : ByteArray) (a1 : Int) (r : Bool) (w : World) (h : impl_isOf.f k a0 a1 = some r) :
  Calls Try.prog 65 #[.string a0, .int .i64 a1] w fun e w' => e = .returned (.bool r) ∧ Drawn0 w w' := by
 have H : (impl_isOf.l0 k a0 a1 (a0.size : Int) 0) = some r := h
 clear h
 have H' := Aside0.mk H
 clear H
 go_enter Try.func65, Try.ntmps65
 go_wp2
 go_loopg [8] k (fun kq v8 w' => ∃ (x8_1 : Int), v8 = .int .i64 x8_1 ∧ Aside0 (impl_isOf.l0 kq a0 a1 (a0.size : Int) x8_1 = some r) ∧ Aside0 (kq ≤ k) ∧ Drawn0 w w')
 case atStart => exact ⟨(0), (by first | rfl | (simp; done) | (simp [*]; done)), H', ⟨Nat.le_refl _⟩, by repeat (first | exact Drawn0.refl _ | apply Drawn0.step)⟩
 case round =>
  clear H'
  try clear p2
  obtain ⟨x8_1, rfl, HA, HK1, ⟨m1, rfl⟩⟩ := hrel
  cases gk with
  | zero => exact absurd HA.out (by simp [impl_isOf.l0])
  | succ k1 =>
   have H := HA.out
   clear HA
   simp only [impl_isOf.l0] at H
   by_cases c3 : x8_1 < (a0.size : Int)
   ·
    rw [if_pos c3] at H
    have c3b0 : decide (x8_1 < (a0.size : Int)) = true := decide_eq_true c3
    clear c3
    by_cases c4 : 0 ≤ x8_1
    ·
     rw [if_pos c4] at H
     have c4b0 : decide (0 ≤ x8_1) = true := decide_eq_true c4
     clear c4
     by_cases c5 : x8_1 < (a0.size : Int)
     ·
      rw [if_pos c5] at H
      have c5b0 : decide (x8_1 < (a0.size : Int)) = true := decide_eq_true c5
      clear c5
      by_cases c7 : (((bt a0 x8_1) - 97) % 256) ≥ a1
      ·
       rw [if_pos c7] at H
       have c7b0 : decide (a1 ≤ (((bt a0 x8_1) - 97) % 256)) = true := decide_eq_true c7
       clear c7
       obtain rfl := Option.some.inj H
       have p6 : 0 ≤ (x8_1 : Int) := of_decide_eq_true (by first | (with_reducible assumption) | assumption)
       have q6 : x8_1 < (a0.size : Int) := of_decide_eq_true (by first | (with_reducible assumption) | assumption)
       have hx6 := bt_at a0 x8_1
       replace p6 := eq_true p6
       replace q6 := eq_true q6
       go_wp2
       go_ret
       exact ⟨by first | rfl | (simp; done) | (simp [*]; done), by repeat (first | exact Drawn0.refl _ | apply Drawn0.step)⟩
      ·
       rw [if_neg c7] at H
       have c7b0 : decide (a1 ≤ (((bt a0 x8_1) - 97) % 256)) = false := decide_eq_false c7
       clear c7
       have H' := Aside0.mk H
       clear H
       have p6 : 0 ≤ (x8_1 : Int) := of_decide_eq_true (by first | (with_reducible assumption) | assumption)
       have q6 : x8_1 < (a0.size : Int) := of_decide_eq_true (by first | (with_reducible assumption) | assumption)
       have hx6 := bt_at a0 x8_1
       replace p6 := eq_true p6
       replace q6 := eq_true q6
       go_wp2
       go_roundg k1
       case measure => have := HK1.out; omega
       case rel => exact ⟨(wrap64 (x8_1 + 1)), (by first | rfl | (simp; done) | (simp [*]; done)), H', ⟨by have := HK1.out; omega⟩, by repeat (first | exact Drawn0.refl _ | apply Drawn0.step)⟩
     ·
      rw [if_neg c5] at H
      exact absurd H (by simp)
    ·
     rw [if_neg c4] at H
     exact absurd H (by simp)
   ·
    rw [if_neg c3] at H
    have c3b0 : decide (x8_1 < (a0.size : Int)) = false := decide_eq_false c3
    clear c3
    obtain rfl := Option.some.inj H
    go_wp2
    go_ret
    exact ⟨by first | rfl | (simp; done) | (simp [*]; done), by repeat (first | exact Drawn0.refl _ | apply Drawn0.step)⟩

end Go.Proofs.Ytgagmodkjmegeaa.P

namespace Go.Proofs.Ytgagmodkjmegeaa.P
open Go.RowKit Go.Proofs.YtgagmodkjmegeaaW.PrintWords Go.Proofs.YtgagmodkjmegeaaW.PrintLast Go.Proofs.YtgagmodkjmegeaaW.PrintMore
attribute [local go_sem] max2_int min2_int max_two min_two max_three min_three max_four min_four
set_option linter.unusedVariables false
set_option linter.unusedSimpArgs false

/-! ### impl_power: function 66 -/
def impl_power.l0 : Nat → Int → Int → Int → Int → Option (Int)
 | 0, _, _, _, _ => none
 | k + 1, x0, x5, x6, x7 => if x7 < x6 then (impl_power.l0 k x0 (wrap64 (x5 * x0)) x6 (wrap64 (x7 + 1))) else (some x5)
def impl_power.f (k : Nat) (a0 : Int) (a1 : Int) : Option (Int) := impl_power.l0 k a0 1 a1 0
theorem impl_power.mono_l : ∀ k, (∀ y0 y1 y2 y3, LeO (impl_power.l0 k y0 y1 y2 y3) (impl_power.l0 (k + 1) y0 y1 y2 y3))
 | 0 => fun _ _ _ _ r h => by simp [impl_power.l0] at h
 | k + 1 => by
  have ih0 := impl_power.mono_l k
  ·
   intro y0 y1 y2 y3
   unfold impl_power.l0
   repeat' first
   | (with_reducible exact ih0 _ _ _ _)
   | (with_reducible exact LeO.refl _)
   | (with_reducible exact LeO.none _)
   | (with_reducible refine LeO.ite ?_ ?_)
   | (with_reducible refine LeO.bind ?_ (fun _ => ?_))
   | exact ih0 _ _ _ _
   | exact LeO.none _
   | refine LeO.ite ?_ ?_
   | refine LeO.bind ?_ (fun _ => ?_)
theorem impl_power.mono : ∀ a0 a1 k, LeO (impl_power.f k a0 a1) (impl_power.f (k + 1) a0 a1) := by
 intro a0 a1 k
 have ih0 := impl_power.mono_l k
 unfold impl_power.f
 repeat' first
   | (with_reducible exact ih0 _ _ _ _)
   | (with_reducible exact LeO.refl _)
   | (with_reducible exact LeO.none _)
   | (with_reducible refine LeO.ite ?_ ?_)
   | (with_reducible refine LeO.bind ?_ (fun _ => ?_))
   | exact ih0 _ _ _ _
   | exact LeO.none _
   | refine LeO.ite ?_ ?_
   | refine LeO.bind ?_ (fun _ => ?_)
set_option maxHeartbeats 8000000 in
set_option maxRecDepth 100000 in
theorem impl_power.calls (k : Nat) (a0 : Int) (a1 : Int) (r : Int) (w : World) (h : impl_power.f k a0 a1 = some r) :
  Calls Try.prog 66 #[.int .i64 a0, .int .i64 a1] w fun e w' => e = .returned (.int .i64 r) ∧ Drawn0 w w' := by
 have H : (impl_power.l0 k a0 1 a1 0) = some r := h
 clear h
 have H' := Aside0.mk H
 clear H
 go_enter Try.func66, Try.ntmps66
 go_wp2
 go_loopg [5, 7] k (fun kq v5 v7 w' => ∃ (x5_1 : Int) (x7_1 : Int), v5 = .int .i64 x5_1 ∧ v7 = .int .i64 x7_1 ∧ Aside0 (impl_power.l0 kq a0 x5_1 a1 x7_1 = some r) ∧ Aside0 (kq ≤ k) ∧ Drawn0 w w')
 case atStart => exact ⟨(1), (0), (by first | rfl | (simp; done) | (simp [*]; done)), (by first | rfl | (simp; done) | (simp [*]; done)), H', ⟨Nat.le_refl _⟩, by repeat (first | exact Drawn0.refl _ | apply Drawn0.step)⟩
 case round =>
  clear H'
  try clear p2
  obtain ⟨x5_1, x7_1, rfl, rfl, HA, HK1, ⟨m1, rfl⟩⟩ := hrel
  cases gk with
  | zero => exact absurd HA.out (by simp [impl_power.l0])
  | succ k1 =>
   have H := HA.out
   clear HA
   simp only [impl_power.l0] at H
   by_cases c3 : x7_1 < a1
   ·
    rw [if_pos c3] at H
    have c3b0 : decide (x7_1 < a1) = true := decide_eq_true c3
    clear c3
    have H' := Aside0.mk H
    clear H
    go_wp2
    go_roundg k1
    case measure => have := HK1.out; omega
    case rel => exact ⟨(wrap64 (x5_1 * a0)), (wrap64 (x7_1 + 1)), (by first | rfl | (simp; done) | (simp [*]; done)), (by first | rfl | (simp; done) | (simp [*]; done)), H', ⟨by have := HK1.out; omega⟩, by repeat (first | exact Drawn0.refl _ | apply Drawn0.step)⟩
   ·
    rw [if_neg c3] at H
    have c3b0 : decide (x7_1 < a1) = false := decide_eq_false c3
    clear c3
    obtain rfl := Option.some.inj H
    go_wp2
    go_ret
    exact ⟨by first | rfl | (simp; done) | (simp [*]; done), by repeat (first | exact Drawn0.refl _ | apply Drawn0.step)⟩

end Go.Proofs.Ytgagmodkjmegeaa.P

namespace Go.Proofs.Ytgagmodkjmegeaa.P
open Go.RowKit Go.Proofs.YtgagmodkjmegeaaW.PrintWords Go.Proofs.YtgagmodkjmegeaaW.PrintLast Go.Proofs.YtgagmodkjmegeaaW.PrintMore
attribute [local go_sem] max2_int min2_int max_two min_two max_three min_three max_four min_four
set_option linter.unusedVariables false
set_option linter.unusedSimpArgs false

/-! ### impl_ChanceHit: function 26 -/
def impl_ChanceHit.p (k : Nat) (a1 a2 : Int) (x : ByteArray) : Option Bool := if (x.size : Int) = a2 then impl_isOf.f k x a1 else some false
def impl_ChanceHit.g (k : Nat) (l0_0 : List S80) (a1 a2 : Int) : Option (Int × Int) := (impl_Trie_words.f k l0_0).bind fun ws => if ws.length ≤ 9223372036854775807 then (filt (impl_ChanceHit.p k a1 a2) ws).bind fun fs => (impl_trieOf.f k fs).bind fun N => (impl_Trie_words.f k N).bind fun w2 => (impl_power.f k a1 a2).bind fun pw => impl_fraction.f k (w2.length : Int) pw else none
def impl_ChanceHit.f (k : Nat) (l0_0 : List S80) (a1 a2 : Int) : Option (Int × Int × Bool) := (impl_isTrie.f k l0_0).bind fun t => if t = true then (impl_isRandom.f a1 a2).bind fun b => (if b = true then (impl_ChanceHit.g k l0_0 a1 a2).bind fun r => some (r.1, r.2, true) else some (0, 0, false)) else some (0, 0, false)
theorem impl_ChanceHit.pmono (k : Nat) (a1 a2 : Int) (x : ByteArray) : LeO (impl_ChanceHit.p k a1 a2 x) (impl_ChanceHit.p (k + 1) a1 a2 x) := LeO.ite (impl_isOf.mono _ _ _) (LeO.refl _)
theorem impl_ChanceHit.mono : ∀ a0 a1 a2 k, LeO (impl_ChanceHit.f k a0 a1 a2) (impl_ChanceHit.f (k + 1) a0 a1 a2) := by
 intro a0 a1 a2 k
 exact LeO.bind (impl_isTrie.mono _ _) fun t => LeO.ite (LeO.bind (LeO.refl _) fun b => LeO.ite (LeO.bind (LeO.bind (impl_Trie_words.mono _ _) fun ws => LeO.ite (LeO.bind (filt_mono ws fun x => impl_ChanceHit.pmono k a1 a2 x) fun fs => LeO.bind (impl_trieOf.mono _ _) fun N => LeO.bind (impl_Trie_words.mono _ _) fun w2 => LeO.bind (impl_power.mono _ _ _) fun pw => impl_fraction.mono _ _ _) (LeO.refl _)) fun r => LeO.refl _) (LeO.refl _)) (LeO.refl _)
set_option maxHeartbeats 1000000 in
theorem impl_ChanceHit.lit (k : Nat) (a1 a2 : Int) (x : ByteArray) (b : Bool) (Bn Bk : Nat) (W : World) (hn : W.cell? ⟨Bn, 0, none⟩ = some (.int .i64 a2)) (hk : W.cell? ⟨Bk, 0, none⟩ = some (.int .i64 a1)) (h : impl_ChanceHit.p k a1 a2 x = some b) :
  Calls Try.prog 64 (#[.string x] ++ #[.pointer (some ⟨Bn, 0, none⟩), .pointer (some ⟨Bk, 0, none⟩)]) W fun e W' => e = .returned (.bool b) ∧ Below W.heap.size W W' := by
 show Calls Try.prog 64 #[.string x, .pointer (some ⟨Bn, 0, none⟩), .pointer (some ⟨Bk, 0, none⟩)] W _
 unfold impl_ChanceHit.p at h
 by_cases hx : (x.size : Int) = a2
 ·
  rw [if_pos hx] at h
  have e0 : ((x.size : Int) == a2) = true := beq_iff_eq.mpr hx
  have HH := Aside0.mk (impl_isOf.calls k x a1 b W h)
  clear h hx
  go_enter Try.func64, Try.ntmps64
  go_wp2_with (go_at_call 65; refine HH.out.mono ?_; rintro e w' ⟨rfl, hd⟩; have HB := Aside0.mk hd; clear hd)
  go_ret
  exact ⟨rfl, HB.out.below⟩
 ·
  rw [if_neg hx] at h
  have e0 : ((x.size : Int) == a2) = false := beq_eq_false_iff_ne.mpr hx
  obtain rfl := Option.some.inj h
  clear h
  go_enter Try.func64, Try.ntmps64
  go_wp2_with fail
  go_ret
  exact ⟨rfl, Below.refl _ _⟩
set_option maxHeartbeats 4000000 in
theorem impl_ChanceHit.calls (k : Nat) (A0_0 : Option Addr) (c0_0 : Nat) (l0_0 : List S80) (a1 a2 : Int) (r1 r2 : Int) (r3 : Bool) (w : World) (hr0_0 : Kd.C k80 w A0_0 l0_0.length l0_0) (hc0_0 : l0_0.length ≤ c0_0) (h : impl_ChanceHit.f k l0_0 a1 a2 = some (r1, r2, r3)) :
  Calls Try.prog 26 #[.agg #[.slice A0_0 l0_0.length c0_0], .int .i64 a1, .int .i64 a2] w fun e w' => e = .returned (.tuple #[.agg #[.int .i64 r1, .int .i64 r2], .bool r3]) ∧ Below w.heap.size w w' := by
 obtain ⟨V, hV⟩ : ∃ V, V = (((w.alloc (.cells #[.slice A0_0 l0_0.length c0_0] 31)).alloc (.cells #[.int .i64 a1] 3)).alloc (.cells #[.int .i64 a2] 3)).alloc (.cells #[.int .i64 0, .int .i64 0] 26) := ⟨_, rfl⟩
 have HW1 := Aside0.mk ((Below.refl w.heap.size w).alloc (Nat.le_refl _) (.cells #[.slice A0_0 l0_0.length c0_0] 31))
 have HW2 := Aside0.mk (HW1.out.alloc (by simp) (.cells #[.int .i64 a1] 3))
 have HW3 := Aside0.mk (HW2.out.alloc (by simp; omega) (.cells #[.int .i64 a2] 3))
 have HW4 := HW3.out.alloc (by simp; omega) (.cells #[.int .i64 0, .int .i64 0] 26)
 rw [← hV] at HW4
 have HV := Aside0.mk HW4
 have HVS := Aside0.mk (show V.heap.size = w.heap.size + 4 from by rw [hV]; simp)
 have c0 := Aside0.mk (show V.cell? ⟨w.heap.size, 0, none⟩ = some (.slice A0_0 l0_0.length c0_0) from (blk_cell (show V.heap[w.heap.size]? = some (.cells #[.slice A0_0 l0_0.length c0_0] 31 (0, 0)) from by rw [hV]; show ((((w.heap.push _).push _).push _).push _)[w.heap.size]? = _; rw [Array.getElem?_push, if_neg (by simp <;> omega)]; rw [Array.getElem?_push, if_neg (by simp <;> omega)]; rw [Array.getElem?_push, if_neg (by simp <;> omega)]; rw [Array.getElem?_push, if_pos (by simp)]) 0).trans rfl)
 have c1 := Aside0.mk (show V.cell? ⟨w.heap.size + 1, 0, none⟩ = some (.int .i64 a1) from (blk_cell (show V.heap[w.heap.size + 1]? = some (.cells #[.int .i64 a1] 3 (0, 0)) from by rw [hV]; show ((((w.heap.push _).push _).push _).push _)[w.heap.size + 1]? = _; rw [Array.getElem?_push, if_neg (by simp <;> omega)]; rw [Array.getElem?_push, if_neg (by simp <;> omega)]; rw [Array.getElem?_push, if_pos (by simp)]) 0).trans rfl)
 have c2 := Aside0.mk (show V.cell? ⟨w.heap.size + 2, 0, none⟩ = some (.int .i64 a2) from (blk_cell (show V.heap[w.heap.size + 2]? = some (.cells #[.int .i64 a2] 3 (0, 0)) from by rw [hV]; show ((((w.heap.push _).push _).push _).push _)[w.heap.size + 2]? = _; rw [Array.getElem?_push, if_neg (by simp <;> omega)]; rw [Array.getElem?_push, if_pos (by simp)]) 0).trans rfl)
 have b3 := Aside0.mk (show V.heap[w.heap.size + 3]? = some (.cells #[.int .i64 0, .int .i64 0] 26 (0, 0)) from by rw [hV]; show ((((w.heap.push _).push _).push _).push _)[w.heap.size + 3]? = _; rw [Array.getElem?_push, if_pos (by simp)])
 have HCC := Aside0.mk (fun (W : World) (hb : Below V.heap.size V W) => Kd.C_below (Kd.C_below hr0_0 HW4) hb)
 have HC0 := Aside0.mk hc0_0
 unfold impl_ChanceHit.f at h
 obtain ⟨t, ht, h⟩ := Option.bind_eq_some_iff.1 h
 have HT := Aside0.mk (impl_isTrie.calls k A0_0 c0_0 l0_0 t V (Kd.C_below hr0_0 HW4) hc0_0 ht)
 clear HW4 hr0_0 hc0_0 ht
 have none : ∀ w1, Below V.heap.size V w1 → w1.heap[w.heap.size + 3]? = some (.cells #[.int .i64 0, .int .i64 0] 26 (0, 0)) := fun w1 hb => blk_below b3.out hb
 have HNO := Aside0.mk none
 clear none
 cases t with
 | false =>
  simp only [Bool.false_eq_true, if_false, Option.some.injEq, Prod.mk.injEq] at h
  obtain ⟨rfl, rfl, rfl⟩ := h
  go_enter Try.func26, Try.ntmps26
  go_wp2_with fail
  rw [← hV]
  clear hV
  refine HT.out.mono ?_
  clear HT
  rintro e w1 ⟨rfl, hb⟩
  have B3 := HNO.out w1 hb
  have hk0 : w1.cell? ⟨w.heap.size + 3, 0, none⟩ = some (.int .i64 0) := (blk_cell B3 0).trans rfl
  have hk1 : w1.cell? ⟨w.heap.size + 3, 1, none⟩ = some (.int .i64 0) := (blk_cell B3 1).trans rfl
  have hf0 := blk_frozen B3 0
  have hf1 := blk_frozen B3 1
  have HB3 := Aside0.mk B3
  have HB := Aside0.mk (HV.out.trans (hb.mono HV.out.size))
  clear B3 hb
  go_wp2_with fail
  refine bodyPost_ret (results_ct rfl _ _ (w.heap.size + 3) 26 #[.int .i64 0, .int .i64 0] (0, 0) _ rfl (by refine blk_put (cs := #[.int .i64 0, .int .i64 0]) ?_ 1 _ rfl; refine blk_put (cs := #[.int .i64 0, .int .i64 0]) ?_ 0 _ rfl; exact HB3.out) Try.underlying26 rfl (by kernel_rfl)) rfl ?_
  exact ⟨rfl, by repeat (first | exact HB.out | refine below_set ?_ (show w.heap.size ≤ w.heap.size + 3 from by omega))⟩
 | true =>
  simp only [if_true] at h
  obtain ⟨b, hb0, h⟩ := Option.bind_eq_some_iff.1 h
  have HRN := Aside0.mk (fun W => impl_isRandom.calls a1 a2 b W hb0)
  clear hb0
  cases b with
  | false =>
   simp only [Bool.false_eq_true, if_false, Option.some.injEq, Prod.mk.injEq] at h
   obtain ⟨rfl, rfl, rfl⟩ := h
   go_enter Try.func26, Try.ntmps26
   go_wp2_with fail
   rw [← hV]
   clear hV
   refine HT.out.mono ?_
   clear HT
   rintro e w1 ⟨rfl, hb⟩
   have d1 := (hb.cell (p := ⟨w.heap.size + 1, 0, none⟩) (by have := HVS.out; simp; omega)).trans c1.out
   have d2 := (hb.cell (p := ⟨w.heap.size + 2, 0, none⟩) (by have := HVS.out; simp; omega)).trans c2.out
   have HB1 := Aside0.mk hb
   clear hb
   go_wp2_with fail
   refine (HRN.out w1).mono ?_
   clear d1 d2
   rintro e w2 ⟨rfl, hd⟩
   have hb2 := HB1.out.trans (hd.below.mono HB1.out.size)
   have B3 := HNO.out w2 hb2
   have hk0 : w2.cell? ⟨w.heap.size + 3, 0, none⟩ = some (.int .i64 0) := (blk_cell B3 0).trans rfl
   have hk1 : w2.cell? ⟨w.heap.size + 3, 1, none⟩ = some (.int .i64 0) := (blk_cell B3 1).trans rfl
   have hf0 := blk_frozen B3 0
   have hf1 := blk_frozen B3 1
   have HB3 := Aside0.mk B3
   have HB := Aside0.mk (HV.out.trans (hb2.mono HV.out.size))
   clear B3 hb2 hd
   go_wp2_with fail
   refine bodyPost_ret (results_ct rfl _ _ (w.heap.size + 3) 26 #[.int .i64 0, .int .i64 0] (0, 0) _ rfl (by refine blk_put (cs := #[.int .i64 0, .int .i64 0]) ?_ 1 _ rfl; refine blk_put (cs := #[.int .i64 0, .int .i64 0]) ?_ 0 _ rfl; exact HB3.out) Try.underlying26 rfl (by kernel_rfl)) rfl ?_
   exact ⟨rfl, by repeat (first | exact HB.out | refine below_set ?_ (show w.heap.size ≤ w.heap.size + 3 from by omega))⟩
  | true =>
   simp only [if_true] at h
   obtain ⟨⟨p1, p2⟩, hg, h⟩ := Option.bind_eq_some_iff.1 h
   simp only [Option.some.injEq, Prod.mk.injEq] at h
   obtain ⟨rfl, rfl, rfl⟩ := h
   unfold impl_ChanceHit.g at hg
   obtain ⟨ws, hw, hg⟩ := Option.bind_eq_some_iff.1 hg
   by_cases hl : ws.length ≤ 9223372036854775807
   ·
    rw [if_pos hl] at hg
    obtain ⟨fs, hfs, hg⟩ := Option.bind_eq_some_iff.1 hg
    obtain ⟨q, hq, rfl⟩ := filt_some hfs
    obtain ⟨N, hN, hg⟩ := Option.bind_eq_some_iff.1 hg
    obtain ⟨ws2, hw2, hg⟩ := Option.bind_eq_some_iff.1 hg
    obtain ⟨pw, hpw, hg⟩ := Option.bind_eq_some_iff.1 hg
    have HCH := Aside0.mk (fun (W : World) (hb : Below V.heap.size V W) => Chosen.calls k q 64 #[.pointer (some ⟨w.heap.size + 2, 0, none⟩), .pointer (some ⟨w.heap.size + 1, 0, none⟩)] (Go.Proofs.enters_of Try.func64 (by kernel_rfl) rfl) A0_0 c0_0 l0_0 ws N W (HCC.out W hb) HC0.out hw hl hN
     (fun W' x hm hk => impl_ChanceHit.lit k a1 a2 x (q x) (w.heap.size + 2) (w.heap.size + 1) W' (Go.Proofs.YtgagmodkjmegeaaW.PrintWords.cell_kept ((hb.cell (p := ⟨w.heap.size + 2, 0, none⟩) (by have := HVS.out; simp; omega)).trans c2.out) hk (fun h => h)) (Go.Proofs.YtgagmodkjmegeaaW.PrintWords.cell_kept ((hb.cell (p := ⟨w.heap.size + 1, 0, none⟩) (by have := HVS.out; simp; omega)).trans c1.out) hk (fun h => h)) (hq x hm)))
    have HWS := Aside0.mk (fun A c W hr hc => impl_Trie_words.calls k A c N ws2 W hr hc hw2)
    have HPW := Aside0.mk (fun W => impl_power.calls k a1 a2 pw W hpw)
    obtain ⟨m, hm0⟩ : ∃ m, ws2.length = m := ⟨_, rfl⟩
    have HM := Aside0.mk hm0
    have HFR := Aside0.mk (fun W => impl_fraction.calls k (m : Int) pw p1 p2 W (hm0 ▸ hg))
    clear hg hpw hw2 hN hfs hw hl hq hm0
    go_enter Try.func26, Try.ntmps26
    go_wp2_with fail
    rw [← hV]
    clear hV
    refine HT.out.mono ?_
    clear HT
    rintro e w1 ⟨rfl, hb⟩
    have d1 := (hb.cell (p := ⟨w.heap.size + 1, 0, none⟩) (by have := HVS.out; simp; omega)).trans c1.out
    have d2 := (hb.cell (p := ⟨w.heap.size + 2, 0, none⟩) (by have := HVS.out; simp; omega)).trans c2.out
    have HB1 := Aside0.mk hb
    clear hb
    go_wp2_with fail
    refine (HRN.out w1).mono ?_
    clear d1 d2
    rintro e w2 ⟨rfl, hd⟩
    have HB2 := Aside0.mk (HB1.out.trans (hd.below.mono HB1.out.size))
    have d0 := (HB2.out.cell (p := ⟨w.heap.size, 0, none⟩) (by have := HVS.out; simp; omega)).trans c0.out
    have eg := Go.Proofs.enters_of Try.func64 (by kernel_rfl) rfl
    clear hd
    go_wp2_with fail
    refine (HCH.out w2 HB2.out).mono ?_
    clear HCH d0 eg
    rintro e w3 ⟨v3, rfl, hr3, hb3⟩
    obtain ⟨A3, c3, hv3⟩ := Kd.R_slice hr3
    subst hv3
    have HB3 := Aside0.mk (HB2.out.trans (hb3.mono HB2.out.size))
    have HX3 := Aside0.mk (HWS.out A3 c3 w3 (Kd.R_reads' hr3).2.2 (Kd.R_reads' hr3).2.1)
    clear hr3 hb3
    go_wp2_with fail
    refine HX3.out.mono ?_
    clear HX3
    rintro e w4 ⟨v4, rfl, hr4, hb4⟩
    obtain ⟨A4, c4, hv4⟩ := Kd.R_slice hr4
    subst hv4
    rw [HM.out]
    have HB4 := Aside0.mk (HB3.out.trans (hb4.mono HB3.out.size))
    have d1 := (HB4.out.cell (p := ⟨w.heap.size + 1, 0, none⟩) (by have := HVS.out; simp; omega)).trans c1.out
    have d2 := (HB4.out.cell (p := ⟨w.heap.size + 2, 0, none⟩) (by have := HVS.out; simp; omega)).trans c2.out
    clear hr4 hb4
    go_wp2_with fail
    refine (HPW.out w4).mono ?_
    clear d1 d2
    rintro e w5 ⟨rfl, hd5⟩
    have HB5 := Aside0.mk (HB4.out.trans (hd5.below.mono HB4.out.size))
    clear hd5
    go_wp2_with fail
    refine (HFR.out w5).mono ?_
    rintro e w6 ⟨rfl, hb6⟩
    have hb7 := HB5.out.trans (hb6.mono HB5.out.size)
    have B3 := HNO.out w6 hb7
    have hk0 : w6.cell? ⟨w.heap.size + 3, 0, none⟩ = some (.int .i64 0) := (blk_cell B3 0).trans rfl
    have hk1 : w6.cell? ⟨w.heap.size + 3, 1, none⟩ = some (.int .i64 0) := (blk_cell B3 1).trans rfl
    have hf0 := blk_frozen B3 0
    have hf1 := blk_frozen B3 1
    have HBK := Aside0.mk B3
    have HB := Aside0.mk (HV.out.trans (hb7.mono HV.out.size))
    clear B3 hb6 hb7
    go_wp2_with fail
    refine bodyPost_ret (results_ct rfl _ _ (w.heap.size + 3) 26 #[.int .i64 p1, .int .i64 p2] (0, 0) _ rfl (by refine blk_put (cs := #[.int .i64 p1, .int .i64 0]) ?_ 1 _ rfl; refine blk_put (cs := #[.int .i64 0, .int .i64 0]) ?_ 0 _ rfl; exact HBK.out) Try.underlying26 rfl (by kernel_rfl)) rfl ?_
    exact ⟨rfl, by repeat (first | exact HB.out | refine below_set ?_ (show w.heap.size ≤ w.heap.size + 3 from by omega))⟩
   ·
    rw [if_neg hl] at hg; cases hg

end Go.Proofs.Ytgagmodkjmegeaa.P

namespace Go.Proofs.Ytgagmodkjmegeaa.P
open Go.RowKit Go.Proofs.YtgagmodkjmegeaaW.PrintWords Go.Proofs.YtgagmodkjmegeaaW.PrintLast Go.Proofs.YtgagmodkjmegeaaW.PrintMore
attribute [local go_sem] max2_int min2_int max_two min_two max_three min_three max_four min_four
set_option linter.unusedVariables false
set_option linter.unusedSimpArgs false

/-! ### laws_FnExactChanceHit: function 7 -/
def laws_FnExactChanceHit.j0 : Nat → Bool → List (S82) → List (S80) → Option (Bool)
 | 0, _, _, _ => none
 | k + 1, x43, x563000, x575000 => if x43 = true then (some false) else ((laws_toTrie.f k x563000).bind fun t580 => ((laws_eqTrie.f k x575000 t580).bind fun t583 => (if t583 = true then (some true) else (some false))))
def laws_FnExactChanceHit.f (k : Nat) (l0_0 : List (S82)) (a1 : Int) (a2 : Int) : Option (Bool) := (laws_szTrie.f l0_0 1048576).bind fun t563 => (if t563 < 0 then (some true) else ((laws_toTrie.f k l0_0).bind fun t564 => ((spec_ChanceHit.f k t564 a1 a2).bind fun bt567 => ((laws_toTrie.f k l0_0).bind fun t571 => ((impl_ChanceHit.f k t571 a1 a2).bind fun bt575 => ((laws_eqIntA2.f bt575.1 bt575.2.1 bt567.1 bt567.2.1).bind fun t579 => (if t579 = true then (laws_FnExactChanceHit.j0 k (bt575.2.2 != bt567.2.2) l0_0 t571) else (laws_FnExactChanceHit.j0 k true l0_0 t571))))))))
theorem laws_FnExactChanceHit.mono_l : ∀ k, (∀ y0 y1 y2, LeO (laws_FnExactChanceHit.j0 k y0 y1 y2) (laws_FnExactChanceHit.j0 (k + 1) y0 y1 y2))
 | 0 => fun _ _ _ r h => by simp [laws_FnExactChanceHit.j0] at h
 | k + 1 => by
  have ih0 := laws_FnExactChanceHit.mono_l k
  ·
   intro y0 y1 y2
   unfold laws_FnExactChanceHit.j0
   repeat' first
   | (with_reducible exact ih0 _ _ _)
   | (with_reducible exact impl_ChanceHit.mono _ _ _ _)
   | (with_reducible exact laws_eqTrie.mono _ _ _)
   | (with_reducible exact laws_toTrie.mono _ _)
   | (with_reducible exact spec_ChanceHit.mono _ _ _ _)
   | (with_reducible exact LeO.refl _)
   | (with_reducible exact LeO.none _)
   | (with_reducible refine LeO.ite ?_ ?_)
   | (with_reducible refine LeO.bind ?_ (fun _ => ?_))
   | exact ih0 _ _ _
   | exact impl_ChanceHit.mono _ _ _ _
   | exact laws_eqTrie.mono _ _ _
   | exact laws_toTrie.mono _ _
   | exact spec_ChanceHit.mono _ _ _ _
   | exact LeO.none _
   | refine LeO.ite ?_ ?_
   | refine LeO.bind ?_ (fun _ => ?_)
theorem laws_FnExactChanceHit.mono : ∀ a0 a1 a2 k, LeO (laws_FnExactChanceHit.f k a0 a1 a2) (laws_FnExactChanceHit.f (k + 1) a0 a1 a2) := by
 intro a0 a1 a2 k
 have ih0 := laws_FnExactChanceHit.mono_l k
 unfold laws_FnExactChanceHit.f
 repeat' first
   | (with_reducible exact ih0 _ _ _)
   | (with_reducible exact impl_ChanceHit.mono _ _ _ _)
   | (with_reducible exact laws_eqTrie.mono _ _ _)
   | (with_reducible exact laws_toTrie.mono _ _)
   | (with_reducible exact spec_ChanceHit.mono _ _ _ _)
   | (with_reducible exact LeO.refl _)
   | (with_reducible exact LeO.none _)
   | (with_reducible refine LeO.ite ?_ ?_)
   | (with_reducible refine LeO.bind ?_ (fun _ => ?_))
   | exact ih0 _ _ _
   | exact impl_ChanceHit.mono _ _ _ _
   | exact laws_eqTrie.mono _ _ _
   | exact laws_toTrie.mono _ _
   | exact spec_ChanceHit.mono _ _ _ _
   | exact LeO.none _
   | refine LeO.ite ?_ ?_
   | refine LeO.bind ?_ (fun _ => ?_)
set_option maxHeartbeats 8000000 in
set_option maxRecDepth 100000 in
theorem laws_FnExactChanceHit.calls (k : Nat) (A0_0 : Option Addr) (c0_0 : Nat) (l0_0 : List (S82)) (a1 : Int) (a2 : Int) (r : Bool) (w : World) (hr0_0 : Kd.C k82 w A0_0 l0_0.length l0_0) (hc0_0 : l0_0.length ≤ c0_0) (h : laws_FnExactChanceHit.f k l0_0 a1 a2 = some r) :
  Calls Try.prog 7 #[.agg #[.slice A0_0 l0_0.length c0_0], .int .i64 a1, .int .i64 a2] w fun e w' => e = .returned (.bool r) ∧ Below w.heap.size w w' := by
 have hu24 := Try.underlying24
 have hu26 := Try.underlying26
 have hu31 := Try.underlying31
 have HR0_0 := Aside0.mk hr0_0
 have HC0_0 := Aside0.mk hc0_0
 clear hr0_0 hc0_0
 have HB := Aside0.mk (Below.refl w.heap.size w)
 have H : ((laws_szTrie.f l0_0 1048576).bind fun t563 => (if t563 < 0 then (some true) else ((laws_toTrie.f k l0_0).bind fun t564 => ((spec_ChanceHit.f k t564 a1 a2).bind fun bt567 => ((laws_toTrie.f k l0_0).bind fun t571 => ((impl_ChanceHit.f k t571 a1 a2).bind fun bt575 => ((laws_eqIntA2.f bt575.1 bt575.2.1 bt567.1 bt567.2.1).bind fun t579 => (if t579 = true then (laws_FnExactChanceHit.j0 k (bt575.2.2 != bt567.2.2) l0_0 t571) else (laws_FnExactChanceHit.j0 k true l0_0 t571))))))))) = some r := h
 clear h
 replace H := Option.bind_eq_some_iff.mp H
 obtain ⟨t563, A40, H⟩ := H
 replace H : (if t563 < 0 then (some true) else ((laws_toTrie.f k l0_0).bind fun t564 => ((spec_ChanceHit.f k t564 a1 a2).bind fun bt567 => ((laws_toTrie.f k l0_0).bind fun t571 => ((impl_ChanceHit.f k t571 a1 a2).bind fun bt575 => ((laws_eqIntA2.f bt575.1 bt575.2.1 bt567.1 bt567.2.1).bind fun t579 => (if t579 = true then (laws_FnExactChanceHit.j0 k (bt575.2.2 != bt567.2.2) l0_0 t571) else (laws_FnExactChanceHit.j0 k true l0_0 t571)))))))) = some r := H
 have A4 := Aside0.mk A40
 clear A40
 by_cases c5 : t563 < 0
 ·
  rw [if_pos c5] at H
  have c5b0 : decide (t563 < 0) = true := decide_eq_true c5
  clear c5
  obtain rfl := Option.some.inj H
  go_enter Try.func7, Try.ntmps7
  go_wp2_with (first | ((with_reducible refine gate_dst (N := 3) rfl ?_); refine box_event ?hg (N := 3) ?hd (cs := #[.slice A0_0 l0_0.length c0_0]) (t := 24) ?hr ?_; (case hd => rfl); (case hg => rfl); (case hr => first | (go_simp; done) | (go_simp; rfl)); intro gb562 hg w6 hbox hb; have n0_ := Aside0.mk (below_step (by repeat (first | (with_reducible first | exact HB.out | apply below_alloc | apply pw_below_drewN | apply below_drew1) | exact HB.out)) hb); have n1_ := Aside0.mk (hbox); have n2_ := Aside0.mk ((by rw [hg]; exact (below_size (by repeat (first | (with_reducible first | exact HB.out | apply below_alloc | apply pw_below_drewN | apply below_drew1) | exact HB.out))) : w.heap.size ≤ gb562)); have n3_ := Aside0.mk ((by rw [hg]; exact (below_size (by repeat (first | (with_reducible first | exact HB.out | apply below_alloc | apply pw_below_drewN | apply below_drew1) | exact HB.out))) : w.heap.size ≤ gb562)); clear HB; have HB := n0_; have BK562 := n1_; have GW562 := n2_; have GE562 := n3_; clear n0_ n1_ n2_ n3_; clear hb hbox hg; have hcz7_0 : w6.cell? ⟨gb562, 0, none⟩ = some (.slice A0_0 l0_0.length c0_0) := (blk_cell BK562.out 0).trans rfl; have hfz7_0 := blk_frozen BK562.out 0) | ((with_reducible refine gate_callee (f := 13) rfl ?_); refine goesL_ (some 15) rfl rfl Try.func13 (by kernel_rfl) rfl #[.agg #[.slice A0_0 l0_0.length c0_0], .int .i64 1048576] rfl (by (try simp only [List.map_toArray, List.map_cons, List.map_nil]); first | done | rfl | (simp only [List.length_drop, List.length_take]; rfl)) ?_; (with_reducible refine (laws_szTrie.calls _ _ l0_0 1048576 t563 _ ?side1 ?side2 A4.out).mono ?_); (case side1 => repeat (first | exact (Kd.C_below HR0_0.out HB.out) | (with_reducible refine Kd.C_alloc ?_ _) | (with_reducible refine Kd.C_drewN ?_ _) | (with_reducible refine Kd.C_drew ?_))); (case side2 => exact HC0_0.out); rintro e w8 ⟨rfl, hb⟩; refine ⟨_, rfl, ?_⟩; have n0_ := Aside0.mk (blk_below (g := gb562) (o := .cells #[.slice A0_0 l0_0.length c0_0] 24 (0, 0)) (by (with_reducible repeat (first | refine blk_drewN ?_ _ | refine blk_drew ?_ | refine blk_alloc ?_ _)); exact BK562.out) hb); have n1_ := Aside0.mk (below_step (by repeat (first | (with_reducible first | exact HB.out | apply below_alloc | apply pw_below_drewN | apply below_drew1 | refine below_set ?_ GE562.out) | exact HB.out)) hb); clear BK562; clear HB; have BK562 := n0_; have HB := n1_; clear n0_ n1_; (try clear hb); (try clear hb2); (try clear hk); (try clear hi)))
  go_ret
  exact ⟨by first | rfl | (simp [errW_none, errW_some] <;> rfl) | (simp [*, errW_none, errW_some] <;> rfl), by repeat (first | (with_reducible first | exact HB.out | apply below_alloc | apply pw_below_drewN | apply below_drew1 | refine below_set ?_ GE562.out) | exact HB.out)⟩
 ·
  rw [if_neg c5] at H
  have c5b0 : decide (t563 < 0) = false := decide_eq_false c5
  clear c5
  replace H := Option.bind_eq_some_iff.mp H
  obtain ⟨t564, A90, H⟩ := H
  replace H : ((spec_ChanceHit.f k t564 a1 a2).bind fun bt567 => ((laws_toTrie.f k l0_0).bind fun t571 => ((impl_ChanceHit.f k t571 a1 a2).bind fun bt575 => ((laws_eqIntA2.f bt575.1 bt575.2.1 bt567.1 bt567.2.1).bind fun t579 => (if t579 = true then (laws_FnExactChanceHit.j0 k (bt575.2.2 != bt567.2.2) l0_0 t571) else (laws_FnExactChanceHit.j0 k true l0_0 t571)))))) = some r := H
  have A9 := Aside0.mk A90
  clear A90
  replace H := Option.bind_eq_some_iff.mp H
  obtain ⟨⟨t567, t568, t569⟩, A100, H⟩ := H
  replace H : ((laws_toTrie.f k l0_0).bind fun t571 => ((impl_ChanceHit.f k t571 a1 a2).bind fun bt575 => ((laws_eqIntA2.f bt575.1 bt575.2.1 t567 t568).bind fun t579 => (if t579 = true then (laws_FnExactChanceHit.j0 k (bt575.2.2 != t569) l0_0 t571) else (laws_FnExactChanceHit.j0 k true l0_0 t571))))) = some r := H
  have A10 := Aside0.mk A100
  clear A100
  replace H := Option.bind_eq_some_iff.mp H
  obtain ⟨t571, A110, H⟩ := H
  replace H : ((impl_ChanceHit.f k t571 a1 a2).bind fun bt575 => ((laws_eqIntA2.f bt575.1 bt575.2.1 t567 t568).bind fun t579 => (if t579 = true then (laws_FnExactChanceHit.j0 k (bt575.2.2 != t569) l0_0 t571) else (laws_FnExactChanceHit.j0 k true l0_0 t571)))) = some r := H
  have A11 := Aside0.mk A110
  clear A110
  replace H := Option.bind_eq_some_iff.mp H
  obtain ⟨⟨t575, t576, t577⟩, A120, H⟩ := H
  replace H : ((laws_eqIntA2.f t575 t576 t567 t568).bind fun t579 => (if t579 = true then (laws_FnExactChanceHit.j0 k (t577 != t569) l0_0 t571) else (laws_FnExactChanceHit.j0 k true l0_0 t571))) = some r := H
  have A12 := Aside0.mk A120
  clear A120
  have HC13 := Aside0.mk H
  clear H
  go_enter Try.func7, Try.ntmps7
  go_upto_region 8 with (first | ((with_reducible refine gate_dst (N := 3) rfl ?_); refine box_event ?hg (N := 3) ?hd (cs := #[.slice A0_0 l0_0.length c0_0]) (t := 24) ?hr ?_; (case hd => rfl); (case hg => rfl); (case hr => first | (go_simp; done) | (go_simp; rfl)); intro gb562 hg w14 hbox hb; have n0_ := Aside0.mk (below_step (by repeat (first | (with_reducible first | exact HB.out | apply below_alloc | apply pw_below_drewN | apply below_drew1) | exact HB.out)) hb); have n1_ := Aside0.mk (hbox); have n2_ := Aside0.mk ((by rw [hg]; exact (below_size (by repeat (first | (with_reducible first | exact HB.out | apply below_alloc | apply pw_below_drewN | apply below_drew1) | exact HB.out))) : w.heap.size ≤ gb562)); have n3_ := Aside0.mk ((by rw [hg]; exact (below_size (by repeat (first | (with_reducible first | exact HB.out | apply below_alloc | apply pw_below_drewN | apply below_drew1) | exact HB.out))) : w.heap.size ≤ gb562)); clear HB; have HB := n0_; have BK562 := n1_; have GW562 := n2_; have GE562 := n3_; clear n0_ n1_ n2_ n3_; clear hb hbox hg; have hcz15_0 : w14.cell? ⟨gb562, 0, none⟩ = some (.slice A0_0 l0_0.length c0_0) := (blk_cell BK562.out 0).trans rfl; have hfz15_0 := blk_frozen BK562.out 0) | ((with_reducible refine gate_callee (f := 13) rfl ?_); refine goesL_ (some 15) rfl rfl Try.func13 (by kernel_rfl) rfl #[.agg #[.slice A0_0 l0_0.length c0_0], .int .i64 1048576] rfl (by (try simp only [List.map_toArray, List.map_cons, List.map_nil]); first | done | rfl | (simp only [List.length_drop, List.length_take]; rfl)) ?_; (with_reducible refine (laws_szTrie.calls _ _ l0_0 1048576 t563 _ ?side1 ?side2 A4.out).mono ?_); (case side1 => repeat (first | exact (Kd.C_below HR0_0.out HB.out) | (with_reducible refine Kd.C_alloc ?_ _) | (with_reducible refine Kd.C_drewN ?_ _) | (with_reducible refine Kd.C_drew ?_))); (case side2 => exact HC0_0.out); rintro e w16 ⟨rfl, hb⟩; refine ⟨_, rfl, ?_⟩; have n0_ := Aside0.mk (blk_below (g := gb562) (o := .cells #[.slice A0_0 l0_0.length c0_0] 24 (0, 0)) (by (with_reducible repeat (first | refine blk_drewN ?_ _ | refine blk_drew ?_ | refine blk_alloc ?_ _)); exact BK562.out) hb); have n1_ := Aside0.mk (below_step (by repeat (first | (with_reducible first | exact HB.out | apply below_alloc | apply pw_below_drewN | apply below_drew1 | refine below_set ?_ GE562.out) | exact HB.out)) hb); clear BK562; clear HB; have BK562 := n0_; have HB := n1_; clear n0_ n1_; (try clear hb); (try clear hb2); (try clear hk); (try clear hi); have hcz17_0 : w16.cell? ⟨gb562, 0, none⟩ = some (.slice A0_0 l0_0.length c0_0) := (blk_cell BK562.out 0).trans rfl; have hfz17_0 := blk_frozen BK562.out 0) | ((with_reducible refine gate_callee (f := 15) rfl ?_); refine goesL_ (some 20) rfl rfl Try.func15 (by kernel_rfl) rfl #[.agg #[.slice A0_0 l0_0.length c0_0]] rfl (by (try simp only [List.map_toArray, List.map_cons, List.map_nil]); first | done | rfl | (simp only [List.length_drop, List.length_take]; rfl)) ?_; (with_reducible refine (laws_toTrie.calls k _ _ l0_0 t564 _ ?side1 ?side2 A9.out).mono ?_); (case side1 => repeat (first | exact (Kd.C_below HR0_0.out HB.out) | (with_reducible refine Kd.C_alloc ?_ _) | (with_reducible refine Kd.C_drewN ?_ _) | (with_reducible refine Kd.C_drew ?_))); (case side2 => exact HC0_0.out); rintro e w18 ⟨v565, rfl, ho0, hb⟩; refine ⟨_, rfl, ?_⟩; have n0_ := Aside0.mk (Kd.R_lower ho0 (below_size (by repeat (first | (with_reducible first | exact HB.out | apply below_alloc | apply pw_below_drewN | apply below_drew1 | refine below_set ?_ GE562.out) | exact HB.out)))); have n1_ := Aside0.mk (blk_below (g := gb562) (o := .cells #[.slice A0_0 l0_0.length c0_0] 24 (0, 0)) (by (with_reducible repeat (first | refine blk_drewN ?_ _ | refine blk_drew ?_ | refine blk_alloc ?_ _)); exact BK562.out) hb); have n2_ := Aside0.mk (below_step (by repeat (first | (with_reducible first | exact HB.out | apply below_alloc | apply pw_below_drewN | apply below_drew1 | refine below_set ?_ GE562.out) | exact HB.out)) hb); clear BK562; clear HB; have HO566 := n0_; have BK562 := n1_; have HB := n2_; clear n0_ n1_ n2_; (try clear hb); (try clear hb2); (try clear hk); (try clear hi); (try clear ho0); obtain ⟨Ao19, co19, eo19⟩ := Kd.R_slice HO566.out; subst eo19) | ((with_reducible refine gate_callee (f := 25) rfl ?_); refine goesL_ (some 23) rfl rfl Try.func25 (by kernel_rfl) rfl #[.agg #[.slice Ao19 t564.length co19], .int .i64 a1, .int .i64 a2] rfl (by (try simp only [List.map_toArray, List.map_cons, List.map_nil]); first | done | rfl | (simp only [List.length_drop, List.length_take]; rfl)) ?_; (with_reducible refine (spec_ChanceHit.calls k _ _ t564 a1 a2 t567 t568 t569 _ ?side1 ?side2 A10.out).mono ?_); (case side1 => repeat (first | exact (Kd.R_reads' HO566.out).2.2 | (with_reducible refine Kd.C_alloc ?_ _) | (with_reducible refine Kd.C_drewN ?_ _) | (with_reducible refine Kd.C_drew ?_))); (case side2 => exact (Kd.R_reads' HO566.out).2.1); rintro e w20 ⟨rfl, hb⟩; refine ⟨_, rfl, ?_⟩; have n0_ := Aside0.mk (Kd.R_below (by (with_reducible repeat (first | apply Kd.R_alloc | apply Kd.R_drewN | apply Kd.R_drew)); exact HO566.out) hb); have n1_ := Aside0.mk (blk_below (g := gb562) (o := .cells #[.slice A0_0 l0_0.length c0_0] 24 (0, 0)) (by (with_reducible repeat (first | refine blk_drewN ?_ _ | refine blk_drew ?_ | refine blk_alloc ?_ _)); exact BK562.out) hb); have n2_ := Aside0.mk (below_step (by repeat (first | (with_reducible first | exact HB.out | apply below_alloc | apply pw_below_drewN | apply below_drew1 | refine below_set ?_ GE562.out) | exact HB.out)) hb); clear HO566; clear BK562; clear HB; have HO566 := n0_; have BK562 := n1_; have HB := n2_; clear n0_ n1_ n2_; (try clear hb); (try clear hb2); (try clear hk); (try clear hi)) | ((with_reducible refine gate_dst (N := 8) rfl ?_); refine box_event ?hg (N := 8) ?hd (cs := #[.int .i64 0, .int .i64 0]) (t := 26) ?hr ?_; (case hd => rfl); (case hg => rfl); (case hr => first | (go_simp; done) | (go_simp; rfl)); intro gb570 hg w21 hbox hb; have n0_ := Aside0.mk (Kd.R_below (by (with_reducible repeat (first | apply Kd.R_alloc | apply Kd.R_drewN | apply Kd.R_drew)); exact HO566.out) hb); have n1_ := Aside0.mk (blk_below (g := gb562) (o := .cells #[.slice A0_0 l0_0.length c0_0] 24 (0, 0)) (by (with_reducible repeat (first | refine blk_drewN ?_ _ | refine blk_drew ?_ | refine blk_alloc ?_ _)); exact BK562.out) hb); have n2_ := Aside0.mk (below_step (by repeat (first | (with_reducible first | exact HB.out | apply below_alloc | apply pw_below_drewN | apply below_drew1 | refine below_set ?_ GE562.out) | exact HB.out)) hb); have n3_ := Aside0.mk (hbox); have n4_ := Aside0.mk ((by rw [hg]; exact (below_size (by repeat (first | (with_reducible first | exact HB.out | apply below_alloc | apply pw_below_drewN | apply below_drew1 | refine below_set ?_ GE562.out) | exact HB.out))) : w.heap.size ≤ gb570)); have n5_ := Aside0.mk ((by rw [hg]; exact (below_size (by repeat (first | (with_reducible first | exact HB.out | apply below_alloc | apply pw_below_drewN | apply below_drew1 | refine below_set ?_ GE562.out) | exact HB.out))) : w.heap.size ≤ gb570)); have n6_ := Aside0.mk ((by rw [hg]; exact Nat.ne_of_lt (blk_lt (g := gb562) (o := .cells #[.slice A0_0 l0_0.length c0_0] 24 (0, 0)) (by (with_reducible repeat (first | refine blk_drewN ?_ _ | refine blk_drew ?_ | refine blk_alloc ?_ _)); exact BK562.out)) : gb562 ≠ gb570)); have n7_ := Aside0.mk ((by rw [hg]; exact Nat.ne_of_gt (blk_lt (g := gb562) (o := .cells #[.slice A0_0 l0_0.length c0_0] 24 (0, 0)) (by (with_reducible repeat (first | refine blk_drewN ?_ _ | refine blk_drew ?_ | refine blk_alloc ?_ _)); exact BK562.out)) : gb570 ≠ gb562)); clear HO566; clear BK562; clear HB; have HO566 := n0_; have BK562 := n1_; have HB := n2_; have BK570 := n3_; have GW570 := n4_; have GE570 := n5_; have NB562_570 := n6_; have NB570_562 := n7_; clear n0_ n1_ n2_ n3_ n4_ n5_ n6_ n7_; clear hb hbox hg; have hnb22 := NB570_562.out; have hnc22 := NB562_570.out; have hcz23_0 : w21.cell? ⟨gb570, 0, none⟩ = some (.int .i64 0) := (blk_cell BK570.out 0).trans rfl; have hcz23_1 : w21.cell? ⟨gb570, 1, none⟩ = some (.int .i64 0) := (blk_cell BK570.out 1).trans rfl; have hfz23_0 := blk_frozen BK570.out 0; have hfz23_1 := blk_frozen BK570.out 1; have hcz24_0 : w21.cell? ⟨gb562, 0, none⟩ = some (.slice A0_0 l0_0.length c0_0) := (blk_cell BK562.out 0).trans rfl; have hfz24_0 := blk_frozen BK562.out 0) | ((with_reducible refine gate_callee (f := 15) rfl ?_); refine goesL_ (some 27) rfl rfl Try.func15 (by kernel_rfl) rfl #[.agg #[.slice A0_0 l0_0.length c0_0]] rfl (by (try simp only [List.map_toArray, List.map_cons, List.map_nil]); first | done | rfl | (simp only [List.length_drop, List.length_take]; rfl)) ?_; (with_reducible refine (laws_toTrie.calls k _ _ l0_0 t571 _ ?side1 ?side2 A11.out).mono ?_); (case side1 => exact Kd.C_below HR0_0.out (by repeat (first | (with_reducible first | exact HB.out | apply below_alloc | apply pw_below_drewN | apply below_drew1 | refine below_set ?_ GE562.out | refine below_set ?_ GE570.out) | exact HB.out))); (case side2 => exact HC0_0.out); rintro e w25 ⟨v572, rfl, ho0, hb⟩; refine ⟨_, rfl, ?_⟩; have n0_ := Aside0.mk (Kd.R_elder' (by (with_reducible repeat (first | apply Kd.R_alloc | apply Kd.R_drewN | apply Kd.R_drew)); exact (Kd.R_mono (Kd.R_far (p := ⟨gb570, 1, none⟩) (Kd.R_far (p := ⟨gb570, 0, none⟩) (Kd.R_types HO566.out BK570.out (by decide)) (fun _ hk => hk.2) (.int .i64 t567)) (fun _ hk => hk.2) (.int .i64 t568)) (fun _ h_ => h_.1))) (Kd.R_base ho0) hb); have n1_ := Aside0.mk (Kd.R_lower (Kd.R_new' ho0 (Kd.R_lt (by (with_reducible repeat (first | apply Kd.R_alloc | apply Kd.R_drewN | apply Kd.R_drew)); exact (Kd.R_mono (Kd.R_far (p := ⟨gb570, 1, none⟩) (Kd.R_far (p := ⟨gb570, 0, none⟩) (Kd.R_types HO566.out BK570.out (by decide)) (fun _ hk => hk.2) (.int .i64 t567)) (fun _ hk => hk.2) (.int .i64 t568)) (fun _ h_ => h_.1))))) (below_size (by repeat (first | (with_reducible first | exact HB.out | apply below_alloc | apply pw_below_drewN | apply below_drew1 | refine below_set ?_ GE562.out | refine below_set ?_ GE570.out) | exact HB.out)))); have n2_ := Aside0.mk (blk_below (g := gb562) (o := .cells #[.slice A0_0 l0_0.length c0_0] 24 (0, 0)) (by (with_reducible repeat (first | refine blk_drewN ?_ _ | refine blk_drew ?_ | refine blk_alloc ?_ _)); refine blk_far ?_ NB562_570.out _; (with_reducible repeat (first | refine blk_drewN ?_ _ | refine blk_drew ?_ | refine blk_alloc ?_ _)); refine blk_far ?_ NB562_570.out _; (with_reducible repeat (first | refine blk_drewN ?_ _ | refine blk_drew ?_ | refine blk_alloc ?_ _)); exact BK562.out) hb); have n3_ := Aside0.mk (blk_below (g := gb570) (o := .cells #[.int .i64 t567, .int .i64 t568] 26 (0, 0)) (by (with_reducible repeat (first | refine blk_drewN ?_ _ | refine blk_drew ?_ | refine blk_alloc ?_ _)); refine blk_put (cs := #[.int .i64 t567, .int .i64 0]) ?_ 1 _ rfl; (with_reducible repeat (first | refine blk_drewN ?_ _ | refine blk_drew ?_ | refine blk_alloc ?_ _)); refine blk_put (cs := #[.int .i64 0, .int .i64 0]) ?_ 0 _ rfl; (with_reducible repeat (first | refine blk_drewN ?_ _ | refine blk_drew ?_ | refine blk_alloc ?_ _)); exact BK570.out) hb); have n4_ := Aside0.mk (below_step (by repeat (first | (with_reducible first | exact HB.out | apply below_alloc | apply pw_below_drewN | apply below_drew1 | refine below_set ?_ GE562.out | refine below_set ?_ GE570.out) | exact HB.out)) hb); clear HO566; clear BK562; clear BK570; clear HB; have HO566 := n0_; have HO573 := n1_; have BK562 := n2_; have BK570 := n3_; have HB := n4_; clear n0_ n1_ n2_ n3_ n4_; (try clear hb); (try clear hb2); (try clear hk); (try clear hi); (try clear ho0)) | ((with_reducible refine gate_dst (N := 10) rfl ?_); refine box_event ?hg (N := 10) ?hd (cs := #[.slice none 0 0]) (t := 31) ?hr ?_; (case hd => rfl); (case hg => rfl); (case hr => first | (go_simp; done) | (go_simp; rfl)); intro gb574 hg w26 hbox hb; have n0_ := Aside0.mk (Kd.R_below (by (with_reducible repeat (first | apply Kd.R_alloc | apply Kd.R_drewN | apply Kd.R_drew)); exact HO566.out) hb); have n1_ := Aside0.mk (Kd.R_below (by (with_reducible repeat (first | apply Kd.R_alloc | apply Kd.R_drewN | apply Kd.R_drew)); exact HO573.out) hb); have n2_ := Aside0.mk (blk_below (g := gb562) (o := .cells #[.slice A0_0 l0_0.length c0_0] 24 (0, 0)) (by (with_reducible repeat (first | refine blk_drewN ?_ _ | refine blk_drew ?_ | refine blk_alloc ?_ _)); exact BK562.out) hb); have n3_ := Aside0.mk (blk_below (g := gb570) (o := .cells #[.int .i64 t567, .int .i64 t568] 26 (0, 0)) (by (with_reducible repeat (first | refine blk_drewN ?_ _ | refine blk_drew ?_ | refine blk_alloc ?_ _)); exact BK570.out) hb); have n4_ := Aside0.mk (below_step (by repeat (first | (with_reducible first | exact HB.out | apply below_alloc | apply pw_below_drewN | apply below_drew1 | refine below_set ?_ GE562.out | refine below_set ?_ GE570.out) | exact HB.out)) hb); have n5_ := Aside0.mk (hbox); have n6_ := Aside0.mk ((by rw [hg]; exact (below_size (by repeat (first | (with_reducible first | exact HB.out | apply below_alloc | apply pw_below_drewN | apply below_drew1 | refine below_set ?_ GE562.out | refine below_set ?_ GE570.out) | exact HB.out))) : w.heap.size ≤ gb574)); have n7_ := Aside0.mk ((by rw [hg]; exact (below_size (by repeat (first | (with_reducible first | exact HB.out | apply below_alloc | apply pw_below_drewN | apply below_drew1 | refine below_set ?_ GE562.out | refine below_set ?_ GE570.out) | exact HB.out))) : w.heap.size ≤ gb574)); have n8_ := Aside0.mk ((by rw [hg]; exact Nat.ne_of_lt (blk_lt (g := gb562) (o := .cells #[.slice A0_0 l0_0.length c0_0] 24 (0, 0)) (by (with_reducible repeat (first | refine blk_drewN ?_ _ | refine blk_drew ?_ | refine blk_alloc ?_ _)); exact BK562.out)) : gb562 ≠ gb574)); have n9_ := Aside0.mk ((by rw [hg]; exact Nat.ne_of_gt (blk_lt (g := gb562) (o := .cells #[.slice A0_0 l0_0.length c0_0] 24 (0, 0)) (by (with_reducible repeat (first | refine blk_drewN ?_ _ | refine blk_drew ?_ | refine blk_alloc ?_ _)); exact BK562.out)) : gb574 ≠ gb562)); have n10_ := Aside0.mk ((by rw [hg]; exact Nat.ne_of_lt (blk_lt (g := gb570) (o := .cells #[.int .i64 t567, .int .i64 t568] 26 (0, 0)) (by (with_reducible repeat (first | refine blk_drewN ?_ _ | refine blk_drew ?_ | refine blk_alloc ?_ _)); exact BK570.out)) : gb570 ≠ gb574)); have n11_ := Aside0.mk ((by rw [hg]; exact Nat.ne_of_gt (blk_lt (g := gb570) (o := .cells #[.int .i64 t567, .int .i64 t568] 26 (0, 0)) (by (with_reducible repeat (first | refine blk_drewN ?_ _ | refine blk_drew ?_ | refine blk_alloc ?_ _)); exact BK570.out)) : gb574 ≠ gb570)); clear HO566; clear HO573; clear BK562; clear BK570; clear HB; have HO566 := n0_; have HO573 := n1_; have BK562 := n2_; have BK570 := n3_; have HB := n4_; have BK574 := n5_; have GW574 := n6_; have GE574 := n7_; have NB562_574 := n8_; have NB574_562 := n9_; have NB570_574 := n10_; have NB574_570 := n11_; clear n0_ n1_ n2_ n3_ n4_ n5_ n6_ n7_ n8_ n9_ n10_ n11_; clear hb hbox hg; obtain ⟨Ao27, co27, eo27⟩ := Kd.R_slice HO573.out; subst eo27; have hnb28 := NB574_562.out; have hnc28 := NB562_574.out; have hnb29 := NB574_570.out; have hnc29 := NB570_574.out; have hcz30_0 : w26.cell? ⟨gb574, 0, none⟩ = some (.slice none 0 0) := (blk_cell BK574.out 0).trans rfl; have hfz30_0 := blk_frozen BK574.out 0) | ((with_reducible refine gate_callee (f := 26) rfl ?_); refine goesL_ (some 32) rfl rfl Try.func26 (by kernel_rfl) rfl #[.agg #[.slice Ao27 t571.length co27], .int .i64 a1, .int .i64 a2] rfl (by (try simp only [List.map_toArray, List.map_cons, List.map_nil]); first | done | rfl | (simp only [List.length_drop, List.length_take]; rfl)) ?_; (with_reducible refine (impl_ChanceHit.calls k _ _ t571 a1 a2 t575 t576 t577 _ ?side1 ?side2 A12.out).mono ?_); (case side1 => refine (Kd.R_reads' (e := 80) (base := w.heap.size) (ok := fun k_ => (True ∧ some k_ ≠ (.slice Ao19 t564.length co19 : Value).ownBlock)) (n := t571.length) (c := co27) ?_).2.2; exact (by (with_reducible repeat (first | apply Kd.R_alloc | apply Kd.R_drewN | apply Kd.R_drew)); exact (Kd.R_mono (Kd.R_far (p := ⟨gb574, 0, none⟩) (Kd.R_types HO573.out BK574.out (by decide)) (fun _ hk => hk.2) (.slice Ao27 t571.length co27)) (fun _ h_ => h_.1)))); (case side2 => exact (Kd.R_reads' HO573.out).2.1); rintro e w31 ⟨rfl, hb⟩; refine ⟨_, rfl, ?_⟩; have n0_ := Aside0.mk (Kd.R_below (by (with_reducible repeat (first | apply Kd.R_alloc | apply Kd.R_drewN | apply Kd.R_drew)); exact (Kd.R_mono (Kd.R_far (p := ⟨gb574, 0, none⟩) (Kd.R_types HO566.out BK574.out (by decide)) (fun _ hk => hk.2) (.slice Ao27 t571.length co27)) (fun _ h_ => h_.1))) hb); have n1_ := Aside0.mk (Kd.R_below (by (with_reducible repeat (first | apply Kd.R_alloc | apply Kd.R_drewN | apply Kd.R_drew)); exact (Kd.R_mono (Kd.R_far (p := ⟨gb574, 0, none⟩) (Kd.R_types HO573.out BK574.out (by decide)) (fun _ hk => hk.2) (.slice Ao27 t571.length co27)) (fun _ h_ => h_.1))) hb); have n2_ := Aside0.mk (blk_below (g := gb562) (o := .cells #[.slice A0_0 l0_0.length c0_0] 24 (0, 0)) (by (with_reducible repeat (first | refine blk_drewN ?_ _ | refine blk_drew ?_ | refine blk_alloc ?_ _)); refine blk_far ?_ NB562_574.out _; (with_reducible repeat (first | refine blk_drewN ?_ _ | refine blk_drew ?_ | refine blk_alloc ?_ _)); exact BK562.out) hb); have n3_ := Aside0.mk (blk_below (g := gb570) (o := .cells #[.int .i64 t567, .int .i64 t568] 26 (0, 0)) (by (with_reducible repeat (first | refine blk_drewN ?_ _ | refine blk_drew ?_ | refine blk_alloc ?_ _)); refine blk_far ?_ NB570_574.out _; (with_reducible repeat (first | refine blk_drewN ?_ _ | refine blk_drew ?_ | refine blk_alloc ?_ _)); exact BK570.out) hb); have n4_ := Aside0.mk (blk_below (g := gb574) (o := .cells #[.slice Ao27 t571.length co27] 31 (0, 0)) (by (with_reducible repeat (first | refine blk_drewN ?_ _ | refine blk_drew ?_ | refine blk_alloc ?_ _)); refine blk_put (cs := #[.slice none 0 0]) ?_ 0 _ rfl; (with_reducible repeat (first | refine blk_drewN ?_ _ | refine blk_drew ?_ | refine blk_alloc ?_ _)); exact BK574.out) hb); have n5_ := Aside0.mk (below_step (by repeat (first | (with_reducible first | exact HB.out | apply below_alloc | apply pw_below_drewN | apply below_drew1 | refine below_set ?_ GE562.out | refine below_set ?_ GE570.out | refine below_set ?_ GE574.out) | exact HB.out)) hb); clear HO566; clear HO573; clear BK562; clear BK570; clear BK574; clear HB; have HO566 := n0_; have HO573 := n1_; have BK562 := n2_; have BK570 := n3_; have BK574 := n4_; have HB := n5_; clear n0_ n1_ n2_ n3_ n4_ n5_; (try clear hb); (try clear hb2); (try clear hk); (try clear hi)) | ((with_reducible refine gate_dst (N := 11) rfl ?_); refine box_event ?hg (N := 11) ?hd (cs := #[.int .i64 0, .int .i64 0]) (t := 26) ?hr ?_; (case hd => rfl); (case hg => rfl); (case hr => first | (go_simp; done) | (go_simp; rfl)); intro gb578 hg w32 hbox hb; have n0_ := Aside0.mk (Kd.R_below (by (with_reducible repeat (first | apply Kd.R_alloc | apply Kd.R_drewN | apply Kd.R_drew)); exact HO566.out) hb); have n1_ := Aside0.mk (Kd.R_below (by (with_reducible repeat (first | apply Kd.R_alloc | apply Kd.R_drewN | apply Kd.R_drew)); exact HO573.out) hb); have n2_ := Aside0.mk (blk_below (g := gb562) (o := .cells #[.slice A0_0 l0_0.length c0_0] 24 (0, 0)) (by (with_reducible repeat (first | refine blk_drewN ?_ _ | refine blk_drew ?_ | refine blk_alloc ?_ _)); exact BK562.out) hb); have n3_ := Aside0.mk (blk_below (g := gb570) (o := .cells #[.int .i64 t567, .int .i64 t568] 26 (0, 0)) (by (with_reducible repeat (first | refine blk_drewN ?_ _ | refine blk_drew ?_ | refine blk_alloc ?_ _)); exact BK570.out) hb); have n4_ := Aside0.mk (blk_below (g := gb574) (o := .cells #[.slice Ao27 t571.length co27] 31 (0, 0)) (by (with_reducible repeat (first | refine blk_drewN ?_ _ | refine blk_drew ?_ | refine blk_alloc ?_ _)); exact BK574.out) hb); have n5_ := Aside0.mk (below_step (by repeat (first | (with_reducible first | exact HB.out | apply below_alloc | apply pw_below_drewN | apply below_drew1 | refine below_set ?_ GE562.out | refine below_set ?_ GE570.out | refine below_set ?_ GE574.out) | exact HB.out)) hb); have n6_ := Aside0.mk (hbox); have n7_ := Aside0.mk ((by rw [hg]; exact (below_size (by repeat (first | (with_reducible first | exact HB.out | apply below_alloc | apply pw_below_drewN | apply below_drew1 | refine below_set ?_ GE562.out | refine below_set ?_ GE570.out | refine below_set ?_ GE574.out) | exact HB.out))) : w.heap.size ≤ gb578)); have n8_ := Aside0.mk ((by rw [hg]; exact (below_size (by repeat (first | (with_reducible first | exact HB.out | apply below_alloc | apply pw_below_drewN | apply below_drew1 | refine below_set ?_ GE562.out | refine below_set ?_ GE570.out | refine below_set ?_ GE574.out) | exact HB.out))) : w.heap.size ≤ gb578)); have n9_ := Aside0.mk ((by rw [hg]; exact Nat.ne_of_lt (blk_lt (g := gb562) (o := .cells #[.slice A0_0 l0_0.length c0_0] 24 (0, 0)) (by (with_reducible repeat (first | refine blk_drewN ?_ _ | refine blk_drew ?_ | refine blk_alloc ?_ _)); exact BK562.out)) : gb562 ≠ gb578)); have n10_ := Aside0.mk ((by rw [hg]; exact Nat.ne_of_gt (blk_lt (g := gb562) (o := .cells #[.slice A0_0 l0_0.length c0_0] 24 (0, 0)) (by (with_reducible repeat (first | refine blk_drewN ?_ _ | refine blk_drew ?_ | refine blk_alloc ?_ _)); exact BK562.out)) : gb578 ≠ gb562)); have n11_ := Aside0.mk ((by rw [hg]; exact Nat.ne_of_lt (blk_lt (g := gb570) (o := .cells #[.int .i64 t567, .int .i64 t568] 26 (0, 0)) (by (with_reducible repeat (first | refine blk_drewN ?_ _ | refine blk_drew ?_ | refine blk_alloc ?_ _)); exact BK570.out)) : gb570 ≠ gb578)); have n12_ := Aside0.mk ((by rw [hg]; exact Nat.ne_of_gt (blk_lt (g := gb570) (o := .cells #[.int .i64 t567, .int .i64 t568] 26 (0, 0)) (by (with_reducible repeat (first | refine blk_drewN ?_ _ | refine blk_drew ?_ | refine blk_alloc ?_ _)); exact BK570.out)) : gb578 ≠ gb570)); have n13_ := Aside0.mk ((by rw [hg]; exact Nat.ne_of_lt (blk_lt (g := gb574) (o := .cells #[.slice Ao27 t571.length co27] 31 (0, 0)) (by (with_reducible repeat (first | refine blk_drewN ?_ _ | refine blk_drew ?_ | refine blk_alloc ?_ _)); exact BK574.out)) : gb574 ≠ gb578)); have n14_ := Aside0.mk ((by rw [hg]; exact Nat.ne_of_gt (blk_lt (g := gb574) (o := .cells #[.slice Ao27 t571.length co27] 31 (0, 0)) (by (with_reducible repeat (first | refine blk_drewN ?_ _ | refine blk_drew ?_ | refine blk_alloc ?_ _)); exact BK574.out)) : gb578 ≠ gb574)); clear HO566; clear HO573; clear BK562; clear BK570; clear BK574; clear HB; have HO566 := n0_; have HO573 := n1_; have BK562 := n2_; have BK570 := n3_; have BK574 := n4_; have HB := n5_; have BK578 := n6_; have GW578 := n7_; have GE578 := n8_; have NB562_578 := n9_; have NB578_562 := n10_; have NB570_578 := n11_; have NB578_570 := n12_; have NB574_578 := n13_; have NB578_574 := n14_; clear n0_ n1_ n2_ n3_ n4_ n5_ n6_ n7_ n8_ n9_ n10_ n11_ n12_ n13_ n14_; clear hb hbox hg; have hnb33 := NB578_562.out; have hnc33 := NB562_578.out; have hnb34 := NB578_570.out; have hnc34 := NB570_578.out; have hnb35 := NB578_574.out; have hnc35 := NB574_578.out; have hcz36_0 : w32.cell? ⟨gb578, 0, none⟩ = some (.int .i64 0) := (blk_cell BK578.out 0).trans rfl; have hcz36_1 : w32.cell? ⟨gb578, 1, none⟩ = some (.int .i64 0) := (blk_cell BK578.out 1).trans rfl; have hfz36_0 := blk_frozen BK578.out 0; have hfz36_1 := blk_frozen BK578.out 1))
  (try simp only [Act.put, List.setIfInBounds_toArray, List.set_cons_zero, List.set_cons_succ])
  go_cut [43] (fun v43 wc => ∃ (kq : Nat) (x43_12 : Bool), v43 = .bool x43_12 ∧ Aside0 (laws_FnExactChanceHit.j0 kq x43_12 l0_0 t571 = some r) ∧ Aside0 (kq ≤ k) ∧ Aside0 (Kd.R k80 80 wc w.heap.size (fun _ => True) (.slice Ao27 t571.length co27) t571) ∧ Aside0 (wc.heap[gb562]? = some (.cells #[(.slice A0_0 l0_0.length c0_0)] 24 (0, 0))) ∧ Aside0 (wc.heap[gb570]? = some (.cells #[.int .i64 t567, .int .i64 t568] 26 (0, 0))) ∧ Aside0 (wc.heap[gb574]? = some (.cells #[(.slice Ao27 t571.length co27)] 31 (0, 0))) ∧ Aside0 (wc.heap[gb578]? = some (.cells #[.int .i64 t575, .int .i64 t576] 26 (0, 0))) ∧ Aside0 (Below w.heap.size w wc))
  case first =>
   have H := HC13.out
   clear HC13
   replace H := Option.bind_eq_some_iff.mp H
   obtain ⟨t579, A370, H⟩ := H
   replace H : (if t579 = true then (laws_FnExactChanceHit.j0 k (t577 != t569) l0_0 t571) else (laws_FnExactChanceHit.j0 k true l0_0 t571)) = some r := H
   have A37 := Aside0.mk A370
   clear A370
   by_cases c38 : t579 = true
   ·
    subst c38
    have H1 : (laws_FnExactChanceHit.j0 k (t577 != t569) l0_0 t571) = some r := by rw [if_pos rfl] at H; exact H
    clear H
    have H := H1
    clear H1
    have H' := Aside0.mk H
    clear H
    have hnb39 := NB578_562.out
    have hnc39 := NB562_578.out
    have hnb40 := NB578_570.out
    have hnc40 := NB570_578.out
    have hnb41 := NB578_574.out
    have hnc41 := NB574_578.out
    have hcz42_0 : w32.cell? ⟨gb578, 0, none⟩ = some (.int .i64 0) := (blk_cell BK578.out 0).trans rfl
    have hcz42_1 : w32.cell? ⟨gb578, 1, none⟩ = some (.int .i64 0) := (blk_cell BK578.out 1).trans rfl
    have hfz42_0 := blk_frozen BK578.out 0
    have hfz42_1 := blk_frozen BK578.out 1
    have hnb43 := NB570_562.out
    have hnc43 := NB562_570.out
    have hnb44 := NB570_574.out
    have hnc44 := NB574_570.out
    have hcz45_0 : w32.cell? ⟨gb570, 0, none⟩ = some (.int .i64 t567) := (blk_cell BK570.out 0).trans rfl
    have hcz45_1 : w32.cell? ⟨gb570, 1, none⟩ = some (.int .i64 t568) := (blk_cell BK570.out 1).trans rfl
    have hfz45_0 := blk_frozen BK570.out 0
    have hfz45_1 := blk_frozen BK570.out 1
    go_wp2_with (first | ((with_reducible refine gate_callee (f := 17) rfl ?_); refine goesL_ (some 37) rfl rfl Try.func17 (by kernel_rfl) rfl #[.agg #[.int .i64 t575, .int .i64 t576], .agg #[.int .i64 t567, .int .i64 t568]] rfl (by (try simp only [List.map_toArray, List.map_cons, List.map_nil]); first | done | rfl | (simp only [List.length_drop, List.length_take]; rfl)) ?_; (with_reducible refine (laws_eqIntA2.calls t575 t576 t567 t568 true _ A37.out).mono ?_); rintro e w46 ⟨rfl, hb⟩; refine ⟨_, rfl, ?_⟩; have n0_ := Aside0.mk (Kd.R_below (by (with_reducible repeat (first | apply Kd.R_alloc | apply Kd.R_drewN | apply Kd.R_drew)); exact (Kd.R_mono (Kd.R_far (p := ⟨gb578, 1, none⟩) (Kd.R_far (p := ⟨gb578, 0, none⟩) (Kd.R_types HO566.out BK578.out (by decide)) (fun _ hk => hk.2) (.int .i64 t575)) (fun _ hk => hk.2) (.int .i64 t576)) (fun _ h_ => h_.1))) hb); have n1_ := Aside0.mk (Kd.R_below (by (with_reducible repeat (first | apply Kd.R_alloc | apply Kd.R_drewN | apply Kd.R_drew)); exact (Kd.R_mono (Kd.R_far (p := ⟨gb578, 1, none⟩) (Kd.R_far (p := ⟨gb578, 0, none⟩) (Kd.R_types HO573.out BK578.out (by decide)) (fun _ hk => hk.2) (.int .i64 t575)) (fun _ hk => hk.2) (.int .i64 t576)) (fun _ h_ => h_.1))) hb); have n2_ := Aside0.mk (blk_below (g := gb562) (o := .cells #[.slice A0_0 l0_0.length c0_0] 24 (0, 0)) (by (with_reducible repeat (first | refine blk_drewN ?_ _ | refine blk_drew ?_ | refine blk_alloc ?_ _)); refine blk_far ?_ NB562_578.out _; (with_reducible repeat (first | refine blk_drewN ?_ _ | refine blk_drew ?_ | refine blk_alloc ?_ _)); refine blk_far ?_ NB562_578.out _; (with_reducible repeat (first | refine blk_drewN ?_ _ | refine blk_drew ?_ | refine blk_alloc ?_ _)); exact BK562.out) hb); have n3_ := Aside0.mk (blk_below (g := gb570) (o := .cells #[.int .i64 t567, .int .i64 t568] 26 (0, 0)) (by (with_reducible repeat (first | refine blk_drewN ?_ _ | refine blk_drew ?_ | refine blk_alloc ?_ _)); refine blk_far ?_ NB570_578.out _; (with_reducible repeat (first | refine blk_drewN ?_ _ | refine blk_drew ?_ | refine blk_alloc ?_ _)); refine blk_far ?_ NB570_578.out _; (with_reducible repeat (first | refine blk_drewN ?_ _ | refine blk_drew ?_ | refine blk_alloc ?_ _)); exact BK570.out) hb); have n4_ := Aside0.mk (blk_below (g := gb574) (o := .cells #[.slice Ao27 t571.length co27] 31 (0, 0)) (by (with_reducible repeat (first | refine blk_drewN ?_ _ | refine blk_drew ?_ | refine blk_alloc ?_ _)); refine blk_far ?_ NB574_578.out _; (with_reducible repeat (first | refine blk_drewN ?_ _ | refine blk_drew ?_ | refine blk_alloc ?_ _)); refine blk_far ?_ NB574_578.out _; (with_reducible repeat (first | refine blk_drewN ?_ _ | refine blk_drew ?_ | refine blk_alloc ?_ _)); exact BK574.out) hb); have n5_ := Aside0.mk (blk_below (g := gb578) (o := .cells #[.int .i64 t575, .int .i64 t576] 26 (0, 0)) (by (with_reducible repeat (first | refine blk_drewN ?_ _ | refine blk_drew ?_ | refine blk_alloc ?_ _)); refine blk_put (cs := #[.int .i64 t575, .int .i64 0]) ?_ 1 _ rfl; (with_reducible repeat (first | refine blk_drewN ?_ _ | refine blk_drew ?_ | refine blk_alloc ?_ _)); refine blk_put (cs := #[.int .i64 0, .int .i64 0]) ?_ 0 _ rfl; (with_reducible repeat (first | refine blk_drewN ?_ _ | refine blk_drew ?_ | refine blk_alloc ?_ _)); exact BK578.out) hb); have n6_ := Aside0.mk (below_step (by repeat (first | (with_reducible first | exact HB.out | apply below_alloc | apply pw_below_drewN | apply below_drew1 | refine below_set ?_ GE562.out | refine below_set ?_ GE570.out | refine below_set ?_ GE574.out | refine below_set ?_ GE578.out) | exact HB.out)) hb); clear HO566; clear HO573; clear BK562; clear BK570; clear BK574; clear BK578; clear HB; have HO566 := n0_; have HO573 := n1_; have BK562 := n2_; have BK570 := n3_; have BK574 := n4_; have BK578 := n5_; have HB := n6_; clear n0_ n1_ n2_ n3_ n4_ n5_ n6_; (try clear hb); (try clear hb2); (try clear hk); (try clear hi)))
    go_meet
    case rel => exact ⟨_, ((t577 != t569)), (by first | rfl | (simp; done) | (simp [*]; done)), H', ⟨by first | omega | exact Nat.le_refl _⟩, ⟨by (with_reducible repeat (first | apply Kd.R_alloc | apply Kd.R_drewN | apply Kd.R_drew)); exact Kd.R_mono HO573.out (fun _ hk => trivial)⟩, ⟨by (with_reducible repeat (first | refine blk_drewN ?_ _ | refine blk_drew ?_ | refine blk_alloc ?_ _)); exact BK562.out⟩, ⟨by (with_reducible repeat (first | refine blk_drewN ?_ _ | refine blk_drew ?_ | refine blk_alloc ?_ _)); exact BK570.out⟩, ⟨by (with_reducible repeat (first | refine blk_drewN ?_ _ | refine blk_drew ?_ | refine blk_alloc ?_ _)); exact BK574.out⟩, ⟨by (with_reducible repeat (first | refine blk_drewN ?_ _ | refine blk_drew ?_ | refine blk_alloc ?_ _)); exact BK578.out⟩, ⟨by repeat (first | (with_reducible first | exact HB.out | apply below_alloc | apply pw_below_drewN | apply below_drew1 | refine below_set ?_ GE562.out | refine below_set ?_ GE570.out | refine below_set ?_ GE574.out | refine below_set ?_ GE578.out) | exact HB.out)⟩⟩
   ·
    replace c38 := Bool.eq_false_iff.mpr c38
    subst c38
    have H1 : (laws_FnExactChanceHit.j0 k true l0_0 t571) = some r := by rw [if_neg (show ¬ (false = true) by decide)] at H; exact H
    clear H
    have H := H1
    clear H1
    have H' := Aside0.mk H
    clear H
    have hnb47 := NB578_562.out
    have hnc47 := NB562_578.out
    have hnb48 := NB578_570.out
    have hnc48 := NB570_578.out
    have hnb49 := NB578_574.out
    have hnc49 := NB574_578.out
    have hcz50_0 : w32.cell? ⟨gb578, 0, none⟩ = some (.int .i64 0) := (blk_cell BK578.out 0).trans rfl
    have hcz50_1 : w32.cell? ⟨gb578, 1, none⟩ = some (.int .i64 0) := (blk_cell BK578.out 1).trans rfl
    have hfz50_0 := blk_frozen BK578.out 0
    have hfz50_1 := blk_frozen BK578.out 1
    have hnb51 := NB570_562.out
    have hnc51 := NB562_570.out
    have hnb52 := NB570_574.out
    have hnc52 := NB574_570.out
    have hcz53_0 : w32.cell? ⟨gb570, 0, none⟩ = some (.int .i64 t567) := (blk_cell BK570.out 0).trans rfl
    have hcz53_1 : w32.cell? ⟨gb570, 1, none⟩ = some (.int .i64 t568) := (blk_cell BK570.out 1).trans rfl
    have hfz53_0 := blk_frozen BK570.out 0
    have hfz53_1 := blk_frozen BK570.out 1
    go_wp2_with (first | ((with_reducible refine gate_callee (f := 17) rfl ?_); refine goesL_ (some 37) rfl rfl Try.func17 (by kernel_rfl) rfl #[.agg #[.int .i64 t575, .int .i64 t576], .agg #[.int .i64 t567, .int .i64 t568]] rfl (by (try simp only [List.map_toArray, List.map_cons, List.map_nil]); first | done | rfl | (simp only [List.length_drop, List.length_take]; rfl)) ?_; (with_reducible refine (laws_eqIntA2.calls t575 t576 t567 t568 false _ A37.out).mono ?_); rintro e w54 ⟨rfl, hb⟩; refine ⟨_, rfl, ?_⟩; have n0_ := Aside0.mk (Kd.R_below (by (with_reducible repeat (first | apply Kd.R_alloc | apply Kd.R_drewN | apply Kd.R_drew)); exact (Kd.R_mono (Kd.R_far (p := ⟨gb578, 1, none⟩) (Kd.R_far (p := ⟨gb578, 0, none⟩) (Kd.R_types HO566.out BK578.out (by decide)) (fun _ hk => hk.2) (.int .i64 t575)) (fun _ hk => hk.2) (.int .i64 t576)) (fun _ h_ => h_.1))) hb); have n1_ := Aside0.mk (Kd.R_below (by (with_reducible repeat (first | apply Kd.R_alloc | apply Kd.R_drewN | apply Kd.R_drew)); exact (Kd.R_mono (Kd.R_far (p := ⟨gb578, 1, none⟩) (Kd.R_far (p := ⟨gb578, 0, none⟩) (Kd.R_types HO573.out BK578.out (by decide)) (fun _ hk => hk.2) (.int .i64 t575)) (fun _ hk => hk.2) (.int .i64 t576)) (fun _ h_ => h_.1))) hb); have n2_ := Aside0.mk (blk_below (g := gb562) (o := .cells #[.slice A0_0 l0_0.length c0_0] 24 (0, 0)) (by (with_reducible repeat (first | refine blk_drewN ?_ _ | refine blk_drew ?_ | refine blk_alloc ?_ _)); refine blk_far ?_ NB562_578.out _; (with_reducible repeat (first | refine blk_drewN ?_ _ | refine blk_drew ?_ | refine blk_alloc ?_ _)); refine blk_far ?_ NB562_578.out _; (with_reducible repeat (first | refine blk_drewN ?_ _ | refine blk_drew ?_ | refine blk_alloc ?_ _)); exact BK562.out) hb); have n3_ := Aside0.mk (blk_below (g := gb570) (o := .cells #[.int .i64 t567, .int .i64 t568] 26 (0, 0)) (by (with_reducible repeat (first | refine blk_drewN ?_ _ | refine blk_drew ?_ | refine blk_alloc ?_ _)); refine blk_far ?_ NB570_578.out _; (with_reducible repeat (first | refine blk_drewN ?_ _ | refine blk_drew ?_ | refine blk_alloc ?_ _)); refine blk_far ?_ NB570_578.out _; (with_reducible repeat (first | refine blk_drewN ?_ _ | refine blk_drew ?_ | refine blk_alloc ?_ _)); exact BK570.out) hb); have n4_ := Aside0.mk (blk_below (g := gb574) (o := .cells #[.slice Ao27 t571.length co27] 31 (0, 0)) (by (with_reducible repeat (first | refine blk_drewN ?_ _ | refine blk_drew ?_ | refine blk_alloc ?_ _)); refine blk_far ?_ NB574_578.out _; (with_reducible repeat (first | refine blk_drewN ?_ _ | refine blk_drew ?_ | refine blk_alloc ?_ _)); refine blk_far ?_ NB574_578.out _; (with_reducible repeat (first | refine blk_drewN ?_ _ | refine blk_drew ?_ | refine blk_alloc ?_ _)); exact BK574.out) hb); have n5_ := Aside0.mk (blk_below (g := gb578) (o := .cells #[.int .i64 t575, .int .i64 t576] 26 (0, 0)) (by (with_reducible repeat (first | refine blk_drewN ?_ _ | refine blk_drew ?_ | refine blk_alloc ?_ _)); refine blk_put (cs := #[.int .i64 t575, .int .i64 0]) ?_ 1 _ rfl; (with_reducible repeat (first | refine blk_drewN ?_ _ | refine blk_drew ?_ | refine blk_alloc ?_ _)); refine blk_put (cs := #[.int .i64 0, .int .i64 0]) ?_ 0 _ rfl; (with_reducible repeat (first | refine blk_drewN ?_ _ | refine blk_drew ?_ | refine blk_alloc ?_ _)); exact BK578.out) hb); have n6_ := Aside0.mk (below_step (by repeat (first | (with_reducible first | exact HB.out | apply below_alloc | apply pw_below_drewN | apply below_drew1 | refine below_set ?_ GE562.out | refine below_set ?_ GE570.out | refine below_set ?_ GE574.out | refine below_set ?_ GE578.out) | exact HB.out)) hb); clear HO566; clear HO573; clear BK562; clear BK570; clear BK574; clear BK578; clear HB; have HO566 := n0_; have HO573 := n1_; have BK562 := n2_; have BK570 := n3_; have BK574 := n4_; have BK578 := n5_; have HB := n6_; clear n0_ n1_ n2_ n3_ n4_ n5_ n6_; (try clear hb); (try clear hb2); (try clear hk); (try clear hi)))
    go_meet
    case rel => exact ⟨_, (true), (by first | rfl | (simp; done) | (simp [*]; done)), H', ⟨by first | omega | exact Nat.le_refl _⟩, ⟨by (with_reducible repeat (first | apply Kd.R_alloc | apply Kd.R_drewN | apply Kd.R_drew)); exact Kd.R_mono HO573.out (fun _ hk => trivial)⟩, ⟨by (with_reducible repeat (first | refine blk_drewN ?_ _ | refine blk_drew ?_ | refine blk_alloc ?_ _)); exact BK562.out⟩, ⟨by (with_reducible repeat (first | refine blk_drewN ?_ _ | refine blk_drew ?_ | refine blk_alloc ?_ _)); exact BK570.out⟩, ⟨by (with_reducible repeat (first | refine blk_drewN ?_ _ | refine blk_drew ?_ | refine blk_alloc ?_ _)); exact BK574.out⟩, ⟨by (with_reducible repeat (first | refine blk_drewN ?_ _ | refine blk_drew ?_ | refine blk_alloc ?_ _)); exact BK578.out⟩, ⟨by repeat (first | (with_reducible first | exact HB.out | apply below_alloc | apply pw_below_drewN | apply below_drew1 | refine below_set ?_ GE562.out | refine below_set ?_ GE570.out | refine below_set ?_ GE574.out | refine below_set ?_ GE578.out) | exact HB.out)⟩⟩
  case rest =>
   clear HC13
   try clear c1
   try clear c2
   try clear p2
   try clear c3
   try clear c4
   try clear c5
   try clear c5b0
   try clear c7
   try clear c13
   try clear c15
   try clear c17
   try clear c22
   try clear c25
   try clear c26
   try clear c28
   try clear c29
   try clear c33
   try clear c34
   try clear c35
   try clear c38
   try clear c39
   try clear c40
   try clear c41
   try clear c43
   try clear c44
   try clear c47
   try clear c48
   try clear c49
   try clear c51
   try clear c52
   try clear hcz15_0
   try clear hcz17_0
   try clear hcz23_0
   try clear hcz23_1
   try clear hcz24_0
   try clear hcz30_0
   try clear hcz36_0
   try clear hcz36_1
   try clear hcz42_0
   try clear hcz42_1
   try clear hcz45_0
   try clear hcz45_1
   try clear hcz50_0
   try clear hcz50_1
   try clear hcz53_0
   try clear hcz53_1
   try clear hcz7_0
   try clear hfz15_0
   try clear hfz17_0
   try clear hfz23_0
   try clear hfz23_1
   try clear hfz24_0
   try clear hfz30_0
   try clear hfz36_0
   try clear hfz36_1
   try clear hfz42_0
   try clear hfz42_1
   try clear hfz45_0
   try clear hfz45_1
   try clear hfz50_0
   try clear hfz50_1
   try clear hfz53_0
   try clear hfz53_1
   try clear hfz7_0
   obtain ⟨kq, x43_12, rfl, HA, HJ12, HO_575000, BK562, BK570, BK574, BK578, HB⟩ := hcut
   cases kq with
   | zero => exact absurd HA.out (by simp [laws_FnExactChanceHit.j0])
   | succ kj12 =>
    have H := HA.out
    clear HA
    simp only [laws_FnExactChanceHit.j0] at H
    by_cases c55 : x43_12 = true
    ·
     subst c55
     have H1 : (some false) = some r := by rw [if_pos rfl] at H; exact H
     clear H
     have H := H1
     clear H1
     obtain rfl := Option.some.inj H
     go_wp2
     go_ret
     exact ⟨by first | rfl | (simp [errW_none, errW_some] <;> rfl) | (simp [*, errW_none, errW_some] <;> rfl), by repeat (first | (with_reducible first | exact HB.out | apply below_alloc | apply pw_below_drewN | apply below_drew1 | refine below_set ?_ GE562.out | refine below_set ?_ GE570.out | refine below_set ?_ GE574.out | refine below_set ?_ GE578.out) | exact HB.out)⟩
    ·
     replace c55 := Bool.eq_false_iff.mpr c55
     subst c55
     have H1 : ((laws_toTrie.f kj12 l0_0).bind fun t580 => ((laws_eqTrie.f kj12 t571 t580).bind fun t583 => (if t583 = true then (some true) else (some false)))) = some r := by rw [if_neg (show ¬ (false = true) by decide)] at H; exact H
     clear H
     have H := H1
     clear H1
     replace H := Option.bind_eq_some_iff.mp H
     obtain ⟨t580, A560, H⟩ := H
     replace H : ((laws_eqTrie.f kj12 t571 t580).bind fun t583 => (if t583 = true then (some true) else (some false))) = some r := H
     have A56 := Aside0.mk A560
     clear A560
     replace H := Option.bind_eq_some_iff.mp H
     obtain ⟨t583, A570, H⟩ := H
     replace H : (if t583 = true then (some true) else (some false)) = some r := H
     have A57 := Aside0.mk A570
     clear A570
     by_cases c58 : t583 = true
     ·
      subst c58
      have H1 : (some true) = some r := by rw [if_pos rfl] at H; exact H
      clear H
      have H := H1
      clear H1
      obtain rfl := Option.some.inj H
      try go_wp2
      have n0_ := Aside0.mk (Kd.R_drew HO_575000.out)
      have n1_ := Aside0.mk (blk_drew BK562.out)
      have n2_ := Aside0.mk (blk_drew BK570.out)
      have n3_ := Aside0.mk (blk_drew BK574.out)
      have n4_ := Aside0.mk (blk_drew BK578.out)
      have n5_ := Aside0.mk (below_drew1 HB.out)
      clear HO_575000
      clear BK562
      clear BK570
      clear BK574
      clear BK578
      clear HB
      have HO_575000 := n0_
      have BK562 := n1_
      have BK570 := n2_
      have BK574 := n3_
      have BK578 := n4_
      have HB := n5_
      clear n0_ n1_ n2_ n3_ n4_ n5_
      refine start_ (n := 5) (S := fun w' => w'.cell? ⟨gb574, 0, none⟩ = some (.slice Ao27 t571.length co27) ∧ w'.cell? ⟨gb562, 0, none⟩ = some (.slice A0_0 l0_0.length c0_0)) (ds := []) #[false, false, false, false, false] (by kernel_rfl) rfl rfl ⟨(blk_cell BK574.out 0).trans rfl, (blk_cell BK562.out 0).trans rfl⟩ (fun hHeld => ?_)
      generalize wc.drew = w59 at HO_575000 BK562 BK570 BK574 BK578 HB hHeld ⊢
      refine take_ (i := 0) (N := some 44) (v := ?_) (a' := ?_) #[true, false, false, false, false] rfl rfl (by kernel_rfl) (fun _ _ _ h => h) (Or.inl ⟨by rfl, ?_⟩) hHeld ?_ ?_
      rotate_left
      ·
       rintro w' ⟨s0, s1⟩
       go_simp
       with_reducible rfl
      rotate_left
      ·
       simp only [Act.put, List.setIfInBounds_toArray, List.set_cons_zero, List.set_cons_succ, i64_w, i32_w]
       rfl
      refine take_ (i := 1) (N := some 45) (v := ?_) (a' := ?_) #[true, true, false, false, false] rfl rfl (by kernel_rfl) (fun _ _ _ h => h) (Or.inl ⟨by rfl, ?_⟩) hHeld ?_ ?_
      rotate_left
      ·
       rintro w' ⟨s0, s1⟩
       go_simp
       with_reducible rfl
      rotate_left
      ·
       simp only [Act.put, List.setIfInBounds_toArray, List.set_cons_zero, List.set_cons_succ, i64_w, i32_w]
       rfl
      refine one_ (i := 2) (N := some 46) #[true, true, true, false, false] rfl rfl (by kernel_rfl) (by decide) (fun K hK => ?_)
      refine goes_ Try.func15 (by kernel_rfl) rfl #[.agg #[.slice A0_0 l0_0.length c0_0]] (by rfl) rfl rfl (by (try simp only [List.map_toArray, List.map_cons, List.map_nil]); first | done | rfl | (simp only [List.length_drop, List.length_take]; rfl)) ?_
      with_reducible refine (laws_toTrie.calls kj12 _ _ l0_0 t580 _ ?side1 ?side2 A56.out).mono ?_
      (case side1 => repeat (first | exact (Kd.C_below HR0_0.out HB.out) | (with_reducible refine Kd.C_alloc ?_ _) | (with_reducible refine Kd.C_drewN ?_ _) | (with_reducible refine Kd.C_drew ?_)))
      (case side2 => exact HC0_0.out)
      rintro e w60 ⟨v581, rfl, ho0, hb⟩
      refine ⟨_, rfl, ?_⟩
      have n0_ := Aside0.mk (Kd.R_elder' (by (with_reducible repeat (first | apply Kd.R_alloc | apply Kd.R_drewN | apply Kd.R_drew)); exact HO_575000.out) (Kd.R_base ho0) hb)
      have n1_ := Aside0.mk (Kd.R_lower (Kd.R_new' ho0 (Kd.R_lt (by (with_reducible repeat (first | apply Kd.R_alloc | apply Kd.R_drewN | apply Kd.R_drew)); exact HO_575000.out))) (below_size (by repeat (first | (with_reducible first | exact HB.out | apply below_alloc | apply pw_below_drewN | apply below_drew1 | refine below_set ?_ GE562.out | refine below_set ?_ GE570.out | refine below_set ?_ GE574.out | refine below_set ?_ GE578.out) | exact HB.out))))
      have n2_ := Aside0.mk (blk_below (g := gb562) (o := .cells #[.slice A0_0 l0_0.length c0_0] 24 (0, 0)) (by (with_reducible repeat (first | refine blk_drewN ?_ _ | refine blk_drew ?_ | refine blk_alloc ?_ _)); exact BK562.out) hb)
      have n3_ := Aside0.mk (blk_below (g := gb570) (o := .cells #[.int .i64 t567, .int .i64 t568] 26 (0, 0)) (by (with_reducible repeat (first | refine blk_drewN ?_ _ | refine blk_drew ?_ | refine blk_alloc ?_ _)); exact BK570.out) hb)
      have n4_ := Aside0.mk (blk_below (g := gb574) (o := .cells #[.slice Ao27 t571.length co27] 31 (0, 0)) (by (with_reducible repeat (first | refine blk_drewN ?_ _ | refine blk_drew ?_ | refine blk_alloc ?_ _)); exact BK574.out) hb)
      have n5_ := Aside0.mk (blk_below (g := gb578) (o := .cells #[.int .i64 t575, .int .i64 t576] 26 (0, 0)) (by (with_reducible repeat (first | refine blk_drewN ?_ _ | refine blk_drew ?_ | refine blk_alloc ?_ _)); exact BK578.out) hb)
      have n6_ := Aside0.mk (below_step (by repeat (first | (with_reducible first | exact HB.out | apply below_alloc | apply pw_below_drewN | apply below_drew1 | refine below_set ?_ GE562.out | refine below_set ?_ GE570.out | refine below_set ?_ GE574.out | refine below_set ?_ GE578.out) | exact HB.out)) hb)
      clear HO_575000
      clear BK562
      clear BK570
      clear BK574
      clear BK578
      clear HB
      have HO_575000 := n0_
      have HO582 := n1_
      have BK562 := n2_
      have BK570 := n3_
      have BK574 := n4_
      have BK578 := n5_
      have HB := n6_
      clear n0_ n1_ n2_ n3_ n4_ n5_ n6_
      (try clear hb)
      (try clear hb2)
      (try clear hk)
      (try clear hi)
      (try clear ho0)
      obtain ⟨Ao61, co61, eo61⟩ := Kd.R_slice HO582.out
      (first | subst eo61 | (injection eo61 with f1_ f2_ f3_; have f4_ := f1_.symm; have f5_ := f3_.symm; clear f1_ f2_ f3_; subst f4_; subst f5_))
      refine hK.out _ _ ⟨(blk_cell BK574.out 0).trans rfl, (blk_cell BK562.out 0).trans rfl⟩ (fun hHeld => ?_)
      clear hK K
      refine norm_ (a' := ?_) ?_ ?_
      rotate_left
      ·
       show Act.put _ (some 46) _ = _
       simp only [Act.put, List.setIfInBounds_toArray, List.set_cons_zero, List.set_cons_succ, i64_w, i32_w]
       rfl
      refine one_ (i := 3) (N := some 47) #[true, true, true, true, false] rfl rfl (by kernel_rfl) (by decide) (fun K hK => ?_)
      refine goes_ Try.func18 (by kernel_rfl) rfl #[.agg #[.slice Ao27 t571.length co27], .agg #[.slice Ao61 t580.length co61]] (by rfl) rfl rfl (by (try simp only [List.map_toArray, List.map_cons, List.map_nil]); first | done | rfl | (simp only [List.length_drop, List.length_take]; rfl)) ?_
      with_reducible refine (laws_eqTrie.calls kj12 _ _ t571 _ _ t580 true _ ?side1 ?side2 ?side3 ?side4 A57.out).mono ?_
      (case side1 => repeat (first | exact (Kd.R_reads' HO_575000.out).2.2 | (with_reducible refine Kd.C_alloc ?_ _) | (with_reducible refine Kd.C_drewN ?_ _) | (with_reducible refine Kd.C_drew ?_)))
      (case side2 => exact (Kd.R_reads' HO_575000.out).2.1)
      (case side3 => repeat (first | exact (Kd.R_reads' HO582.out).2.2 | (with_reducible refine Kd.C_alloc ?_ _) | (with_reducible refine Kd.C_drewN ?_ _) | (with_reducible refine Kd.C_drew ?_)))
      (case side4 => exact (Kd.R_reads' HO582.out).2.1)
      rintro e w62 ⟨rfl, hb⟩
      refine ⟨_, rfl, ?_⟩
      have n0_ := Aside0.mk (Kd.R_below (by (with_reducible repeat (first | apply Kd.R_alloc | apply Kd.R_drewN | apply Kd.R_drew)); exact HO_575000.out) hb)
      have n1_ := Aside0.mk (Kd.R_below (by (with_reducible repeat (first | apply Kd.R_alloc | apply Kd.R_drewN | apply Kd.R_drew)); exact HO582.out) hb)
      have n2_ := Aside0.mk (blk_below (g := gb562) (o := .cells #[.slice A0_0 l0_0.length c0_0] 24 (0, 0)) (by (with_reducible repeat (first | refine blk_drewN ?_ _ | refine blk_drew ?_ | refine blk_alloc ?_ _)); exact BK562.out) hb)
      have n3_ := Aside0.mk (blk_below (g := gb570) (o := .cells #[.int .i64 t567, .int .i64 t568] 26 (0, 0)) (by (with_reducible repeat (first | refine blk_drewN ?_ _ | refine blk_drew ?_ | refine blk_alloc ?_ _)); exact BK570.out) hb)
      have n4_ := Aside0.mk (blk_below (g := gb574) (o := .cells #[.slice Ao27 t571.length co27] 31 (0, 0)) (by (with_reducible repeat (first | refine blk_drewN ?_ _ | refine blk_drew ?_ | refine blk_alloc ?_ _)); exact BK574.out) hb)
      have n5_ := Aside0.mk (blk_below (g := gb578) (o := .cells #[.int .i64 t575, .int .i64 t576] 26 (0, 0)) (by (with_reducible repeat (first | refine blk_drewN ?_ _ | refine blk_drew ?_ | refine blk_alloc ?_ _)); exact BK578.out) hb)
      have n6_ := Aside0.mk (below_step (by repeat (first | (with_reducible first | exact HB.out | apply below_alloc | apply pw_below_drewN | apply below_drew1 | refine below_set ?_ GE562.out | refine below_set ?_ GE570.out | refine below_set ?_ GE574.out | refine below_set ?_ GE578.out) | exact HB.out)) hb)
      clear HO_575000
      clear HO582
      clear BK562
      clear BK570
      clear BK574
      clear BK578
      clear HB
      have HO_575000 := n0_
      have HO582 := n1_
      have BK562 := n2_
      have BK570 := n3_
      have BK574 := n4_
      have BK578 := n5_
      have HB := n6_
      clear n0_ n1_ n2_ n3_ n4_ n5_ n6_
      (try clear hb)
      (try clear hb2)
      (try clear hk)
      (try clear hi)
      refine hK.out _ _ ⟨(blk_cell BK574.out 0).trans rfl, (blk_cell BK562.out 0).trans rfl⟩ (fun hHeld => ?_)
      clear hK K
      refine norm_ (a' := ?_) ?_ ?_
      rotate_left
      ·
       show Act.put _ (some 47) _ = _
       simp only [Act.put, List.setIfInBounds_toArray, List.set_cons_zero, List.set_cons_succ, i64_w, i32_w]
       rfl
      refine pure_ (i := 4) (N := some 48) (v := ?_) (a' := ?_) #[true, true, true, true, true] rfl rfl (by kernel_rfl) (fun _ _ _ h => h) (Or.inl ⟨by rfl, ?_⟩) ?_ ?_
      rotate_left
      ·
       intro w'
       go_simp
       with_reducible rfl
      rotate_left
      ·
       simp only [Act.put, List.setIfInBounds_toArray, List.set_cons_zero, List.set_cons_succ, i64_w, i32_w]
       rfl
      refine done_ (by kernel_rfl) ?_
      try go_wp2
      go_ret
      exact ⟨by first | rfl | (simp [errW_none, errW_some] <;> rfl) | (simp [*, errW_none, errW_some] <;> rfl), by repeat (first | (with_reducible first | exact HB.out | apply below_alloc | apply pw_below_drewN | apply below_drew1 | refine below_set ?_ GE562.out | refine below_set ?_ GE570.out | refine below_set ?_ GE574.out | refine below_set ?_ GE578.out) | exact HB.out)⟩
     ·
      replace c58 := Bool.eq_false_iff.mpr c58
      subst c58
      have H1 : (some false) = some r := by rw [if_neg (show ¬ (false = true) by decide)] at H; exact H
      clear H
      have H := H1
      clear H1
      obtain rfl := Option.some.inj H
      try go_wp2
      have n0_ := Aside0.mk (Kd.R_drew HO_575000.out)
      have n1_ := Aside0.mk (blk_drew BK562.out)
      have n2_ := Aside0.mk (blk_drew BK570.out)
      have n3_ := Aside0.mk (blk_drew BK574.out)
      have n4_ := Aside0.mk (blk_drew BK578.out)
      have n5_ := Aside0.mk (below_drew1 HB.out)
      clear HO_575000
      clear BK562
      clear BK570
      clear BK574
      clear BK578
      clear HB
      have HO_575000 := n0_
      have BK562 := n1_
      have BK570 := n2_
      have BK574 := n3_
      have BK578 := n4_
      have HB := n5_
      clear n0_ n1_ n2_ n3_ n4_ n5_
      refine start_ (n := 5) (S := fun w' => w'.cell? ⟨gb574, 0, none⟩ = some (.slice Ao27 t571.length co27) ∧ w'.cell? ⟨gb562, 0, none⟩ = some (.slice A0_0 l0_0.length c0_0)) (ds := []) #[false, false, false, false, false] (by kernel_rfl) rfl rfl ⟨(blk_cell BK574.out 0).trans rfl, (blk_cell BK562.out 0).trans rfl⟩ (fun hHeld => ?_)
      generalize wc.drew = w63 at HO_575000 BK562 BK570 BK574 BK578 HB hHeld ⊢
      refine take_ (i := 0) (N := some 44) (v := ?_) (a' := ?_) #[true, false, false, false, false] rfl rfl (by kernel_rfl) (fun _ _ _ h => h) (Or.inl ⟨by rfl, ?_⟩) hHeld ?_ ?_
      rotate_left
      ·
       rintro w' ⟨s0, s1⟩
       go_simp
       with_reducible rfl
      rotate_left
      ·
       simp only [Act.put, List.setIfInBounds_toArray, List.set_cons_zero, List.set_cons_succ, i64_w, i32_w]
       rfl
      refine take_ (i := 1) (N := some 45) (v := ?_) (a' := ?_) #[true, true, false, false, false] rfl rfl (by kernel_rfl) (fun _ _ _ h => h) (Or.inl ⟨by rfl, ?_⟩) hHeld ?_ ?_
      rotate_left
      ·
       rintro w' ⟨s0, s1⟩
       go_simp
       with_reducible rfl
      rotate_left
      ·
       simp only [Act.put, List.setIfInBounds_toArray, List.set_cons_zero, List.set_cons_succ, i64_w, i32_w]
       rfl
      refine one_ (i := 2) (N := some 46) #[true, true, true, false, false] rfl rfl (by kernel_rfl) (by decide) (fun K hK => ?_)
      refine goes_ Try.func15 (by kernel_rfl) rfl #[.agg #[.slice A0_0 l0_0.length c0_0]] (by rfl) rfl rfl (by (try simp only [List.map_toArray, List.map_cons, List.map_nil]); first | done | rfl | (simp only [List.length_drop, List.length_take]; rfl)) ?_
      with_reducible refine (laws_toTrie.calls kj12 _ _ l0_0 t580 _ ?side1 ?side2 A56.out).mono ?_
      (case side1 => repeat (first | exact (Kd.C_below HR0_0.out HB.out) | (with_reducible refine Kd.C_alloc ?_ _) | (with_reducible refine Kd.C_drewN ?_ _) | (with_reducible refine Kd.C_drew ?_)))
      (case side2 => exact HC0_0.out)
      rintro e w64 ⟨v581, rfl, ho0, hb⟩
      refine ⟨_, rfl, ?_⟩
      have n0_ := Aside0.mk (Kd.R_elder' (by (with_reducible repeat (first | apply Kd.R_alloc | apply Kd.R_drewN | apply Kd.R_drew)); exact HO_575000.out) (Kd.R_base ho0) hb)
      have n1_ := Aside0.mk (Kd.R_lower (Kd.R_new' ho0 (Kd.R_lt (by (with_reducible repeat (first | apply Kd.R_alloc | apply Kd.R_drewN | apply Kd.R_drew)); exact HO_575000.out))) (below_size (by repeat (first | (with_reducible first | exact HB.out | apply below_alloc | apply pw_below_drewN | apply below_drew1 | refine below_set ?_ GE562.out | refine below_set ?_ GE570.out | refine below_set ?_ GE574.out | refine below_set ?_ GE578.out) | exact HB.out))))
      have n2_ := Aside0.mk (blk_below (g := gb562) (o := .cells #[.slice A0_0 l0_0.length c0_0] 24 (0, 0)) (by (with_reducible repeat (first | refine blk_drewN ?_ _ | refine blk_drew ?_ | refine blk_alloc ?_ _)); exact BK562.out) hb)
      have n3_ := Aside0.mk (blk_below (g := gb570) (o := .cells #[.int .i64 t567, .int .i64 t568] 26 (0, 0)) (by (with_reducible repeat (first | refine blk_drewN ?_ _ | refine blk_drew ?_ | refine blk_alloc ?_ _)); exact BK570.out) hb)
      have n4_ := Aside0.mk (blk_below (g := gb574) (o := .cells #[.slice Ao27 t571.length co27] 31 (0, 0)) (by (with_reducible repeat (first | refine blk_drewN ?_ _ | refine blk_drew ?_ | refine blk_alloc ?_ _)); exact BK574.out) hb)
      have n5_ := Aside0.mk (blk_below (g := gb578) (o := .cells #[.int .i64 t575, .int .i64 t576] 26 (0, 0)) (by (with_reducible repeat (first | refine blk_drewN ?_ _ | refine blk_drew ?_ | refine blk_alloc ?_ _)); exact BK578.out) hb)
      have n6_ := Aside0.mk (below_step (by repeat (first | (with_reducible first | exact HB.out | apply below_alloc | apply pw_below_drewN | apply below_drew1 | refine below_set ?_ GE562.out | refine below_set ?_ GE570.out | refine below_set ?_ GE574.out | refine below_set ?_ GE578.out) | exact HB.out)) hb)
      clear HO_575000
      clear BK562
      clear BK570
      clear BK574
      clear BK578
      clear HB
      have HO_575000 := n0_
      have HO582 := n1_
      have BK562 := n2_
      have BK570 := n3_
      have BK574 := n4_
      have BK578 := n5_
      have HB := n6_
      clear n0_ n1_ n2_ n3_ n4_ n5_ n6_
      (try clear hb)
      (try clear hb2)
      (try clear hk)
      (try clear hi)
      (try clear ho0)
      obtain ⟨Ao65, co65, eo65⟩ := Kd.R_slice HO582.out
      (first | subst eo65 | (injection eo65 with f1_ f2_ f3_; have f4_ := f1_.symm; have f5_ := f3_.symm; clear f1_ f2_ f3_; subst f4_; subst f5_))
      refine hK.out _ _ ⟨(blk_cell BK574.out 0).trans rfl, (blk_cell BK562.out 0).trans rfl⟩ (fun hHeld => ?_)
      clear hK K
      refine norm_ (a' := ?_) ?_ ?_
      rotate_left
      ·
       show Act.put _ (some 46) _ = _
       simp only [Act.put, List.setIfInBounds_toArray, List.set_cons_zero, List.set_cons_succ, i64_w, i32_w]
       rfl
      refine one_ (i := 3) (N := some 47) #[true, true, true, true, false] rfl rfl (by kernel_rfl) (by decide) (fun K hK => ?_)
      refine goes_ Try.func18 (by kernel_rfl) rfl #[.agg #[.slice Ao27 t571.length co27], .agg #[.slice Ao65 t580.length co65]] (by rfl) rfl rfl (by (try simp only [List.map_toArray, List.map_cons, List.map_nil]); first | done | rfl | (simp only [List.length_drop, List.length_take]; rfl)) ?_
      with_reducible refine (laws_eqTrie.calls kj12 _ _ t571 _ _ t580 false _ ?side1 ?side2 ?side3 ?side4 A57.out).mono ?_
      (case side1 => repeat (first | exact (Kd.R_reads' HO_575000.out).2.2 | (with_reducible refine Kd.C_alloc ?_ _) | (with_reducible refine Kd.C_drewN ?_ _) | (with_reducible refine Kd.C_drew ?_)))
      (case side2 => exact (Kd.R_reads' HO_575000.out).2.1)
      (case side3 => repeat (first | exact (Kd.R_reads' HO582.out).2.2 | (with_reducible refine Kd.C_alloc ?_ _) | (with_reducible refine Kd.C_drewN ?_ _) | (with_reducible refine Kd.C_drew ?_)))
      (case side4 => exact (Kd.R_reads' HO582.out).2.1)
      rintro e w66 ⟨rfl, hb⟩
      refine ⟨_, rfl, ?_⟩
      have n0_ := Aside0.mk (Kd.R_below (by (with_reducible repeat (first | apply Kd.R_alloc | apply Kd.R_drewN | apply Kd.R_drew)); exact HO_575000.out) hb)
      have n1_ := Aside0.mk (Kd.R_below (by (with_reducible repeat (first | apply Kd.R_alloc | apply Kd.R_drewN | apply Kd.R_drew)); exact HO582.out) hb)
      have n2_ := Aside0.mk (blk_below (g := gb562) (o := .cells #[.slice A0_0 l0_0.length c0_0] 24 (0, 0)) (by (with_reducible repeat (first | refine blk_drewN ?_ _ | refine blk_drew ?_ | refine blk_alloc ?_ _)); exact BK562.out) hb)
      have n3_ := Aside0.mk (blk_below (g := gb570) (o := .cells #[.int .i64 t567, .int .i64 t568] 26 (0, 0)) (by (with_reducible repeat (first | refine blk_drewN ?_ _ | refine blk_drew ?_ | refine blk_alloc ?_ _)); exact BK570.out) hb)
      have n4_ := Aside0.mk (blk_below (g := gb574) (o := .cells #[.slice Ao27 t571.length co27] 31 (0, 0)) (by (with_reducible repeat (first | refine blk_drewN ?_ _ | refine blk_drew ?_ | refine blk_alloc ?_ _)); exact BK574.out) hb)
      have n5_ := Aside0.mk (blk_below (g := gb578) (o := .cells #[.int .i64 t575, .int .i64 t576] 26 (0, 0)) (by (with_reducible repeat (first | refine blk_drewN ?_ _ | refine blk_drew ?_ | refine blk_alloc ?_ _)); exact BK578.out) hb)
      have n6_ := Aside0.mk (below_step (by repeat (first | (with_reducible first | exact HB.out | apply below_alloc | apply pw_below_drewN | apply below_drew1 | refine below_set ?_ GE562.out | refine below_set ?_ GE570.out | refine below_set ?_ GE574.out | refine below_set ?_ GE578.out) | exact HB.out)) hb)
      clear HO_575000
      clear HO582
      clear BK562
      clear BK570
      clear BK574
      clear BK578
      clear HB
      have HO_575000 := n0_
      have HO582 := n1_
      have BK562 := n2_
      have BK570 := n3_
      have BK574 := n4_
      have BK578 := n5_
      have HB := n6_
      clear n0_ n1_ n2_ n3_ n4_ n5_ n6_
      (try clear hb)
      (try clear hb2)
      (try clear hk)
      (try clear hi)
      refine hK.out _ _ ⟨(blk_cell BK574.out 0).trans rfl, (blk_cell BK562.out 0).trans rfl⟩ (fun hHeld => ?_)
      clear hK K
      refine norm_ (a' := ?_) ?_ ?_
      rotate_left
      ·
       show Act.put _ (some 47) _ = _
       simp only [Act.put, List.setIfInBounds_toArray, List.set_cons_zero, List.set_cons_succ, i64_w, i32_w]
       rfl
      refine pure_ (i := 4) (N := some 48) (v := ?_) (a' := ?_) #[true, true, true, true, true] rfl rfl (by kernel_rfl) (fun _ _ _ h => h) (Or.inl ⟨by rfl, ?_⟩) ?_ ?_
      rotate_left
      ·
       intro w'
       go_simp
       with_reducible rfl
      rotate_left
      ·
       simp only [Act.put, List.setIfInBounds_toArray, List.set_cons_zero, List.set_cons_succ, i64_w, i32_w]
       rfl
      refine done_ (by kernel_rfl) ?_
      try go_wp2
      go_ret
      exact ⟨by first | rfl | (simp [errW_none, errW_some] <;> rfl) | (simp [*, errW_none, errW_some] <;> rfl), by repeat (first | (with_reducible first | exact HB.out | apply below_alloc | apply pw_below_drewN | apply below_drew1 | refine below_set ?_ GE562.out | refine below_set ?_ GE570.out | refine below_set ?_ GE574.out | refine below_set ?_ GE578.out) | exact HB.out)⟩

/-- THE ONE PURE STATEMENT of laws_FnExactChanceHit. -/
def laws_FnExactChanceHit.Pure : Prop := ∀ (l0_0 : List S82) (a1 : Int) (a2 : Int), l0_0.length ≤ 9223372036854775807 → (Lit.int .i64 a1).wf = true → (Lit.int .i64 a2).wf = true → ∃ k, laws_FnExactChanceHit.f k l0_0 a1 a2 = some true
theorem laws_FnExactChanceHit.walk (P : laws_FnExactChanceHit.Pure) (w : World) (A0 : Option Addr) (c0 : Nat) (l0_0 : List S82) (hr0 : Kd.C k82 w A0 l0_0.length l0_0) (hc0 : l0_0.length ≤ c0) (a1 : Int) (w1 : (Lit.int .i64 a1).wf = true) (a2 : Int) (w2 : (Lit.int .i64 a2).wf = true) :
  Calls Try.prog 7 #[.agg #[.slice A0 l0_0.length c0], .int .i64 a1, .int .i64 a2] w fun e w' => e = .returned (.bool true) ∧ Below w.heap.size w w' := by
 obtain ⟨k, h⟩ := P l0_0 a1 a2 hr0.2.1 w1 w2
 refine (laws_FnExactChanceHit.calls k _ _ l0_0 a1 a2 true w hr0 hc0 h).mono ?_
 rintro e w' ⟨rfl, hd⟩
 exact ⟨rfl, hd⟩

end Go.Proofs.Ytgagmodkjmegeaa.P

namespace Go.Proofs.Ytgagmodkjmegeaa.P
open Go.RowKit Go.Proofs.YtgagmodkjmegeaaW.PrintWords Go.Proofs.YtgagmodkjmegeaaW.PrintLast Go.Proofs.YtgagmodkjmegeaaW.PrintMore
attribute [local go_sem] max2_int min2_int max_two min_two max_three min_three max_four min_four
set_option linter.unusedVariables false
set_option linter.unusedSimpArgs false

namespace OA
open Go.ChangeShapes Go.WideShapes Go.Deep Go.ChangeAt Go.Joins
section
variable {H : Type} {enc : TypeId × Value → H} {P : Program} {w : World} {base : Nat} {spare : Nat → Bool} {held : Bool}
/-- A slice of structs of one-cell fields: each element's cells with their readings. -/
theorem fields {t e : TypeId} {fs : Array Field} {fuel : Nat} {cs : List Value} {x : DataW H × List MemPlace} (ht : P.underlying t = some (.slice e)) (he : P.underlying e = some (.struct fs))
    (hone : oneCellFields P fs = true) (hC : P.cellsOf e = fs.size) (h : DataW.trod enc P w base spare held fuel t cs = some x) :
    (cs = [.slice none 0 0]) ∨
    ∃ (a : Addr) (len cap : Nat), cs = [.slice (some a) len cap] ∧ len ≤ cap ∧ cap ≤ maxLen ∧
      ∀ i, i < len → ∃ n : Nat, ∀ (j : Nat) (f : Field), fs[j]? = some f → ∃ (v : Value) (y : DataW H × List MemPlace), w.cell? (a.add (i * fs.size + j)) = some v ∧ DataW.trod enc P w base spare held n f.type [v] = some y := by
  rcases open_slice ht h with h0 | ⟨a, len, cap, m, n, D, Pl, hcs, hb, hl, hm, hmm, hx, hi⟩
  · exact .inl h0.1
  · refine .inr ⟨a, len, cap, hcs, hl, hm, fun i hil => ?_⟩
    have him : i < m := by rw [hmm]; split <;> omega
    obtain ⟨cs', hc, ht'⟩ := hi i him
    rw [hC] at hc
    obtain ⟨ys, n', hn', hy, hlen, hyl, hf⟩ := DataW.trod_struct he ht'
    obtain ⟨_, hcl, hat⟩ := World.cells?_some hc
    refine ⟨n', fun j f hj => ?_⟩
    obtain ⟨ho, hk⟩ := hone_of hone j f hj
    have hjl : j < fs.size := (Array.getElem?_eq_some_iff.1 hj).1
    have hcell := hat j hjl
    have hv : cs'[j]? = some (cs'[j]'(by omega)) := List.getElem?_eq_getElem (by omega)
    have h1 := hf j f hj
    rw [ho, hk] at h1
    have hone' : (cs'.drop j).take 1 = [cs'[j]'(by omega)] := by
      rw [List.drop_eq_getElem_cons (by omega)]
      rfl
    rw [hone'] at h1
    have hys : ys[j]? = some (ys[j]'(by omega)) := List.getElem?_eq_getElem (by omega)
    refine ⟨_, _, ?_, h1.trans hys⟩
    rw [← Go.Deep.add_add, hcell, hv]
theorem array1 {α : Type} {cs : Array α} (h : cs.size = 1) : ∃ c0, cs = #[c0] := by
  obtain ⟨l⟩ := cs
  match l, h with
  | [c0], _ => exact ⟨c0, rfl⟩
theorem agg1 {r : Reach} {b0 : Nat} {t : TypeId} {f0 : Field} {v : Value} {d : DataW H} {p : List MemPlace} (hs : P.underlying t = some (.struct #[f0])) (hone : oneCellFields P #[f0] = true) (hC : P.cellsOf t = 1)
    (hv : Value.okWide P w r b0 t v) (h : DataW.Trod enc P w base spare held t v d p) :
    ∃ (v0 : Value) (y0 : DataW H × List MemPlace) (n : Nat), v = .agg #[v0] ∧ DataW.trod enc P w base spare held n f0.type [v0] = some y0 := by
  obtain ⟨cs, rfl, hsz⟩ := okWide_struct hs hv
  obtain ⟨c0, rfl⟩ := array1 (hsz.trans hC)
  obtain ⟨fuel, hf⟩ := h
  obtain ⟨xs, n, _, hx, _, hlen, hg⟩ := DataW.trod_struct hs hf
  obtain ⟨o0, k0⟩ := hone_of hone 0 f0 rfl
  have h0 := hg 0 f0 rfl
  have hl : 0 < xs.length := by rw [hlen]; exact Nat.zero_lt_one
  rw [List.getElem?_eq_getElem hl] at h0
  exact ⟨c0, _, n, rfl, by simpa [Value.cells, o0, k0] using h0⟩
end
end OA

end Go.Proofs.Ytgagmodkjmegeaa.P

namespace Go.Proofs.Ytgagmodkjmegeaa.P
open Go.RowKit Go.Proofs.YtgagmodkjmegeaaW.PrintWords Go.Proofs.YtgagmodkjmegeaaW.PrintLast Go.Proofs.YtgagmodkjmegeaaW.PrintMore
attribute [local go_sem] max2_int min2_int max_two min_two max_three min_three max_four min_four
set_option linter.unusedVariables false
set_option linter.unusedSimpArgs false

namespace OT
open Go.ChangeShapes Go.WideShapes Go.Deep Go.ChangeAt Go.Joins OA
set_option maxRecDepth 100000 in
/-- The argument, opened: a slice of nodes. -/
theorem trie {H : Type} {enc : TypeId × Value → H} {w : World} {base : Nat} {spare : Nat → Bool} {held : Bool} {r : Reach} {b0 : Nat} {v : Value} {d : DataW H} {p : List MemPlace}
    (hv : Value.okWide Try.prog w r b0 24 v) (h : DataW.Trod enc Try.prog w base spare held 24 v d p) :
    ∃ (A : Option Addr) (cap : Nat) (l : List S82), v = .agg #[.slice A l.length cap] ∧ l.length ≤ cap ∧ Kd.C k82 w A l.length l := by
  obtain ⟨v0, y0, n, rfl, h0⟩ := agg1 Try.underlying24 (by kernel_rfl) (by kernel_rfl) hv h
  rcases fields Try.underlying22 Try.underlying82 (by kernel_rfl) (by kernel_rfl) h0 with e | ⟨a, len, cap, e, hl, hm, hi⟩
  · obtain rfl : v0 = .slice none 0 0 := by simpa using e
    exact ⟨none, 0, [], rfl, Nat.le_refl _, ⟨rfl, by simp, fun h => absurd h (Nat.lt_irrefl _)⟩⟩
  · obtain rfl : v0 = .slice (some a) len cap := by simpa using e
    have hex : ∀ i, i < len → ∃ x : S82, w.cell? (a.add (i * 3 + 0)) = some (.int .i64 x.f0) ∧ w.cell? (a.add (i * 3 + 1)) = some (.int .i64 x.f1) ∧ w.cell? (a.add (i * 3 + 2)) = some (.bool x.f2) := by
      intro i hil
      obtain ⟨n, hf⟩ := hi i hil
      obtain ⟨u0, y0, c0, t0⟩ := hf 0 _ rfl
      obtain ⟨u1, y1, c1, t1⟩ := hf 1 _ rfl
      obtain ⟨u2, y2, c2, t2⟩ := hf 2 _ rfl
      obtain ⟨n0, e0, _, _⟩ := DataW.trod_int Try.underlying3 t0
      obtain ⟨n1, e1, _, _⟩ := DataW.trod_int Try.underlying3 t1
      obtain ⟨b2, e2, _⟩ := DataW.trod_bool Try.underlying4 t2
      simp only [List.cons.injEq, and_true] at e0 e1 e2
      subst e0 e1 e2
      exact ⟨⟨n0, n1, b2⟩, c0, c1, c2⟩
    obtain ⟨g, hg⟩ : ∃ g : Nat → S82, ∀ i, i < len → w.cell? (a.add (i * 3 + 0)) = some (.int .i64 (g i).f0) ∧ w.cell? (a.add (i * 3 + 1)) = some (.int .i64 (g i).f1) ∧ w.cell? (a.add (i * 3 + 2)) = some (.bool (g i).f2) :=
      ⟨fun i => if h : i < len then Classical.choose (hex i h) else z82, fun i h => by simp only [dif_pos h]; exact Classical.choose_spec (hex i h)⟩
    refine ⟨some a, cap, (List.range len).map g, by simp, by simpa using hl, ⟨by simp, ?_, fun _ => ⟨a, rfl, fun j p hj => ?_⟩⟩⟩
    · have : (maxLen : Nat) ≤ 9223372036854775807 := by decide
      simp; omega
    · obtain ⟨hjl, rfl⟩ := List.getElem?_eq_some_iff.1 hj
      have hjl' : j < len := by simpa using hjl
      obtain ⟨c0, c1, c2⟩ := hg j hjl'
      rw [List.getElem_map, List.getElem_range]
      refine ⟨_, rfl, k82_mk w (g j), fun i u hu => ?_⟩
      match i, hu with
      | 0, hu => obtain rfl := Option.some.inj hu; exact c0
      | 1, hu => obtain rfl := Option.some.inj hu; exact c1
      | 2, hu => obtain rfl := Option.some.inj hu; exact c2
end OT

end Go.Proofs.Ytgagmodkjmegeaa.P

namespace Go.Proofs.Ytgagmodkjmegeaa.M
theorem txt_lt_snoc : ∀ (p : Txt) (x : UInt8), p < p ++ [x]
  | [], x => List.nil_lt_cons x []
  | a :: p, x => List.cons_lt_cons_iff.2 (.inr ⟨rfl, txt_lt_snoc p x⟩)
theorem dropLast_getD (p : Txt) (h : p ≠ []) : p.dropLast ++ [p.getD (p.length - 1) 0] = p := by
  have h0 := List.length_pos_iff.2 h
  have h1 : p.length - 1 < p.length := by omega
  rw [List.dropLast_eq_take, getD_lt 0 h1, ← List.take_succ_eq_append_getElem h1, List.take_of_length_le (by omega)]
theorem txt_dropLast_lt (p : Txt) (h : p ≠ []) : p.dropLast < p := by
  have := txt_lt_snoc p.dropLast (p.getD (p.length - 1) 0)
  rwa [dropLast_getD p h] at this
/-- The empty text is there, and each text's beginning. -/
def Clo (P : List Txt) : Prop := [] ∈ P ∧ ∀ p ∈ P, p ≠ [] → p.dropLast ∈ P
/-- The beginnings of a text but the empty one. -/
def begs (w : Txt) : List Txt := (List.range w.length).map fun n => w.take (n + 1)
/-- The beginnings of some texts. -/
def preL (ws : List Txt) : List Txt := setL ([] :: ws.flatMap begs)
theorem mem_begs {w p : Txt} : p ∈ begs w ↔ p ≠ [] ∧ p <+: w := by
  constructor
  · intro h
    obtain ⟨n, hn, rfl⟩ := List.mem_map.1 h
    rw [List.mem_range] at hn
    exact ⟨fun e => by have := congrArg List.length e; rw [List.length_take, List.length_nil] at this; omega, List.take_prefix _ _⟩
  · rintro ⟨h1, h2⟩
    have h3 := h2.length_le
    have h4 := List.length_pos_iff.2 h1
    refine List.mem_map.2 ⟨p.length - 1, List.mem_range.2 (by omega), ?_⟩
    rw [show p.length - 1 + 1 = p.length from by omega]
    exact (List.prefix_iff_eq_take.1 h2).symm
theorem mem_preL {ws : List Txt} {p : Txt} : p ∈ preL ws ↔ p = [] ∨ ∃ w ∈ ws, p ≠ [] ∧ p <+: w := by
  unfold preL
  rw [mem_setL, List.mem_cons, List.mem_flatMap]
  simp only [mem_begs]
theorem clo_preL (ws : List Txt) : Clo (preL ws) := by
  refine ⟨mem_preL.2 (.inl rfl), fun p hp hne => ?_⟩
  rcases mem_preL.1 hp with rfl | ⟨w, hw, _, h⟩
  · exact absurd rfl hne
  · by_cases h0 : p.dropLast = []
    · rw [h0]; exact mem_preL.2 (.inl rfl)
    · exact mem_preL.2 (.inr ⟨w, hw, h0, (List.dropLast_prefix p).trans h⟩)
theorem asc_preL (ws : List Txt) : Asc (preL ws) := asc_setL _
theorem self_preL {ws : List Txt} {w : Txt} (h : w ∈ ws) : w ∈ preL ws := by
  by_cases h0 : w = []
  · rw [h0]; exact mem_preL.2 (.inl rfl)
  · exact mem_preL.2 (.inr ⟨w, h, h0, List.prefix_refl _⟩)
theorem preL_congr {ws vs : List Txt} (h : ∀ w, w ∈ ws ↔ w ∈ vs) : preL ws = preL vs :=
  asc_ext _ _ (asc_preL _) (asc_preL _) fun y => by rw [mem_preL, mem_preL]; simp only [h]
theorem foldl_putL_len : ∀ (l acc : List Txt), (l.foldl putL acc).length ≤ acc.length + l.length
  | [], _ => Nat.le_refl _
  | x :: l, acc => by
    have h1 := foldl_putL_len l (putL acc x)
    have h2 := putL_length_le acc x
    rw [List.foldl_cons, List.length_cons]; omega
theorem setL_length_le (l : List Txt) : (setL l).length ≤ l.length := by have := foldl_putL_len l []; simpa [setL] using this
theorem begs_length (w : Txt) : (begs w).length = w.length := by simp [begs]
theorem flatMap_begs_length : ∀ (ws : List Txt), (∀ w ∈ ws, w.length ≤ 12) → (ws.flatMap begs).length ≤ 12 * ws.length
  | [], _ => by simp
  | w :: ws, h => by
    have h1 := flatMap_begs_length ws fun x hx => h x (List.mem_cons_of_mem _ hx)
    have h2 := h w (by simp)
    rw [List.flatMap_cons, List.length_append, begs_length, List.length_cons]; omega
theorem preL_length {ws : List Txt} (h : ∀ w ∈ ws, w.length ≤ 12) : (preL ws).length ≤ 12 * ws.length + 1 := by
  have h1 := flatMap_begs_length ws h
  have h2 := setL_length_le ([] :: ws.flatMap begs)
  unfold preL
  rw [List.length_cons] at h2
  omega
/-- The place of a text in a list. -/
def placeL : List Txt → Txt → Nat
  | [], _ => 0
  | x :: r, p => if x = p then 0 else placeL r p + 1
theorem placeL_le : ∀ (P : List Txt) (p : Txt), placeL P p ≤ P.length
  | [], _ => Nat.le_refl _
  | x :: r, p => by
    have := placeL_le r p
    by_cases h : x = p
    · simp [placeL, h]
    · simp only [placeL, if_neg h, List.length_cons]; omega
theorem placeL_mem : ∀ {P : List Txt} {p : Txt}, p ∈ P → placeL P p < P.length ∧ P.getD (placeL P p) [] = p
  | [], _, h => by simp at h
  | x :: r, p, h => by
    by_cases h0 : x = p
    · simp [placeL, h0]
    · have h1 : p ∈ r := by
        rcases List.mem_cons.1 h with e | e
        · exact absurd e.symm h0
        · exact e
      obtain ⟨h2, h3⟩ := placeL_mem h1
      simp only [placeL, if_neg h0, List.length_cons]
      exact ⟨by omega, by simpa using h3⟩
theorem getD_mem {P : List Txt} {i : Nat} (h : i < P.length) : P.getD i [] ∈ P := by rw [getD_lt [] h]; exact List.getElem_mem h
theorem asc_get {P : List Txt} (hA : Asc P) {i j : Nat} (hj : j < P.length) (hij : i < j) : P.getD i [] < P.getD j [] := by
  have := List.pairwise_iff_getElem.1 hA i j (by omega) hj hij
  rwa [getD_lt [] hj, getD_lt [] (show i < P.length by omega)]
theorem asc_get_lt {P : List Txt} (hA : Asc P) {i j : Nat} (hi : i < P.length) (hj : j < P.length) (h : P.getD i [] < P.getD j []) : i < j := by
  rcases Nat.lt_trichotomy i j with h1 | h1 | h1
  · exact h1
  · subst h1; exact absurd h (txt_irrefl _)
  · exact absurd (asc_get hA hi h1) (txt_asymm h)
theorem asc_inj {P : List Txt} (hA : Asc P) {i j : Nat} (hi : i < P.length) (hj : j < P.length) (h : P.getD i [] = P.getD j []) : i = j := by
  rcases Nat.lt_trichotomy i j with h1 | h1 | h1
  · exact absurd (h ▸ asc_get hA hj h1) (txt_irrefl _)
  · exact h1
  · exact absurd (h ▸ asc_get hA hi h1) (txt_irrefl _)
theorem placeL_get {P : List Txt} (hA : Asc P) {i : Nat} (hi : i < P.length) : placeL P (P.getD i []) = i := by
  obtain ⟨h1, h2⟩ := placeL_mem (getD_mem hi)
  exact asc_inj hA h1 hi h2
theorem clo_zero {P : List Txt} (hA : Asc P) (hC : Clo P) : 0 < P.length ∧ P.getD 0 [] = [] := by
  obtain ⟨h1, h2⟩ := placeL_mem hC.1
  refine ⟨by omega, ?_⟩
  rcases Nat.eq_zero_or_pos (placeL P []) with h0 | h0
  · rwa [h0] at h2
  · have := asc_get hA h1 h0
    rw [h2] at this
    exact absurd this (List.not_lt_nil _)
theorem clo_pos {P : List Txt} (hA : Asc P) (hC : Clo P) {i : Nat} (hi : i < P.length) (h0 : 0 < i) : P.getD i [] ≠ [] := fun e => by
  obtain ⟨h1, h2⟩ := clo_zero hA hC
  have := asc_inj hA hi h1 (e.trans h2.symm)
  omega
/-- The place of a node's parent comes ahead of it. -/
theorem clo_parent {P : List Txt} (hA : Asc P) (hC : Clo P) {i : Nat} (hi : i < P.length) (h0 : 0 < i) :
    placeL P (P.getD i []).dropLast < i ∧ P.getD (placeL P (P.getD i []).dropLast) [] = (P.getD i []).dropLast := by
  have hne := clo_pos hA hC hi h0
  obtain ⟨h1, h2⟩ := placeL_mem (hC.2 _ (getD_mem hi) hne)
  exact ⟨asc_get_lt hA h1 hi (by rw [h2]; exact txt_dropLast_lt _ hne), h2⟩
/-- A node: its letter, its parent's place, and whether a word ends there. -/
def ltrOf (p : Txt) : Int := (((p.getD (p.length - 1) 0).toNat : Int) - 97) % 256
def ndL (P ws : List Txt) (p : Txt) : Int × Int × Bool := (if p = [] then -1 else ltrOf p, if p = [] then -1 else (placeL P p.dropLast : Int), decide (p ∈ ws))
def nodesL (P ws : List Txt) : List (Int × Int × Bool) := P.map (ndL P ws)
/-- A word: at most twelve letters. -/
def wordL (w : Txt) : Bool := w.all letterB && decide (w.length ≤ 12)
/-- Words as a valid trie has them. -/
structure OkW (ws : List Txt) : Prop where
  asc : Asc ws
  len : ws.length ≤ 40
  word : ∀ w ∈ ws, wordL w = true
theorem wordL_iff {w : Txt} : wordL w = true ↔ (∀ c ∈ w, letterB c = true) ∧ w.length ≤ 12 := by
  unfold wordL
  rw [Bool.and_eq_true, List.all_eq_true, decide_eq_true_eq]
theorem OkW.le {ws : List Txt} (h : OkW ws) : ∀ w ∈ ws, w.length ≤ 12 := fun w hw => (wordL_iff.1 (h.word w hw)).2
theorem OkW.pre {ws : List Txt} (h : OkW ws) : (preL ws).length ≤ 481 := by
  have h1 := preL_length h.le
  have h2 := h.len
  omega
theorem wordL_pre {p w : Txt} (h : p <+: w) (hw : wordL w = true) : wordL p = true := by
  obtain ⟨h1, h2⟩ := wordL_iff.1 hw
  exact wordL_iff.2 ⟨fun c hc => h1 c (h.subset hc), Nat.le_trans h.length_le h2⟩
theorem preL_word {ws : List Txt} (h : ∀ w ∈ ws, wordL w = true) {p : Txt} (hp : p ∈ preL ws) : wordL p = true := by
  rcases mem_preL.1 hp with rfl | ⟨w, hw, _, h1⟩
  · rfl
  · exact wordL_pre h1 (h w hw)
theorem letter_bd {c : UInt8} (h : letterB c = true) : 97 ≤ c.toNat ∧ c.toNat ≤ 122 := by simpa [letterB] using h
theorem getLast_mem {p : Txt} (h : p ≠ []) : p.getD (p.length - 1) 0 ∈ p := by
  have := List.length_pos_iff.2 h
  rw [getD_lt 0 (show p.length - 1 < p.length by omega)]
  exact List.getElem_mem _
theorem ltrOf_bd {p : Txt} (hw : wordL p = true) (h : p ≠ []) : ltrOf p = ((p.getD (p.length - 1) 0).toNat : Int) - 97 ∧ 0 ≤ ltrOf p ∧ ltrOf p ≤ 25 := by
  have h1 := letter_bd ((wordL_iff.1 hw).1 _ (getLast_mem h))
  unfold ltrOf
  omega
/-- The words of a list of texts that are there: they come out again. -/
theorem filter_preL {ws : List Txt} (h : Asc ws) : (preL ws).filter (fun p => decide (p ∈ ws)) = ws := by
  refine asc_ext _ _ ((asc_preL ws).filter _) h fun y => ?_
  rw [List.mem_filter, decide_eq_true_eq]
  exact ⟨fun h => h.2, fun h => ⟨self_preL h, h⟩⟩

end Go.Proofs.Ytgagmodkjmegeaa.M

namespace Go.Proofs.Ytgagmodkjmegeaa.M
open Go.RowKit Go.Proofs.YtgagmodkjmegeaaW.PrintWords
theorem rdB (l : List Txt) (n : Nat) (h : n < l.length) : rdOf ByteArray.empty (l.map B) (n : Int) = B (l.getD n []) := by
  simp [rdOf, List.getD_eq_getElem?_getD, h]
theorem exBs (l : List ByteArray) : ∃ m : List Txt, l = m.map B := ⟨l.map fun x => x.data.toList, by rw [List.map_map]; exact ((List.map_congr_left (fun x _ => B_data x)).trans (List.map_id _)).symm⟩
theorem map_B_inj {l m : List Txt} (h : l.map B = m.map B) : l = m := (List.map_inj_right (fun _ _ h => B_inj h)).1 h

end Go.Proofs.Ytgagmodkjmegeaa.M

namespace Go.Proofs.Ytgagmodkjmegeaa.M
open Go.Lib
theorem keeps_iff (d : Array Txt) (j : Nat) : keeps d j = true ↔ (j = 0 ∨ d[j]! ≠ d[j - 1]!) := by simp [keeps]
theorem mem_compact (zs : List Txt) (y : Txt) : y ∈ compact zs ↔ y ∈ zs := by
  unfold compact compactUpTo
  simp only [List.mem_map, List.mem_filter, List.mem_range]
  constructor
  · rintro ⟨j, ⟨hj, _⟩, rfl⟩
    rw [getElem!_pos zs.toArray j (by simpa using hj)]
    simp
  · intro hy
    have hex : ∃ n, ∃ h : n < zs.length, zs[n] = y := by
      obtain ⟨n, h, e⟩ := List.mem_iff_getElem.1 hy
      exact ⟨n, h, e⟩
    have key : ∀ n, (∃ h : n < zs.length, zs[n] = y) → ∃ m, m < zs.length ∧ keeps zs.toArray m = true ∧ zs.toArray[m]! = y := by
      intro n
      induction n with
      | zero => rintro ⟨h, e⟩; exact ⟨0, h, (keeps_iff _ _).2 (.inl rfl), by rw [getElem!_pos zs.toArray 0 (by simpa using h)]; simpa using e⟩
      | succ n ih =>
        rintro ⟨h, e⟩
        have e1 : zs.toArray[n + 1]! = y := by rw [getElem!_pos zs.toArray (n + 1) (by simpa using h)]; simpa using e
        by_cases hk : keeps zs.toArray (n + 1) = true
        · exact ⟨n + 1, h, hk, e1⟩
        · have : zs.toArray[n + 1]! = zs.toArray[n]! := by
            by_cases h9 : zs.toArray[n + 1]! = zs.toArray[n]!
            · exact h9
            · exact absurd ((keeps_iff _ _).2 (.inr h9)) hk
          refine ih ⟨by omega, ?_⟩
          have h2 : zs.toArray[n]! = zs[n] := by rw [getElem!_pos zs.toArray n (by simp; omega)]; simp
          rw [← h2, ← this, e1]
    obtain ⟨n, h⟩ := hex
    obtain ⟨m, h1, h2, h3⟩ := key n h
    exact ⟨m, ⟨h1, h2⟩, h3⟩
theorem pair_get {zs : List Txt} (h : zs.Pairwise (fun a b => decide (a ≤ b) = true)) {i j : Nat} (hij : i < j) (hj : j < zs.length) : zs.toArray[i]! ≤ zs.toArray[j]! := by
  have := List.pairwise_iff_getElem.1 h i j (by omega) hj hij
  rw [getElem!_pos zs.toArray i (by simp; omega), getElem!_pos zs.toArray j (by simpa using hj)]
  simpa using this
theorem asc_compact {zs : List Txt} (h : zs.Pairwise (fun a b => decide (a ≤ b) = true)) : Asc (compact zs) := by
  unfold Asc compact compactUpTo
  rw [List.pairwise_map]
  have h1 : ((List.range zs.length).filter (keeps zs.toArray)).Pairwise (· < ·) := List.Pairwise.filter _ List.pairwise_lt_range
  refine List.Pairwise.imp_of_mem ?_ h1
  intro a b ha hb hab
  rw [List.mem_filter, List.mem_range] at ha hb
  have hk := (keeps_iff _ _).1 hb.2
  have hne : zs.toArray[b]! ≠ zs.toArray[b - 1]! := by
    rcases hk with h0 | h0
    · omega
    · exact h0
  have h2 : zs.toArray[b - 1]! ≤ zs.toArray[b]! := pair_get h (by omega) hb.1
  have h3 : zs.toArray[a]! ≤ zs.toArray[b - 1]! := by
    by_cases e : a = b - 1
    · subst e; exact List.le_refl _
    · exact pair_get h (by omega) (by omega)
  have h4 : zs.toArray[b - 1]! < zs.toArray[b]! := by
    by_cases hlt : zs.toArray[b - 1]! < zs.toArray[b]!
    · exact hlt
    · exact absurd (List.le_antisymm (List.not_lt.1 hlt) h2) hne
  exact List.lt_of_le_of_lt h3 h4
theorem sorted_compact (l : List Txt) : compact (l.mergeSort fun x y => decide (x ≤ y)) = setL l := by
  have hp : (l.mergeSort fun x y => decide (x ≤ y)).Pairwise (fun a b => decide (a ≤ b) = true) := by
    refine List.pairwise_mergeSort ?_ ?_ l
    · intro a b c h1 h2
      simp only [decide_eq_true_eq] at h1 h2 ⊢
      exact List.le_trans h1 h2
    · intro a b
      simp only [Bool.or_eq_true, decide_eq_true_eq]
      exact List.le_total a b
  refine asc_ext _ _ (asc_compact hp) (asc_setL l) fun y => ?_
  rw [mem_compact, List.mem_mergeSort, mem_setL]

end Go.Proofs.Ytgagmodkjmegeaa.M

namespace Go.Proofs.Ytgagmodkjmegeaa.L
open Go.RowKit Go.Proofs.Ytgagmodkjmegeaa.P Go.Proofs.Ytgagmodkjmegeaa.M Go.Proofs.YtgagmodkjmegeaaW.PrintWords Go.Proofs.YtgagmodkjmegeaaW.PrintLast Go.Proofs.YtgagmodkjmegeaaW.PrintMore
set_option linter.unusedVariables false
theorem map_data (l : List Txt) : (l.map B).map (fun x => x.data.toList) = l := by
  rw [List.map_map]
  exact (List.map_congr_left (fun x _ => data_B x)).trans (List.map_id _)
theorem l2Put_eq (l : List Txt) (w : Txt) (h : l.length ≤ 4294967296) (h2 : ∀ x ∈ l, x.length ≤ 4611686018427387900) : spec_l2Put.f (l.map B) (B w) = some ((putL l w).map B) := by
  have hall : ((l.map B).all fun x => decide (x.size ≤ 4611686018427387900)) = true := List.all_eq_true.2 fun x hx => by
    obtain ⟨y, hy, rfl⟩ := List.mem_map.1 hx
    simpa using h2 y hy
  unfold spec_l2Put.f
  rw [map_data, data_B, if_pos ⟨by simpa using h, hall⟩]
theorem set_eq (l : List Txt) (h : l.length ≤ 4294967296) : impl_set.f (l.map B) = some ((setL l).map B) := by
  unfold impl_set.f
  rw [if_pos (by simpa using h), map_data, sorted_compact]
  rfl

end Go.Proofs.Ytgagmodkjmegeaa.L

namespace Go.Proofs.Ytgagmodkjmegeaa.L
open Go.RowKit Go.Proofs.Ytgagmodkjmegeaa.P Go.Proofs.Ytgagmodkjmegeaa.M Go.Proofs.YtgagmodkjmegeaaW.PrintWords Go.Proofs.YtgagmodkjmegeaaW.PrintLast Go.Proofs.YtgagmodkjmegeaaW.PrintMore
set_option linter.unusedVariables false
theorem l1In_eq (a b c : Int) : spec_l1In.f a b c = some (decide (b ≤ a ∧ a ≤ c)) := by
  unfold spec_l1In.f
  by_cases h : b ≤ a
  · rw [if_pos (by omega)]; simp [h]
  · rw [if_neg (by omega)]; simp [h]
instance : DecidableEq S80 := fun a b => if h : a.f0 = b.f0 ∧ a.f1 = b.f1 ∧ a.f2 = b.f2 then isTrue (by obtain ⟨a0, a1, a2⟩ := a; obtain ⟨b0, b1, b2⟩ := b; obtain ⟨h1, h2, h3⟩ := h; simp only at h1 h2 h3; subst h1 h2 h3; rfl) else isFalse (fun e => h (by rw [e]; exact ⟨rfl, rfl, rfl⟩))
def mkN (x : Int × Int × Bool) : S80 := ⟨x.1, x.2.1, x.2.2⟩
def trN (P ws : List Txt) : List S80 := (nodesL P ws).map mkN
theorem trN_length (P ws : List Txt) : (trN P ws).length = P.length := by simp [trN, nodesL]
theorem rdN (P ws : List Txt) (i : Nat) (h : i < P.length) : rd_T80 (trN P ws) (i : Int) = mkN (ndL P ws (P.getD i [])) := by
  unfold rd_T80 trN nodesL
  rw [Int.toNat_natCast, getD_lt _ (by simpa using h), getD_lt _ h]
  simp
theorem strOfNums_B (n : Int) : strOfNums [n] = B [UInt8.ofNat n.toNat] := rfl
theorem letter_back {p : Txt} (hw : wordL p = true) (h : p ≠ []) : strOfNums [(wrap64 (97 + ltrOf p)) % 256] = B [p.getD (p.length - 1) 0] := by
  obtain ⟨h1, h2, h3⟩ := ltrOf_bd hw h
  have h4 := letter_bd ((wordL_iff.1 hw).1 _ (getLast_mem h))
  rw [strOfNums_B]
  congr 2
  have e : (wrap64 (97 + ltrOf p) % 256).toNat = (p.getD (p.length - 1) 0).toNat := by rw [wrap64_id (by omega) (by omega)]; omega
  rw [e]
  simp
/-! words -/
theorem l2Word_loop (l : Txt) (hl : l.length ≤ 4611686018427387903) : ∀ (d n : Nat), n + d = l.length → Ev (fun k => spec_l2Word.l0 k (B l) (n : Int)) ((l.drop n).all letterB && decide (l.length ≤ 12)) := by
  have last : ∀ n : Nat, Ev (fun k => spec_l2Word.j1 k (B l) (n : Int) false) (decide (l.length ≤ 12)) := by
    intro n
    refine Ev.step (fun k => spec_l2Word.j1.eq_2 ..) (Ev.ifF (by simp) ?_)
    have : decide (((B l).size : Int) ≤ 12) = decide (l.length ≤ 12) := by simp; omega
    rw [this]; exact Ev.now _
  intro d
  induction d with
  | zero =>
    intro n hn
    refine Ev.step (fun k => spec_l2Word.l0.eq_2 ..) (Ev.ifF (by simp; omega) ?_)
    rw [List.drop_of_length_le (by omega)]; simpa using last n
  | succ d ih =>
    intro n hn
    have h1 : n < l.length := by omega
    refine Ev.step (fun k => spec_l2Word.l0.eq_2 ..) (Ev.ifT (by simp; omega) ?_)
    rw [drop_cons_getD 0 h1]
    by_cases h16 : n ≤ 12
    · rw [show decide ((n : Int) ≤ 12) = true from by simp; omega]
      refine Ev.step (fun k => spec_l2Word.j1.eq_2 ..) (Ev.ifT rfl (Ev.ifT (by omega) (Ev.ifT (by simp; omega) ?_)))
      simp only [bt_B l n h1]
      by_cases ha : ((l.getD n 0).toNat : Int) < 97
      · refine Ev.ifT ha ?_
        have : letterB (l.getD n 0) = false := by simp only [letterB, decide_eq_false_iff_not]; omega
        simpa only [List.all_cons, this, Bool.false_and] using Ev.now false
      refine Ev.ifF ha ?_
      by_cases hz : ((l.getD n 0).toNat : Int) > 122
      · refine Ev.ifT hz ?_
        have : letterB (l.getD n 0) = false := by simp only [letterB, decide_eq_false_iff_not]; omega
        simpa only [List.all_cons, this, Bool.false_and] using Ev.now false
      refine Ev.ifF hz ?_
      have : letterB (l.getD n 0) = true := by simp only [letterB, decide_eq_true_eq]; omega
      simpa only [wrap64_succ n (by omega), List.all_cons, this, Bool.true_and] using ih (n + 1) (by omega)
    · rw [show decide ((n : Int) ≤ 12) = false from by simp; omega]
      have : ((l.getD n 0 :: l.drop (n + 1)).all letterB && decide (l.length ≤ 12)) = decide (l.length ≤ 12) := by
        have : decide (l.length ≤ 12) = false := by simp; omega
        rw [this]; simp
      rw [this]; exact last n
theorem l2Word_ev (l : Txt) (hl : l.length ≤ 4611686018427387903) : Ev (fun k => spec_l2Word.f k (B l)) (wordL l) := by
  simpa [spec_l2Word.f, wordL] using l2Word_loop l hl l.length 0 (by omega)
/-! prefixes -/
theorem l2Prefix_last (x1 : Int) (s : Txt) (N : List S80) : Ev (fun k => spec_l2Prefix.j1 k x1 (B s) false N) (if x1 = 0 then B s else B [63]) := by
  refine Ev.step (fun k => spec_l2Prefix.j1.eq_2 ..) (Ev.ifF (by simp) ?_)
  by_cases h : x1 = 0
  · have e : (if x1 = 0 then B s else B [63]) = B s := if_pos h
    rw [e]; exact Ev.ifT h (Ev.now _)
  · have e : (if x1 = 0 then B s else B [63]) = B [63] := if_neg h
    rw [e]; exact Ev.ifF h (Ev.now _)
theorem l2Prefix_ex (N : List S80) : ∀ (d : Nat) (x1 : Int) (s : Txt), x1.toNat ≤ d → x1 < N.length → s.length ≤ 13 → ∃ r : Txt, r.length ≤ 13 ∧ Ev (fun k => spec_l2Prefix.l0 k x1 (B s) N) (B r) := by
  have low : ∀ (x1 : Int) (s : Txt), x1 ≤ 0 → s.length ≤ 13 → ∃ r : Txt, r.length ≤ 13 ∧ Ev (fun k => spec_l2Prefix.l0 k x1 (B s) N) (B r) := by
    intro x1 s h1 h2
    have hl := l2Prefix_last x1 s N
    by_cases h : x1 = 0
    · rw [if_pos h] at hl; exact ⟨s, h2, Ev.step (fun k => spec_l2Prefix.l0.eq_2 ..) (Ev.ifF (by omega) hl)⟩
    · rw [if_neg h] at hl; exact ⟨[63], by simp, Ev.step (fun k => spec_l2Prefix.l0.eq_2 ..) (Ev.ifF (by omega) hl)⟩
  intro d
  induction d with
  | zero => intro x1 s h1 h2 h3; exact low x1 s (by omega) h3
  | succ d ih =>
    intro x1 s h1 h2 h3
    by_cases hp : x1 ≤ 0
    · exact low x1 s hp h3
    by_cases h12 : s.length ≤ 12
    · have hd : decide (((B s).size : Int) ≤ 12) = true := by simp; omega
      by_cases hin : (0 : Int) ≤ (rd_T80 N x1).f0 ∧ (rd_T80 N x1).f0 ≤ 25
      · by_cases hpar : (rd_T80 N x1).f1 ≥ x1
        · refine ⟨[63], by simp, Ev.step (fun k => spec_l2Prefix.l0.eq_2 ..) (Ev.ifT (by omega) ?_)⟩
          rw [hd]
          refine Ev.step (fun k => spec_l2Prefix.j1.eq_2 ..) (Ev.ifT rfl (Ev.ifT (by omega) (Ev.ifT h2 ?_)))
          rw [l1In_eq, decide_eq_true hin]
          exact Ev.some_bind (Ev.ifT rfl (Ev.ifT hpar (Ev.now _)))
        · obtain ⟨r, hr, he⟩ := ih (rd_T80 N x1).f1 (UInt8.ofNat ((wrap64 (97 + (rd_T80 N x1).f0)) % 256).toNat :: s) (by omega) (by omega) (by simp; omega)
          refine ⟨r, hr, Ev.step (fun k => spec_l2Prefix.l0.eq_2 ..) (Ev.ifT (by omega) ?_)⟩
          rw [hd]
          refine Ev.step (fun k => spec_l2Prefix.j1.eq_2 ..) (Ev.ifT rfl (Ev.ifT (by omega) (Ev.ifT h2 ?_)))
          rw [l1In_eq, decide_eq_true hin]
          refine Ev.some_bind (Ev.ifT rfl (Ev.ifF hpar (Ev.some_bind ?_)))
          rw [strOfNums_B, append_B]
          exact Ev.ifT (by simp; omega) he
      · refine ⟨[63], by simp, Ev.step (fun k => spec_l2Prefix.l0.eq_2 ..) (Ev.ifT (by omega) ?_)⟩
        rw [hd]
        refine Ev.step (fun k => spec_l2Prefix.j1.eq_2 ..) (Ev.ifT rfl (Ev.ifT (by omega) (Ev.ifT h2 ?_)))
        rw [l1In_eq, decide_eq_false hin]
        exact Ev.some_bind (Ev.ifF (by simp) (Ev.now _))
    · have hd : decide (((B s).size : Int) ≤ 12) = false := by simp; omega
      refine ⟨[63], by simp, Ev.step (fun k => spec_l2Prefix.l0.eq_2 ..) (Ev.ifT (by omega) ?_)⟩
      rw [hd]
      have hl := l2Prefix_last x1 s N
      rwa [if_neg (by omega)] at hl
theorem l2Prefix_up {P : List Txt} (ws : List Txt) (hA : Asc P) (hC : Clo P) (hW : ∀ p ∈ P, wordL p = true) : ∀ (n : Nat) (p s : Txt), p.length = n → p ∈ P → (p ++ s).length ≤ 12 → Ev (fun k => spec_l2Prefix.l0 k (placeL P p : Int) (B s) (trN P ws)) (B (p ++ s)) := by
  intro n
  induction n with
  | zero =>
    intro p s h1 h2 h3
    have hp : p = [] := List.eq_nil_of_length_eq_zero h1
    subst hp
    obtain ⟨z1, z2⟩ := clo_zero hA hC
    have hz : placeL P [] = 0 := by have := placeL_get hA z1; rwa [z2] at this
    rw [hz]
    have hl := l2Prefix_last ((0 : Nat) : Int) s (trN P ws)
    exact Ev.step (fun k => spec_l2Prefix.l0.eq_2 ..) (Ev.ifF (by simp) (by simpa using hl))
  | succ n ih =>
    intro p s h1 h2 h3
    have hne : p ≠ [] := fun e => by rw [e] at h1; simp at h1
    obtain ⟨i1, i2⟩ := placeL_mem h2
    have i3 : 0 < placeL P p := by
      rcases Nat.eq_zero_or_pos (placeL P p) with h0 | h0
      · rw [h0, (clo_zero hA hC).2] at i2; exact absurd i2.symm hne
      · exact h0
    obtain ⟨j1, j2⟩ := clo_parent hA hC i1 i3
    rw [i2] at j1 j2
    have hsl : s.length ≤ 12 := by rw [List.length_append] at h3; omega
    have hd : decide (((B s).size : Int) ≤ 12) = true := by simp; omega
    have hf : rd_T80 (trN P ws) (placeL P p : Int) = ⟨ltrOf p, (placeL P p.dropLast : Int), decide (p ∈ ws)⟩ := by
      rw [rdN P ws _ i1, i2]; unfold mkN ndL; rw [if_neg hne, if_neg hne]
    obtain ⟨_, b1, b2⟩ := ltrOf_bd (hW p h2) hne
    refine Ev.step (fun k => spec_l2Prefix.l0.eq_2 ..) (Ev.ifT (by omega) ?_)
    rw [hd]
    refine Ev.step (fun k => spec_l2Prefix.j1.eq_2 ..) (Ev.ifT rfl (Ev.ifT (by omega) (Ev.ifT (by rw [trN_length]; omega) ?_)))
    rw [hf, l1In_eq, decide_eq_true ⟨b1, b2⟩]
    refine Ev.some_bind (Ev.ifT rfl (Ev.ifF (by show ¬ ((placeL P p.dropLast : Nat) : Int) ≥ ((placeL P p : Nat) : Int); omega) (Ev.some_bind ?_)))
    rw [letter_back (hW p h2) hne, append_B]
    have hpd : p.dropLast.length = n := by rw [List.length_dropLast]; omega
    have e1 : p.dropLast ++ ([p.getD (p.length - 1) 0] ++ s) = p ++ s := by rw [← List.append_assoc, dropLast_getD p hne]
    refine Ev.ifT (by simp; omega) ?_
    have := ih p.dropLast ([p.getD (p.length - 1) 0] ++ s) hpd (hC.2 p h2 hne) (by rw [e1]; exact h3)
    rwa [e1] at this
theorem l2Prefix_ev {P : List Txt} (ws : List Txt) (hA : Asc P) (hC : Clo P) (hW : ∀ p ∈ P, wordL p = true) (i : Nat) (hi : i < P.length) : Ev (fun k => spec_l2Prefix.f k (trN P ws) (i : Int)) (B (P.getD i [])) := by
  have hm := getD_mem hi
  have := l2Prefix_up ws hA hC hW _ (P.getD i []) [] rfl hm (by rw [List.append_nil]; exact (wordL_iff.1 (hW _ hm)).2)
  rw [placeL_get hA hi, List.append_nil] at this
  exact this
/-! words of a trie -/
theorem l2Words_loop_ex (N : List S80) (hN : N.length ≤ 4294967296) : ∀ (d i : Nat) (acc : List Txt), i + d = N.length → acc.length ≤ i → (∀ w ∈ acc, w.length ≤ 13) →
    ∃ ws : List Txt, ws.length ≤ N.length ∧ (∀ w ∈ ws, w.length ≤ 13) ∧ Ev (fun k => spec_l2Words.l0 k (acc.map B) (i : Int) N) (ws.map B) := by
  intro d
  induction d with
  | zero => intro i acc h1 h2 h3; exact ⟨acc, by omega, h3, Ev.step (fun k => spec_l2Words.l0.eq_2 ..) (Ev.ifF (by omega) (Ev.now _))⟩
  | succ d ih =>
    intro i acc h1 h2 h3
    by_cases hf : (rd_T80 N (i : Int)).f2 = true
    · obtain ⟨r, hr, he⟩ := l2Prefix_ex N i (i : Int) [] (by omega) (by omega) (by simp)
      obtain ⟨ws, w1, w2, w3⟩ := ih (i + 1) (acc ++ [r]) (by omega) (by simp; omega) (fun w hw => by
        rcases List.mem_append.1 hw with hw | hw
        · exact h3 w hw
        · rw [List.mem_singleton.1 hw]; exact hr)
      refine ⟨ws, w1, w2, Ev.step (fun k => spec_l2Words.l0.eq_2 ..) (Ev.ifT (by omega) (Ev.ifT (by omega) (Ev.ifT hf (Ev.bind (f := fun k t => if (acc.map B).length < 8796093022208 then spec_l2Words.l0 k (acc.map B ++ [t]) (wrap64 ((i : Int) + 1)) N else none) he (Ev.ifT (by simp; omega) ?_)))))⟩
      simpa only [wrap64_succ i (by omega), List.map_append, List.map_cons, List.map_nil] using w3
    · obtain ⟨ws, w1, w2, w3⟩ := ih (i + 1) acc (by omega) (by omega) h3
      refine ⟨ws, w1, w2, Ev.step (fun k => spec_l2Words.l0.eq_2 ..) (Ev.ifT (by omega) (Ev.ifT (by omega) (Ev.ifF hf ?_)))⟩
      simpa only [wrap64_succ i (by omega)] using w3
theorem l2Words_ex (N : List S80) (hN : N.length ≤ 4294967296) : ∃ ws : List Txt, ws.length ≤ N.length ∧ (∀ w ∈ ws, w.length ≤ 13) ∧ Ev (fun k => spec_l2Words.f k N) (ws.map B) :=
  l2Words_loop_ex N hN N.length 0 [] (by omega) (by simp) (by simp)
theorem l2Words_loop {P : List Txt} (ws : List Txt) (hA : Asc P) (hC : Clo P) (hW : ∀ p ∈ P, wordL p = true) (hP : P.length ≤ 4294967296) : ∀ (d i : Nat) (acc : List Txt), i + d = P.length → acc.length ≤ i →
    Ev (fun k => spec_l2Words.l0 k (acc.map B) (i : Int) (trN P ws)) ((acc ++ (P.drop i).filter (fun p => decide (p ∈ ws))).map B) := by
  intro d
  induction d with
  | zero =>
    intro i acc h1 h2
    rw [List.drop_of_length_le (by omega)]
    exact Ev.step (fun k => spec_l2Words.l0.eq_2 ..) (Ev.ifF (by rw [trN_length]; omega) (by simpa using Ev.now _))
  | succ d ih =>
    intro i acc h1 h2
    have hi : i < P.length := by omega
    have hf : (rd_T80 (trN P ws) (i : Int)).f2 = decide (P.getD i [] ∈ ws) := by rw [rdN P ws i hi]; rfl
    rw [drop_cons_getD [] hi, List.filter_cons]
    by_cases hm : P.getD i [] ∈ ws
    · rw [decide_eq_true hm] at hf
      rw [decide_eq_true hm, if_pos rfl]
      refine Ev.step (fun k => spec_l2Words.l0.eq_2 ..) (Ev.ifT (by rw [trN_length]; omega) (Ev.ifT (by omega) (Ev.ifT hf (Ev.bind (f := fun k t => if (acc.map B).length < 8796093022208 then spec_l2Words.l0 k (acc.map B ++ [t]) (wrap64 ((i : Int) + 1)) (trN P ws) else none) (l2Prefix_ev ws hA hC hW i hi) (Ev.ifT (by simp; omega) ?_)))))
      have := ih (i + 1) (acc ++ [P.getD i []]) (by omega) (by simp; omega)
      simpa only [wrap64_succ i (by omega), List.map_append, List.map_cons, List.map_nil, List.append_assoc, List.singleton_append] using this
    · rw [decide_eq_false hm] at hf
      rw [decide_eq_false hm, if_neg Bool.false_ne_true]
      refine Ev.step (fun k => spec_l2Words.l0.eq_2 ..) (Ev.ifT (by rw [trN_length]; omega) (Ev.ifT (by omega) (Ev.ifF (by rw [hf]; exact Bool.false_ne_true) ?_)))
      simpa only [wrap64_succ i (by omega)] using ih (i + 1) acc (by omega) (by omega)
theorem l2Words_ev {ws : List Txt} (h : OkW ws) : Ev (fun k => spec_l2Words.f k (trN (preL ws) ws)) (ws.map B) := by
  have := l2Words_loop ws (asc_preL ws) (clo_preL ws) (fun p hp => preL_word h.word hp) (by have := h.pre; omega) (preL ws).length 0 [] (by omega) (by simp)
  rw [List.drop_zero, List.nil_append, filter_preL h.asc] at this
  exact this
/-! sets -/
def setR : List Txt → List Txt → List ByteArray × Bool
  | [], acc => (acc.map B, decide (acc.length ≤ 40))
  | w :: r, acc => if wordL w = true then setR r (putL acc w) else ([], false)
theorem setR_eq : ∀ (l acc : List Txt), setR l acc = if l.all wordL = true then ((l.foldl putL acc).map B, decide ((l.foldl putL acc).length ≤ 40)) else ([], false)
  | [], acc => rfl
  | w :: r, acc => by
    unfold setR
    rw [setR_eq r (putL acc w), List.all_cons, List.foldl_cons]
    cases h : wordL w with
    | false => rw [if_neg Bool.false_ne_true, if_neg (by rw [Bool.false_and]; exact Bool.false_ne_true)]
    | true => rw [if_pos rfl, Bool.true_and]
theorem l2Set_loop (ws : List Txt) (hl : ws.length ≤ 2147483648) (hw : ∀ w ∈ ws, w.length ≤ 13) : ∀ (d i : Nat) (acc : List Txt), i + d = ws.length → acc.length ≤ i → (∀ w ∈ acc, w.length ≤ 13) →
    Ev (fun k => spec_l2Set.l0 k (ws.map B) (acc.map B) (i : Int)) (setR (ws.drop i) acc) := by
  intro d
  induction d with
  | zero =>
    intro i acc h1 h2 h3
    rw [List.drop_of_length_le (by omega)]
    refine Ev.step (fun k => spec_l2Set.l0.eq_2 ..) (Ev.ifF (by simp; omega) ?_)
    have : decide (((acc.map B).length : Int) ≤ 40) = decide (acc.length ≤ 40) := by
      rw [List.length_map]; exact decide_eq_decide.2 (by omega)
    rw [this]
    exact Ev.now _
  | succ d ih =>
    intro i acc h1 h2 h3
    have hi : i < ws.length := by omega
    have hm := getD_mem hi
    rw [drop_cons_getD [] hi]
    refine Ev.step (fun k => spec_l2Set.l0.eq_2 ..) (Ev.ifT (by simp; omega) (Ev.ifT (by omega) ?_))
    rw [rdB ws i hi]
    refine Ev.bind (f := fun k t => if t = true then (spec_l2Put.f (acc.map B) (B (ws.getD i []))).bind fun t165 => spec_l2Set.l0 k (ws.map B) t165 (wrap64 ((i : Int) + 1)) else some ([], false)) (l2Word_ev _ (by have := hw _ hm; omega)) ?_
    unfold setR
    cases hq : wordL (ws.getD i []) with
    | false =>
      rw [if_neg Bool.false_ne_true]
      exact Ev.ifF Bool.false_ne_true (Ev.now _)
    | true =>
      rw [if_pos (show true = true from rfl)]
      refine Ev.ifT rfl ?_
      rw [l2Put_eq acc _ (by omega) (fun x hx => by have := h3 x hx; omega)]
      refine Ev.some_bind ?_
      have h6 := putL_length_le acc (ws.getD i [])
      have := ih (i + 1) (putL acc (ws.getD i [])) (by omega) (by omega) (fun x hx => by
        rcases (mem_putL _ _ _).1 hx with rfl | hx
        · exact hw _ hm
        · exact h3 x hx)
      rw [wrap64_succ i (by omega)]
      exact this
theorem l2Set_ev (ws : List Txt) (hl : ws.length ≤ 2147483648) (hw : ∀ w ∈ ws, w.length ≤ 13) : Ev (fun k => spec_l2Set.f k (ws.map B)) (if ws.all wordL = true then ((setL ws).map B, decide ((setL ws).length ≤ 40)) else ([], false)) := by
  have := l2Set_loop ws hl hw ws.length 0 [] (by omega) (by simp) (by simp)
  rw [List.drop_zero, setR_eq] at this
  exact this
/-! the trie of words -/
theorem l2Has_loop (l : List Txt) (p : Txt) (hl : l.length ≤ 4611686018427387903) : ∀ (d i : Nat), i + d = l.length → Ev (fun k => spec_l2Has.l0 k (l.map B) (B p) (i : Int)) (decide (p ∈ l.drop i)) := by
  intro d
  induction d with
  | zero =>
    intro i h
    rw [List.drop_of_length_le (by omega)]
    exact Ev.step (fun k => spec_l2Has.l0.eq_2 ..) (Ev.ifF (by simp; omega) (by simpa using Ev.now false))
  | succ d ih =>
    intro i h
    have hi : i < l.length := by omega
    refine Ev.step (fun k => spec_l2Has.l0.eq_2 ..) (Ev.ifT (by simp; omega) (Ev.ifT (by omega) ?_))
    rw [rdB l i hi, drop_cons_getD [] hi, toList_B, toList_B]
    by_cases e : l.getD i [] = p
    · rw [show decide (p ∈ l.getD i [] :: l.drop (i + 1)) = true from decide_eq_true (by rw [e]; exact List.mem_cons_self)]
      exact Ev.ifT e (Ev.now _)
    · rw [show decide (p ∈ l.getD i [] :: l.drop (i + 1)) = decide (p ∈ l.drop (i + 1)) from decide_eq_decide.2 ⟨fun h => (List.mem_cons.1 h).resolve_left (fun q => e q.symm), fun h => List.mem_cons_of_mem _ h⟩]
      refine Ev.ifF e ?_
      rw [wrap64_succ i (by omega)]
      exact ih (i + 1) (by omega)
theorem l2Has_ev (l : List Txt) (p : Txt) (hl : l.length ≤ 4611686018427387903) : Ev (fun k => spec_l2Has.f k (l.map B) (B p)) (decide (p ∈ l)) := by
  have := l2Has_loop l p hl l.length 0 (by omega)
  rw [List.drop_zero] at this
  exact this
theorem l2Place_loop (l : List Txt) (p : Txt) (hl : l.length ≤ 4611686018427387903) : ∀ (d i : Nat), i + d = l.length → Ev (fun k => spec_l2Place.l0 k (l.map B) (B p) (i : Int)) (if p ∈ l.drop i then ((i + placeL (l.drop i) p : Nat) : Int) else -1) := by
  intro d
  induction d with
  | zero =>
    intro i h
    rw [List.drop_of_length_le (by omega)]
    exact Ev.step (fun k => spec_l2Place.l0.eq_2 ..) (Ev.ifF (by simp; omega) (by simpa using Ev.now (-1 : Int)))
  | succ d ih =>
    intro i h
    have hi : i < l.length := by omega
    refine Ev.step (fun k => spec_l2Place.l0.eq_2 ..) (Ev.ifT (by simp; omega) (Ev.ifT (by omega) ?_))
    rw [rdB l i hi, drop_cons_getD [] hi, toList_B, toList_B]
    by_cases e : l.getD i [] = p
    · rw [if_pos (show p ∈ l.getD i [] :: l.drop (i + 1) from by rw [e]; exact List.mem_cons_self), placeL, if_pos e]
      exact Ev.ifT e (Ev.now _)
    · refine Ev.ifF e ?_
      rw [wrap64_succ i (by omega)]
      have h1 := ih (i + 1) (by omega)
      by_cases hm : p ∈ l.drop (i + 1)
      · rw [if_pos hm] at h1
        rw [if_pos (List.mem_cons_of_mem _ hm), placeL, if_neg e]
        rwa [show i + (placeL (l.drop (i + 1)) p + 1) = i + 1 + placeL (l.drop (i + 1)) p from by omega]
      · rw [if_neg hm] at h1
        rw [if_neg (fun h => hm ((List.mem_cons.1 h).resolve_left (fun q => e q.symm)))]
        exact h1
theorem l2Place_ev (l : List Txt) (p : Txt) (hl : l.length ≤ 4611686018427387903) (h : p ∈ l) : Ev (fun k => spec_l2Place.f k (l.map B) (B p)) (placeL l p : Int) := by
  have := l2Place_loop l p hl l.length 0 (by omega)
  rw [List.drop_zero, if_pos h, Nat.zero_add] at this
  exact this
def begF (w : Txt) : Nat → Nat → List Txt
  | _, 0 => []
  | n, d + 1 => w.take n :: begF w (n + 1) d
theorem begF_eq (w : Txt) : ∀ d n, begF w n d = (List.range d).map fun j => w.take (n + j)
  | 0, _ => rfl
  | d + 1, n => by
    rw [begF, begF_eq w d (n + 1), List.range_succ_eq_map, List.map_cons, List.map_map]
    congr 1
    exact List.map_congr_left fun j _ => by show w.take (n + 1 + j) = w.take (n + (j + 1)); congr 1; omega
theorem begs_begF (w : Txt) : begs w = begF w 1 w.length := by
  rw [begF_eq]
  exact List.map_congr_left fun j _ => by congr 1; omega
theorem begF_len (w : Txt) : ∀ d n, (begF w n d).length = d := fun d n => by rw [begF_eq]; simp
theorem l2Of_in (ws : List Txt) (hl : ws.length ≤ 40) (hw : ∀ w ∈ ws, w.length ≤ 12) (i : Nat) (hi : i < ws.length) (r : List S80) (acc2 : List Txt) (hr : Ev (fun k => spec_l2Of.l0 k (ws.map B) (acc2.map B) ((i + 1 : Nat) : Int)) r) :
    ∀ (d n : Nat) (acc : List Txt), 0 < n → n + d = (ws.getD i []).length + 1 → (begF (ws.getD i []) n d).foldl putL acc = acc2 → acc.length + d ≤ 1000 → (∀ x ∈ acc, x.length ≤ 12) → Ev (fun k => spec_l2Of.l1 k (ws.map B) (acc.map B) (i : Int) (n : Int)) r := by
  have hwi := hw _ (getD_mem hi)
  intro d
  induction d with
  | zero =>
    intro n acc h0 h1 h2 h3 h4
    rw [begF, List.foldl_nil] at h2
    subst h2
    refine Ev.step (fun k => spec_l2Of.l1.eq_2 ..) (Ev.ifT (by omega) (Ev.ifT (by simp; omega) (Ev.ifF (by rw [rdB ws i hi, size_B]; omega) ?_)))
    rw [wrap64_succ i (by omega)]
    exact hr
  | succ d ih =>
    intro n acc h0 h1 h2 h3 h4
    refine Ev.step (fun k => spec_l2Of.l1.eq_2 ..) (Ev.ifT (by omega) (Ev.ifT (by simp; omega) (Ev.ifT (by rw [rdB ws i hi, size_B]; omega) (Ev.ifT (by omega) ?_))))
    rw [rdB ws i hi, extract_B, List.drop_zero, Int.toNat_natCast, Nat.sub_zero, l2Put_eq acc _ (by omega) (fun x hx => by have := h4 x hx; omega)]
    refine Ev.some_bind ?_
    rw [wrap64_succ n (by omega)]
    have h6 := putL_length_le acc ((ws.getD i []).take n)
    exact ih (n + 1) (putL acc ((ws.getD i []).take n)) (by omega) (by omega) (by rw [← h2]; rfl) (by omega) (fun x hx => by
      rcases (mem_putL _ _ _).1 hx with rfl | hx
      · rw [List.length_take]; omega
      · exact h4 x hx)
theorem l2Of_out (ws : List Txt) (hl : ws.length ≤ 40) (hw : ∀ w ∈ ws, w.length ≤ 12) (r : List S80) (all : List Txt) (hr : Ev (fun k => spec_l2Of.l2 k (ws.map B) (all.map B) 0 []) r) :
    ∀ (d i : Nat) (acc : List Txt), i + d = ws.length → ((ws.drop i).flatMap begs).foldl putL acc = all → acc.length + 12 * d ≤ 600 → (∀ x ∈ acc, x.length ≤ 12) → Ev (fun k => spec_l2Of.l0 k (ws.map B) (acc.map B) (i : Int)) r := by
  intro d
  induction d with
  | zero =>
    intro i acc h1 h2 h3 h4
    rw [List.drop_of_length_le (by omega), List.flatMap_nil, List.foldl_nil] at h2
    subst h2
    exact Ev.step (fun k => spec_l2Of.l0.eq_2 ..) (Ev.ifF (by simp; omega) hr)
  | succ d ih =>
    intro i acc h1 h2 h3 h4
    have hi : i < ws.length := by omega
    have hwi := hw _ (getD_mem hi)
    rw [drop_cons_getD [] hi, List.flatMap_cons, List.foldl_append] at h2
    have h5 := foldl_putL_len (begs (ws.getD i [])) acc
    rw [begs_length] at h5
    have hn := ih (i + 1) _ (by omega) h2 (by omega) (fun x hx => by
      rcases (foldl_putL_mem _ _ _).1 hx with hx | hx
      · exact Nat.le_trans (mem_begs.1 hx).2.length_le hwi
      · exact h4 x hx)
    refine Ev.step (fun k => spec_l2Of.l0.eq_2 ..) (Ev.ifT (by simp; omega) ?_)
    exact l2Of_in ws hl hw i hi r _ hn (ws.getD i []).length 1 acc (by omega) (by omega) (by rw [← begs_begF]) (by omega) h4
theorem l2Of_nodes {ws P : List Txt} (hA : Asc P) (hC : Clo P) (hW : ∀ p ∈ P, wordL p = true) (hP : P.length ≤ 1000) (hl : ws.length ≤ 1000) : ∀ (d i : Nat) (acc : List S80), i + d = P.length → acc.length ≤ i →
    Ev (fun k => spec_l2Of.l2 k (ws.map B) (P.map B) (i : Int) acc) (acc ++ ((P.drop i).map fun p => mkN (ndL P ws p))) := by
  intro d
  induction d with
  | zero =>
    intro i acc h1 h2
    rw [List.drop_of_length_le (by omega), List.map_nil, List.append_nil]
    exact Ev.step (fun k => spec_l2Of.l2.eq_2 ..) (Ev.ifF (by simp; omega) (Ev.now _))
  | succ d ih =>
    intro i acc h1 h2
    have hi : i < P.length := by omega
    have hm := getD_mem hi
    rw [drop_cons_getD [] hi, List.map_cons]
    refine Ev.step (fun k => spec_l2Of.l2.eq_2 ..) (Ev.ifT (by simp; omega) (Ev.ifT (by omega) ?_))
    rw [rdB P i hi]
    refine Ev.bind (l2Has_ev ws (P.getD i []) (by omega)) ?_
    have hcons : ∀ x : S80, acc ++ (x :: (P.drop (i + 1)).map fun p => mkN (ndL P ws p)) = (acc ++ [x]) ++ (P.drop (i + 1)).map fun p => mkN (ndL P ws p) := fun x => by simp
    rw [hcons]
    by_cases h0 : i = 0
    · have hp : P.getD i [] = [] := by rw [h0]; exact (clo_zero hA hC).2
      refine Ev.ifF (by omega) (Ev.ifT (by omega) ?_)
      have hx : mkN (ndL P ws (P.getD i [])) = ⟨-1, -1, decide (P.getD i [] ∈ ws)⟩ := by unfold mkN ndL; rw [if_pos hp, if_pos hp]
      rw [hx, wrap64_succ i (by omega)]
      exact ih (i + 1) _ (by omega) (by simp; omega)
    · have hne := clo_pos hA hC hi (by omega)
      have hlen := List.length_pos_iff.2 hne
      have h12 := (wordL_iff.1 (hW _ hm)).2
      have hw1 : wrap64 (((B (P.getD i [])).size : Int) - 1) = ((P.getD i []).length - 1 : Nat) := by rw [size_B, wrap64_id (by omega) (by omega)]; omega
      rw [hw1]
      refine Ev.ifT (by omega) (Ev.ifT (by omega) (Ev.ifT (by rw [size_B]; omega) (Ev.ifT (by rw [size_B]; omega) ?_)))
      rw [extract_B, List.drop_zero, Int.toNat_natCast, Nat.sub_zero, ← List.dropLast_eq_take]
      refine Ev.bind (l2Place_ev P _ (by omega) (hC.2 _ hm hne)) (Ev.ifT (by omega) ?_)
      have hx : mkN (ndL P ws (P.getD i [])) = ⟨((bt (B (P.getD i [])) (((P.getD i []).length - 1 : Nat) : Int)) - 97) % 256, (placeL P (P.getD i []).dropLast : Int), decide (P.getD i [] ∈ ws)⟩ := by
        unfold mkN ndL
        rw [if_neg hne, if_neg hne, bt_B _ _ (by omega)]
        rfl
      rw [hx, wrap64_succ i (by omega)]
      exact ih (i + 1) _ (by omega) (by simp; omega)
theorem l2Of_ev {ws : List Txt} (h : OkW ws) : Ev (fun k => spec_l2Of.f k (ws.map B)) (trN (preL ws) ws) := by
  have h1 := h.pre
  have h2 := h.len
  have hn := l2Of_nodes (ws := ws) (asc_preL ws) (clo_preL ws) (fun p hp => preL_word h.word hp) (by omega) (by omega) (preL ws).length 0 [] (by omega) (by simp)
  rw [List.drop_zero, List.nil_append] at hn
  have e : (preL ws).map (fun p => mkN (ndL (preL ws) ws p)) = trN (preL ws) ws := by unfold trN nodesL; rw [List.map_map]; rfl
  rw [e] at hn
  exact l2Of_out ws h.len h.le _ (preL ws) hn ws.length 0 [[]] (by omega) rfl (by simp; omega) (by simp)
/-! sameness -/
theorem node_ne (a b : S80) : (!(a.f0 == b.f0) || (!(a.f1 == b.f1) || (!(a.f2 == b.f2)))) = decide (a ≠ b) := by
  obtain ⟨a0, a1, a2⟩ := a
  obtain ⟨b0, b1, b2⟩ := b
  rw [Bool.eq_iff_iff]
  simp only [Bool.or_eq_true, Bool.not_eq_true', beq_eq_false_iff_ne, decide_eq_true_eq, ne_eq, S80.mk.injEq]
  constructor
  · rintro (h | h | h) ⟨e1, e2, e3⟩
    · exact h e1
    · exact h e2
    · exact h e3
  · intro h
    by_cases e1 : a0 = b0
    · by_cases e2 : a1 = b1
      · exact .inr (.inr fun e3 => h ⟨e1, e2, e3⟩)
      · exact .inr (.inl e2)
    · exact .inl e1
theorem rd_get (N : List S80) (i : Nat) (h : i < N.length) : rd_T80 N (i : Int) = N[i] := by
  unfold rd_T80
  rw [Int.toNat_natCast, getD_lt _ h]
theorem l2Same_loop (M N : List S80) (hM : M.length ≤ 4611686018427387903) : ∀ (d i : Nat), i + d = M.length → i ≤ N.length → Ev (fun k => spec_l2Same.l0 k (i : Int) M N) (decide (M.drop i = N.drop i)) := by
  have fin : ∀ i : Nat, (i = M.length ∨ i = N.length) → i ≤ M.length → i ≤ N.length → Ev (fun k => spec_l2Same.j1 k (i : Int) false M N) (decide (M.drop i = N.drop i)) := by
    intro i h1 h2 h3
    refine Ev.step (fun k => spec_l2Same.j1.eq_2 ..) (Ev.ifF (by simp) ?_)
    have : ((M.length : Int) == (N.length : Int)) = decide (M.drop i = N.drop i) := by
      rw [Bool.eq_iff_iff, beq_iff_eq, decide_eq_true_eq]
      constructor
      · intro e
        rw [List.drop_of_length_le (by omega), List.drop_of_length_le (by omega)]
      · intro e
        have := congrArg List.length e
        rw [List.length_drop, List.length_drop] at this
        omega
    rw [this]
    exact Ev.now _
  intro d
  induction d with
  | zero =>
    intro i h1 h2
    exact Ev.step (fun k => spec_l2Same.l0.eq_2 ..) (Ev.ifF (by omega) (fin i (by omega) (by omega) h2))
  | succ d ih =>
    intro i h1 h2
    refine Ev.step (fun k => spec_l2Same.l0.eq_2 ..) (Ev.ifT (by omega) ?_)
    by_cases hi : i < N.length
    · rw [decide_eq_true (show (i : Int) < (N.length : Int) by omega)]
      refine Ev.step (fun k => spec_l2Same.j1.eq_2 ..) (Ev.ifT rfl (Ev.ifT (by omega) (Ev.ifT (by omega) (Ev.ifT (by omega) ?_))))
      rw [node_ne, rd_get M i (by omega), rd_get N i hi, List.drop_eq_getElem_cons (show i < M.length by omega), List.drop_eq_getElem_cons hi]
      by_cases e : M[i] = N[i]
      · refine Ev.ifF (by simp [e]) ?_
        rw [wrap64_succ i (by omega), show decide (M[i] :: M.drop (i + 1) = N[i] :: N.drop (i + 1)) = decide (M.drop (i + 1) = N.drop (i + 1)) from decide_eq_decide.2 ⟨fun h => (List.cons.inj h).2, fun h => by rw [e, h]⟩]
        exact ih (i + 1) (by omega) (by omega)
      · refine Ev.ifT (by simp [e]) ?_
        rw [show decide (M[i] :: M.drop (i + 1) = N[i] :: N.drop (i + 1)) = false from decide_eq_false fun h => e (List.cons.inj h).1]
        exact Ev.now _
    · rw [decide_eq_false (show ¬ (i : Int) < (N.length : Int) by omega)]
      exact fin i (by omega) (by omega) h2
theorem l2Same_ev (M N : List S80) (hM : M.length ≤ 4611686018427387903) : Ev (fun k => spec_l2Same.f k M N) (decide (M = N)) := by
  have := l2Same_loop M N hM M.length 0 (by omega) (by omega)
  rwa [List.drop_zero, List.drop_zero] at this
/-! validity -/
theorem okW_setL {ws : List Txt} (h : ws.all wordL = true) (hl : (setL ws).length ≤ 40) : OkW (setL ws) := ⟨asc_setL ws, hl, fun w hw => List.all_eq_true.1 h w ((mem_setL ws w).1 hw)⟩
/-- A list of nodes is the trie of words. -/
def IsTr (N : List S80) : Prop := ∃ ws, OkW ws ∧ N = trN (preL ws) ws
theorem IsTr.len {N : List S80} (h : IsTr N) : 1 ≤ N.length ∧ N.length ≤ 481 := by
  obtain ⟨ws, h, rfl⟩ := h
  rw [trN_length]
  exact ⟨(clo_zero (asc_preL ws) (clo_preL ws)).1, h.pre⟩
theorem l2Trie_ev (N : List S80) : ∃ b : Bool, (b = true ↔ IsTr N) ∧ Ev (fun k => spec_l2Trie.f k N) b := by
  unfold spec_l2Trie.f
  simp only [l1In_eq]
  by_cases hn : 1 ≤ (N.length : Int) ∧ (N.length : Int) ≤ 481
  · rw [decide_eq_true hn]
    by_cases ht : IsTr N
    · refine ⟨true, by simp [ht], Ev.some_bind (Ev.ifT rfl ?_)⟩
      obtain ⟨ws, h, rfl⟩ := ht
      refine Ev.bind (l2Words_ev h) (Ev.bind (l2Set_ev ws (by have := h.len; omega) (fun w hw => by have := h.le w hw; omega)) ?_)
      rw [if_pos (List.all_eq_true.2 h.word), setL_of_asc h.asc]
      refine Ev.ifT (by simpa using h.len) (Ev.bind (l2Of_ev h) (Ev.bind (l2Same_ev _ _ (by rw [trN_length]; have := h.pre; omega)) ?_))
      simpa using Ev.now true
    · refine ⟨false, by simp [ht], Ev.some_bind (Ev.ifT rfl ?_)⟩
      obtain ⟨ws, w1, w2, w3⟩ := l2Words_ex N (by omega)
      refine Ev.bind w3 (Ev.bind (l2Set_ev ws (by omega) w2) ?_)
      by_cases ha : ws.all wordL = true
      · rw [if_pos ha]
        by_cases hl : (setL ws).length ≤ 40
        · have hok := okW_setL ha hl
          refine Ev.ifT (by simpa using hl) (Ev.bind (l2Of_ev hok) (Ev.bind (l2Same_ev _ _ (by rw [trN_length]; have := hok.pre; omega)) ?_))
          rw [show decide (trN (preL (setL ws)) (setL ws) = N) = false from decide_eq_false fun e => ht ⟨_, hok, e.symm⟩]
          exact Ev.now false
        · exact Ev.ifF (by simpa using hl) (Ev.now false)
      · rw [if_neg ha]
        exact Ev.ifF (by simp) (Ev.now false)
  · rw [decide_eq_false hn]
    refine ⟨false, ?_, Ev.some_bind (Ev.ifF (by simp) (Ev.now false))⟩
    simp only [Bool.false_eq_true, false_iff]
    intro h
    have := h.len
    omega

end Go.Proofs.Ytgagmodkjmegeaa.L

namespace Go.Proofs.Ytgagmodkjmegeaa.L
open Go.RowKit Go.Proofs.Ytgagmodkjmegeaa.P Go.Proofs.Ytgagmodkjmegeaa.M Go.Proofs.YtgagmodkjmegeaaW.PrintWords Go.Proofs.YtgagmodkjmegeaaW.PrintLast Go.Proofs.YtgagmodkjmegeaaW.PrintMore
set_option linter.unusedVariables false
theorem in_eq (a b c : Int) : impl_in.f a b c = some (decide (b ≤ a ∧ a ≤ c)) := by
  unfold impl_in.f
  by_cases h : b ≤ a
  · rw [if_pos (by omega)]; simp [h]
  · rw [if_neg (by omega)]; simp [h]
abbrev Nd := S80
/-! order of texts -/
theorem bytesLess_eq : ∀ (x y : Txt), Op.bytesLess x y = decide (x < y)
  | [], [] => by rw [decide_eq_false (txt_irrefl [])]; rfl
  | _ :: _, [] => by rw [decide_eq_false (List.not_lt_nil _)]; rfl
  | [], b :: y => by rw [decide_eq_true (List.nil_lt_cons b y)]; rfl
  | a :: x, b :: y => by
    rw [Op.bytesLess, bytesLess_eq x y, Bool.eq_iff_iff, decide_eq_true_eq, List.cons_lt_cons_iff]
    simp
theorem less_eq (x y : Txt) : cmp_Less_string.f (B x) (B y) = some (decide (x < y)) := by
  unfold cmp_Less_string.f cmp_isNaN_string.f
  rw [toList_B, toList_B, ← bytesLess_eq]
  simp
/-- No text is less than the one ahead of it. -/
def Srt (ws : List Txt) : Prop := ∀ j, j + 1 < ws.length → ¬ ws.getD (j + 1) [] < ws.getD j []
theorem Srt.le {ws : List Txt} (h : Srt ws) (i : Nat) : ∀ d, i + d < ws.length → ¬ ws.getD (i + d) [] < ws.getD i []
  | 0, _ => txt_irrefl _
  | d + 1, hd => fun hlt => by
    have h1 := h.le i d (by omega)
    have h2 := h (i + d) (by omega)
    exact h1 (List.lt_of_le_of_lt (List.not_lt.1 h2) hlt)
theorem srt_asc {ws : List Txt} (h : Asc ws) : Srt ws := fun j hj => txt_asymm (asc_get h hj (Nat.lt_succ_self j))
theorem isSorted_loop (ws : List Txt) (hl : ws.length ≤ 4611686018427387903) : ∀ (n : Nat), n < ws.length → ∃ b : Bool, (b = true ↔ ∀ j, j < n → ¬ ws.getD (j + 1) [] < ws.getD j []) ∧ Ev (fun k => slices_IsSorted_string_string.l0 k (ws.map B) (n : Int)) b := by
  intro n
  induction n with
  | zero =>
    intro _
    exact ⟨true, by simp, Ev.step (fun k => slices_IsSorted_string_string.l0.eq_2 ..) (Ev.ifF (by simp) (Ev.now _))⟩
  | succ n ih =>
    intro hn
    have hw : wrap64 (((n + 1 : Nat) : Int) - 1) = (n : Int) := by rw [wrap64_id (by omega) (by omega)]; omega
    by_cases hlt : ws.getD (n + 1) [] < ws.getD n []
    · refine ⟨false, ?_, Ev.step (fun k => slices_IsSorted_string_string.l0.eq_2 ..) (Ev.ifT (by omega) (Ev.ifT (by omega) (Ev.ifT (by rw [List.length_map]; omega) (Ev.ifT (by rw [hw]; omega) (Ev.ifT (by rw [hw, List.length_map]; omega) ?_)))))⟩
      · simp only [Bool.false_eq_true, false_iff]
        exact fun h => h n (Nat.lt_succ_self n) hlt
      · rw [hw, rdB ws (n + 1) hn, rdB ws n (by omega), less_eq, decide_eq_true hlt]
        exact Ev.some_bind (Ev.ifT rfl (Ev.now _))
    · obtain ⟨b, hb, he⟩ := ih (by omega)
      refine ⟨b, hb.trans ⟨fun h j hj => ?_, fun h j hj => h j (by omega)⟩, Ev.step (fun k => slices_IsSorted_string_string.l0.eq_2 ..) (Ev.ifT (by omega) (Ev.ifT (by omega) (Ev.ifT (by rw [List.length_map]; omega) (Ev.ifT (by rw [hw]; omega) (Ev.ifT (by rw [hw, List.length_map]; omega) ?_)))))⟩
      · by_cases e : j = n
        · rw [e]; exact hlt
        · exact h j (by omega)
      · rw [hw, rdB ws (n + 1) hn, rdB ws n (by omega), less_eq, decide_eq_false hlt]
        exact Ev.some_bind (Ev.ifF Bool.false_ne_true he)
theorem isSorted_ev (ws : List Txt) (hl : ws.length ≤ 4611686018427387903) : ∃ b : Bool, (b = true ↔ Srt ws) ∧ Ev (fun k => slices_IsSorted_string_string.f k (ws.map B)) b := by
  unfold slices_IsSorted_string_string.f
  rcases Nat.eq_zero_or_pos ws.length with h0 | h0
  · refine ⟨true, ⟨fun _ j hj => by omega, fun _ => rfl⟩, ?_⟩
    rw [List.length_map, h0]
    exact Ev.step (fun k => slices_IsSorted_string_string.l0.eq_2 ..) (Ev.ifF (by rw [wrap64_id (by omega) (by omega)]; omega) (Ev.now _))
  · obtain ⟨b, hb, he⟩ := isSorted_loop ws hl (ws.length - 1) (by omega)
    refine ⟨b, hb.trans ⟨fun h j hj => h j (by omega), fun h j hj => h j (by omega)⟩, ?_⟩
    rw [List.length_map, show wrap64 ((ws.length : Int) - 1) = ((ws.length - 1 : Nat) : Int) from by rw [wrap64_id (by omega) (by omega)]; omega]
    exact he
/-! a search by halves -/
theorem half_eq (i j : Nat) (h : i + j ≤ 4611686018427387903) : wrap64 ((IntKind.u64.wrap (wrap64 ((i : Int) + (j : Int)))) / 2) = (((i + j) / 2 : Nat) : Int) := by
  have e1 : wrap64 ((i : Int) + (j : Int)) = ((i + j : Nat) : Int) := by rw [wrap64_id (by omega) (by omega)]; omega
  have e2 : IntKind.u64.wrap (((i + j : Nat) : Int)) = ((i + j : Nat) : Int) := by
    simp [IntKind.wrap, IntKind.bits, IntKind.signed]; omega
  rw [e1, e2, wrap64_id (by omega) (by omega)]
  omega
theorem search_loop (ws : List Txt) (p : Txt) (hl : ws.length ≤ 1000000000) (hs : Srt ws) : ∀ (d i j : Nat), i + d = j → j ≤ ws.length → (∀ m, m < i → ws.getD m [] < p) → (∀ m, j ≤ m → m < ws.length → ¬ ws.getD m [] < p) →
    ∃ q : Nat, q ≤ ws.length ∧ (∀ m, m < q → ws.getD m [] < p) ∧ (∀ m, q ≤ m → m < ws.length → ¬ ws.getD m [] < p) ∧ Ev (fun k => slices_BinarySearch_string_string.l0 k (ws.map B) (B p) (ws.length : Int) (i : Int) (j : Int)) ((q : Int), decide (p ∈ ws)) := by
  intro d
  induction d using Nat.strongRecOn with
  | _ d ih =>
    intro i j h1 h2 h3 h4
    by_cases hij : i < j
    · have hh : (i + j) / 2 < ws.length := by omega
      by_cases hlt : ws.getD ((i + j) / 2) [] < p
      · obtain ⟨q, q1, q2, q3, q4⟩ := ih (j - ((i + j) / 2 + 1)) (by omega) ((i + j) / 2 + 1) j (by omega) h2 (fun m hm => by
          by_cases e : m = (i + j) / 2
          · rw [e]; exact hlt
          · by_cases hmi : m < i
            · exact h3 m hmi
            · have hle := hs.le m ((i + j) / 2 - m) (by omega)
              rw [show m + ((i + j) / 2 - m) = (i + j) / 2 from by omega] at hle
              exact List.lt_of_le_of_lt (List.not_lt.1 hle) hlt) h4
        refine ⟨q, q1, q2, q3, Ev.step (fun k => slices_BinarySearch_string_string.l0.eq_2 ..) (Ev.ifT (by omega) ?_)⟩
        rw [half_eq i j (by omega)]
        refine Ev.ifT (by omega) (Ev.ifT (by rw [List.length_map]; omega) ?_)
        rw [rdB ws _ hh, less_eq, decide_eq_true hlt]
        refine Ev.some_bind (Ev.ifT rfl ?_)
        rw [wrap64_succ _ (by omega)]
        exact q4
      · obtain ⟨q, q1, q2, q3, q4⟩ := ih ((i + j) / 2 - i) (by omega) i ((i + j) / 2) (by omega) (by omega) h3 (fun m hm hml => by
          have hle := hs.le ((i + j) / 2) (m - (i + j) / 2) (by omega)
          rw [show (i + j) / 2 + (m - (i + j) / 2) = m from by omega] at hle
          exact fun hp => hlt (List.lt_of_le_of_lt (List.not_lt.1 hle) hp))
        refine ⟨q, q1, q2, q3, Ev.step (fun k => slices_BinarySearch_string_string.l0.eq_2 ..) (Ev.ifT (by omega) ?_)⟩
        rw [half_eq i j (by omega)]
        refine Ev.ifT (by omega) (Ev.ifT (by rw [List.length_map]; omega) ?_)
        rw [rdB ws _ hh, less_eq, decide_eq_false hlt]
        exact Ev.some_bind (Ev.ifF Bool.false_ne_true q4)
    · obtain rfl : i = j := by omega
      refine ⟨i, h2, h3, h4, Ev.step (fun k => slices_BinarySearch_string_string.l0.eq_2 ..) (Ev.ifF (by omega) ?_)⟩
      by_cases hn : i < ws.length
      · refine Ev.ifT (by omega) (Ev.ifT (by omega) (Ev.ifT (by rw [List.length_map]; omega) ?_))
        rw [rdB ws i hn, toList_B, toList_B]
        by_cases e : ws.getD i [] = p
        · rw [decide_eq_true (show p ∈ ws from e ▸ getD_mem hn)]
          exact Ev.ifT e (Ev.now _)
        · have hm : ¬ p ∈ ws := fun hp => by
            obtain ⟨z1, z2⟩ := placeL_mem hp
            have hz : i ≤ placeL ws p := by
              by_cases hzi : placeL ws p < i
              · have := h3 _ hzi; rw [z2] at this; exact absurd this (txt_irrefl _)
              · omega
            have hle := hs.le i (placeL ws p - i) (by omega)
            rw [show i + (placeL ws p - i) = placeL ws p from by omega, z2] at hle
            exact e (txt_tri (h4 i (Nat.le_refl _) hn) hle)
          rw [decide_eq_false hm]
          refine Ev.ifF e ?_
          unfold slices_isNaN_string.f
          exact Ev.some_bind (Ev.ifF (by simp) (Ev.now _))
      · have hm : ¬ p ∈ ws := fun hp => by
          obtain ⟨z1, z2⟩ := placeL_mem hp
          have := h3 _ (show placeL ws p < i by omega)
          rw [z2] at this
          exact txt_irrefl _ this
        rw [decide_eq_false hm]
        exact Ev.ifF (by omega) (Ev.now _)
theorem search_ev (ws : List Txt) (p : Txt) (hl : ws.length ≤ 1000000000) (hs : Srt ws) : ∃ q : Nat, q ≤ ws.length ∧ (∀ m, m < q → ws.getD m [] < p) ∧ (∀ m, q ≤ m → m < ws.length → ¬ ws.getD m [] < p) ∧ Ev (fun k => slices_BinarySearch_string_string.f k (ws.map B) (B p)) ((q : Int), decide (p ∈ ws)) := by
  unfold slices_BinarySearch_string_string.f
  have := search_loop ws p hl hs ws.length 0 ws.length (by omega) (Nat.le_refl _) (fun m hm => absurd hm (Nat.not_lt_zero _)) (fun m h1 h2 => absurd h2 (by omega))
  rw [List.length_map]
  exact this
/-! sameness -/
theorem equal_loop (M N : List Nd) (hM : M.length ≤ 4611686018427387903) (he : M.length = N.length) : ∀ (d i : Nat), i + d = M.length → Ev (fun k => impl_Node.l0 k M N (M.length : Int) (i : Int)) (decide (M.drop i = N.drop i)) := by
  intro d
  induction d with
  | zero =>
    intro i h1
    refine Ev.step (fun k => impl_Node.l0.eq_2 ..) (Ev.ifF (by omega) ?_)
    rw [decide_eq_true (show M.drop i = N.drop i by rw [List.drop_of_length_le (by omega), List.drop_of_length_le (by omega)])]
    exact Ev.now _
  | succ d ih =>
    intro i h1
    refine Ev.step (fun k => impl_Node.l0.eq_2 ..) (Ev.ifT (by omega) (Ev.ifT (by omega) (Ev.ifT (by omega) (Ev.ifT (by omega) ?_))))
    rw [node_ne, rd_get M i (by omega), rd_get N i (by omega), List.drop_eq_getElem_cons (show i < M.length by omega), List.drop_eq_getElem_cons (show i < N.length by omega)]
    by_cases e : M[i] = N[i]
    · refine Ev.ifF (by simp [e]) ?_
      rw [wrap64_succ i (by omega), show decide (M[i] :: M.drop (i + 1) = N[i] :: N.drop (i + 1)) = decide (M.drop (i + 1) = N.drop (i + 1)) from decide_eq_decide.2 ⟨fun h => (List.cons.inj h).2, fun h => by rw [e, h]⟩]
      exact ih (i + 1) (by omega)
    · refine Ev.ifT (by simp [e]) ?_
      rw [show decide (M[i] :: M.drop (i + 1) = N[i] :: N.drop (i + 1)) = false from decide_eq_false fun h => e (List.cons.inj h).1]
      exact Ev.now _
theorem equal_ev (M N : List Nd) (hM : M.length ≤ 4611686018427387903) : Ev (fun k => impl_Node.f k M N) (decide (M = N)) := by
  unfold impl_Node.f
  by_cases he : M.length = N.length
  · refine Ev.ifT (by omega) ?_
    have := equal_loop M N hM he M.length 0 (by omega)
    rwa [List.drop_zero, List.drop_zero] at this
  · rw [decide_eq_false fun e => he (by rw [e])]
    exact Ev.ifF (by omega) (Ev.now _)
/-! prefixes -/
def prefGo : List Nd → List Txt → Option (List Txt)
  | [], acc => some acc
  | n :: r, acc => if 0 ≤ n.f1 ∧ n.f1 < (acc.length : Int) ∧ 0 ≤ n.f0 ∧ n.f0 ≤ 25 then prefGo r (acc ++ [acc.getD n.f1.toNat [] ++ [UInt8.ofNat (97 + n.f0.toNat)]]) else none
def prefR : Option (List Txt) → List ByteArray × Bool
  | some ps => (ps.map B, true)
  | none => ([], false)
theorem letter_eq (n : Int) (h0 : 0 ≤ n) (h1 : n ≤ 25) : impl_letter.f n = some (B [UInt8.ofNat (97 + n.toNat)]) := by
  unfold impl_letter.f
  rw [strOfNums_B]
  congr 3
  rw [wrap64_id (by omega) (by omega)]
  congr 1
  omega
theorem getD_le {acc : List Txt} {b : Nat} (h : ∀ p ∈ acc, p.length ≤ b) (n : Nat) : (acc.getD n []).length ≤ b := by
  by_cases hn : n < acc.length
  · exact h _ (getD_mem hn)
  · rw [List.getD_eq_getElem?_getD, List.getElem?_eq_none (by omega)]; simp
theorem pref_loop (N' : List Nd) (hN : N'.length ≤ 1000000) : ∀ (d i : Nat) (acc : List Txt), i + d = N'.length → acc.length = i + 1 → (∀ p ∈ acc, p.length ≤ i) →
    Ev (fun k => impl_Trie_prefixes.l0 k (acc.map B) N' (N'.length : Int) (i : Int)) (prefR (prefGo (N'.drop i) acc)) := by
  intro d
  induction d with
  | zero =>
    intro i acc h1 h2 h3
    rw [List.drop_of_length_le (by omega)]
    exact Ev.step (fun k => impl_Trie_prefixes.l0.eq_2 ..) (Ev.ifF (by omega) (Ev.now _))
  | succ d ih =>
    intro i acc h1 h2 h3
    have hi : i < N'.length := by omega
    rw [List.drop_eq_getElem_cons hi]
    refine Ev.step (fun k => impl_Trie_prefixes.l0.eq_2 ..) (Ev.ifT (by omega) (Ev.ifT (by omega) (Ev.ifT (by omega) ?_)))
    rw [rd_get N' i hi, in_eq]
    unfold prefGo
    by_cases ha : 0 ≤ N'[i].f1 ∧ N'[i].f1 ≤ (i : Int)
    · rw [decide_eq_true ha]
      refine Ev.some_bind (Ev.ifT rfl ?_)
      rw [in_eq]
      by_cases hb : 0 ≤ N'[i].f0 ∧ N'[i].f0 ≤ 25
      · rw [decide_eq_true hb, if_pos ⟨ha.1, by omega, hb.1, hb.2⟩]
        refine Ev.some_bind (Ev.ifT rfl (Ev.ifT ha.1 (Ev.ifT (by rw [List.length_map]; omega) ?_)))
        rw [letter_eq _ hb.1 hb.2]
        refine Ev.some_bind ?_
        obtain ⟨m, hm⟩ : ∃ m : Nat, N'[i].f1 = (m : Int) := ⟨N'[i].f1.toNat, by omega⟩
        have hml : m < acc.length := by omega
        have hmb := getD_le h3 m
        rw [hm, rdB acc m hml, Int.toNat_natCast]
        refine Ev.ifT (by rw [size_B, size_B, List.length_singleton]; omega) (Ev.ifT (by rw [List.length_map]; omega) ?_)
        rw [append_B, wrap64_succ i (by omega)]
        have := ih (i + 1) (acc ++ [acc.getD m [] ++ [UInt8.ofNat (97 + N'[i].f0.toNat)]]) (by omega) (by simp; omega) (fun p hp => by
          rcases List.mem_append.1 hp with hp | hp
          · have := h3 p hp; omega
          · rw [List.mem_singleton.1 hp]; simp; simpa using hmb)
        rw [List.map_append, List.map_singleton] at this
        exact this
      · rw [decide_eq_false hb, if_neg (fun h => hb h.2.2)]
        exact Ev.some_bind (Ev.ifF Bool.false_ne_true (Ev.now _))
    · rw [decide_eq_false ha, if_neg (fun h => ha ⟨h.1, by omega⟩)]
      exact Ev.some_bind (Ev.ifF Bool.false_ne_true (Ev.now _))
/-- What the prefixes of whatever nodes come to. -/
def prefN (N : List Nd) : Option (List Txt) := if 1 ≤ N.length ∧ N.length ≤ 481 then prefGo (N.drop 1) [[]] else none
theorem prefixes_ev (N : List Nd) : Ev (fun k => impl_Trie_prefixes.f k N) (prefR (prefN N)) := by
  unfold impl_Trie_prefixes.f prefN
  simp only [in_eq]
  by_cases h : 1 ≤ N.length ∧ N.length ≤ 481
  · rw [if_pos h, decide_eq_true (show (1 : Int) ≤ (N.length : Int) ∧ (N.length : Int) ≤ 481 by omega)]
    refine Ev.some_bind (Ev.ifT rfl (Ev.ifT (by omega) (Ev.some_bind ?_)))
    exact pref_loop (N.drop 1) (by rw [List.length_drop]; omega) (N.drop 1).length 0 [[]] (by omega) rfl (by simp)
  · rw [if_neg h, decide_eq_false (show ¬ ((1 : Int) ≤ (N.length : Int) ∧ (N.length : Int) ≤ 481) by omega)]
    exact Ev.some_bind (Ev.ifF Bool.false_ne_true (Ev.now _))
theorem letterB_of (m : Nat) (h : m ≤ 25) : letterB (UInt8.ofNat (97 + m)) = true := by
  have : (UInt8.ofNat (97 + m)).toNat = 97 + m := by simp; omega
  simp only [letterB, this, decide_eq_true_eq]; omega
theorem prefGo_ok : ∀ (r : List Nd) (acc ps : List Txt), prefGo r acc = some ps → (∀ p ∈ acc, ∀ c ∈ p, letterB c = true) → (∀ p ∈ ps, ∀ c ∈ p, letterB c = true) ∧ ps.length = acc.length + r.length
  | [], acc, ps, h, ha => by
    obtain rfl := Option.some.inj h
    exact ⟨ha, rfl⟩
  | n :: r, acc, ps, h, ha => by
    unfold prefGo at h
    by_cases hc : 0 ≤ n.f1 ∧ n.f1 < (acc.length : Int) ∧ 0 ≤ n.f0 ∧ n.f0 ≤ 25
    · rw [if_pos hc] at h
      obtain ⟨h1, h2⟩ := prefGo_ok r _ ps h (fun p hp c hcp => by
        rcases List.mem_append.1 hp with hp | hp
        · exact ha p hp c hcp
        · rw [List.mem_singleton.1 hp] at hcp
          rcases List.mem_append.1 hcp with hcp | hcp
          · exact ha _ (getD_mem (by omega)) c hcp
          · rw [List.mem_singleton.1 hcp]; exact letterB_of _ (by omega))
      exact ⟨h1, by rw [h2]; simp; omega⟩
    · rw [if_neg hc] at h; cases h
theorem letter_last {p : Txt} (hw : wordL p = true) (h : p ≠ []) : UInt8.ofNat (97 + (ltrOf p).toNat) = p.getD (p.length - 1) 0 := by
  obtain ⟨h1, h2, h3⟩ := ltrOf_bd hw h
  have h4 := letter_bd ((wordL_iff.1 hw).1 _ (getLast_mem h))
  have e : 97 + (ltrOf p).toNat = (p.getD (p.length - 1) 0).toNat := by omega
  rw [e]; simp
theorem trN_get {P ws : List Txt} (i : Nat) (h : i < (trN P ws).length) : (trN P ws)[i] = mkN (ndL P ws (P.getD i [])) := by
  have h2 : i < P.length := by rwa [trN_length] at h
  rw [← rdN P ws i h2, rd_get _ i h]
theorem prefGo_tr {P : List Txt} (ws : List Txt) (hA : Asc P) (hC : Clo P) (hW : ∀ p ∈ P, wordL p = true) : ∀ (d i : Nat), i + d = P.length → 0 < i → prefGo ((trN P ws).drop i) (P.take i) = some P := by
  intro d
  induction d with
  | zero =>
    intro i h1 h2
    rw [List.drop_of_length_le (by rw [trN_length]; omega), List.take_of_length_le (by omega)]
    rfl
  | succ d ih =>
    intro i h1 h2
    have hi : i < P.length := by omega
    have hit : i < (trN P ws).length := by rw [trN_length]; exact hi
    have hne := clo_pos hA hC hi h2
    have hm := getD_mem hi
    obtain ⟨j1, j2⟩ := clo_parent hA hC hi h2
    obtain ⟨_, b1, b2⟩ := ltrOf_bd (hW _ hm) hne
    rw [List.drop_eq_getElem_cons hit, trN_get i hit]
    have hx : mkN (ndL P ws (P.getD i [])) = ⟨ltrOf (P.getD i []), (placeL P (P.getD i []).dropLast : Int), decide (P.getD i [] ∈ ws)⟩ := by unfold mkN ndL; rw [if_neg hne, if_neg hne]
    rw [hx]
    unfold prefGo
    have hl : (P.take i).length = i := by rw [List.length_take]; omega
    rw [if_pos ⟨Int.natCast_nonneg _, by show ((placeL P (P.getD i []).dropLast : Nat) : Int) < ((P.take i).length : Int); rw [hl]; exact Int.ofNat_lt.2 j1, b1, b2⟩]
    simp only [Int.toNat_natCast]
    have hg : (P.take i).getD (placeL P (P.getD i []).dropLast) [] = (P.getD i []).dropLast := by
      rw [getD_lt [] (by rw [hl]; exact j1), List.getElem_take, ← getD_lt [] (by omega), j2]
    rw [hg, letter_last (hW _ hm) hne, dropLast_getD _ hne, ← take_succ_getD [] hi]
    exact ih (i + 1) (by omega) (by omega)
theorem prefN_tr {ws : List Txt} (h : OkW ws) : prefN (trN (preL ws) ws) = some (preL ws) := by
  obtain ⟨z1, z2⟩ := clo_zero (asc_preL ws) (clo_preL ws)
  unfold prefN
  rw [trN_length, if_pos ⟨z1, h.pre⟩]
  have := prefGo_tr ws (asc_preL ws) (clo_preL ws) (fun p hp => preL_word h.word hp) ((preL ws).length - 1) 1 (by omega) (by omega)
  rw [show (preL ws).take 1 = [[]] from by rw [take_succ_getD [] z1, z2]; rfl] at this
  exact this
/-! words -/
def wordsGo : List Nd → List Txt → List Txt
  | n :: r, p :: ps => if n.f2 = true then p :: wordsGo r ps else wordsGo r ps
  | _, _ => []
theorem wordsGo_mem : ∀ (N : List Nd) (ps : List Txt) (w : Txt), w ∈ wordsGo N ps → w ∈ ps
  | n :: r, p :: ps, w, h => by
    unfold wordsGo at h
    by_cases hf : n.f2 = true
    · rw [if_pos hf] at h
      rcases List.mem_cons.1 h with e | h
      · rw [e]; exact List.mem_cons_self
      · exact List.mem_cons_of_mem _ (wordsGo_mem r ps w h)
    · rw [if_neg hf] at h
      exact List.mem_cons_of_mem _ (wordsGo_mem r ps w h)
  | [], _, _, h => by simp [wordsGo] at h
  | _ :: _, [], _, h => by simp [wordsGo] at h
theorem wordsGo_len : ∀ (N : List Nd) (ps : List Txt), (wordsGo N ps).length ≤ N.length
  | n :: r, p :: ps => by
    have := wordsGo_len r ps
    unfold wordsGo
    by_cases hf : n.f2 = true
    · rw [if_pos hf, List.length_cons, List.length_cons]; omega
    · rw [if_neg hf, List.length_cons]; omega
  | [], _ => by simp [wordsGo]
  | _ :: _, [] => by simp [wordsGo]
theorem wordsGo_tr (P ws : List Txt) : ∀ Q : List Txt, wordsGo (Q.map fun p => mkN (ndL P ws p)) Q = Q.filter fun p => decide (p ∈ ws)
  | [] => rfl
  | q :: Q => by
    rw [List.map_cons, wordsGo, wordsGo_tr P ws Q, List.filter_cons]
    rfl
theorem words_loop (N : List Nd) (ps : List Txt) (hN : N.length ≤ 1000000) (hp : ps.length = N.length) : ∀ (d i : Nat) (acc : List Txt), i + d = N.length → acc.length ≤ i →
    Ev (fun k => impl_Trie_words.l0 k (ps.map B) (acc.map B) N (N.length : Int) (i : Int)) ((acc ++ wordsGo (N.drop i) (ps.drop i)).map B) := by
  intro d
  induction d with
  | zero =>
    intro i acc h1 h2
    rw [List.drop_of_length_le (by omega)]
    exact Ev.step (fun k => impl_Trie_words.l0.eq_2 ..) (Ev.ifF (by omega) (by simpa [wordsGo] using Ev.now _))
  | succ d ih =>
    intro i acc h1 h2
    have hi : i < N.length := by omega
    rw [List.drop_eq_getElem_cons hi, drop_cons_getD [] (show i < ps.length by omega), wordsGo]
    refine Ev.step (fun k => impl_Trie_words.l0.eq_2 ..) (Ev.ifT (by omega) (Ev.ifT (by omega) (Ev.ifT (by omega) ?_)))
    rw [rd_get N i hi]
    by_cases hf : N[i].f2 = true
    · rw [if_pos hf]
      refine Ev.ifT hf (Ev.ifT (by rw [List.length_map]; omega) (Ev.ifT (by rw [List.length_map]; omega) ?_))
      rw [rdB ps i (by omega), wrap64_succ i (by omega)]
      have := ih (i + 1) (acc ++ [ps.getD i []]) (by omega) (by simp; omega)
      rw [List.map_append (l₁ := acc), List.map_singleton, List.append_assoc] at this
      exact this
    · rw [if_neg hf]
      refine Ev.ifF hf ?_
      rw [wrap64_succ i (by omega)]
      exact ih (i + 1) acc (by omega) (by omega)
theorem words_of {N : List Nd} {ps : List Txt} (h : prefN N = some ps) : N.length ≤ 481 ∧ ps.length = N.length ∧ (∀ p ∈ ps, ∀ c ∈ p, letterB c = true) ∧ Ev (fun k => impl_Trie_words.f k N) ((wordsGo N ps).map B) := by
  have hp := prefixes_ev N
  rw [h] at hp
  unfold prefN at h
  by_cases hn : 1 ≤ N.length ∧ N.length ≤ 481
  · rw [if_pos hn] at h
    obtain ⟨h1, h2⟩ := prefGo_ok _ _ _ h (by simp)
    rw [List.length_drop, List.length_singleton] at h2
    refine ⟨hn.2, by omega, h1, ?_⟩
    unfold impl_Trie_words.f
    refine Ev.bind hp ?_
    exact words_loop N ps (by omega) (by omega) N.length 0 [] (by omega) (by simp)
  · rw [if_neg hn] at h; cases h
theorem words_ev {ws : List Txt} (h : OkW ws) : Ev (fun k => impl_Trie_words.f k (trN (preL ws) ws)) (ws.map B) := by
  obtain ⟨_, _, _, h4⟩ := words_of (prefN_tr h)
  have e : wordsGo (trN (preL ws) ws) (preL ws) = ws := by
    have : trN (preL ws) ws = (preL ws).map fun p => mkN (ndL (preL ws) ws p) := by unfold trN nodesL; rw [List.map_map]; rfl
    rw [this, wordsGo_tr, filter_preL h.asc]
  rwa [e] at h4
theorem prefixes_tr {ws : List Txt} (h : OkW ws) : Ev (fun k => impl_Trie_prefixes.f k (trN (preL ws) ws)) ((preL ws).map B, true) := by
  have := prefixes_ev (trN (preL ws) ws)
  rw [prefN_tr h] at this
  exact this
/-! the trie of words -/
theorem trieOf_in (ws0 xs : List Txt) (w : Txt) (hw : w.length ≤ 12) (i : Nat) (hi : i ≤ 100000) (r : List Nd) (acc2 : List Txt) (hr : Ev (fun k => impl_trieOf.l0 k (ws0.map B) (acc2.map B) (xs.map B) (xs.length : Int) ((i + 1 : Nat) : Int)) r) :
    ∀ (d n : Nat) (acc : List Txt), n + d = w.length → acc ++ begF w (n + 1) d = acc2 → acc2.length ≤ 1000000 → Ev (fun k => impl_trieOf.l1 k (ws0.map B) (acc.map B) (B w) (xs.map B) (xs.length : Int) (i : Int) (w.length : Int) (n : Int)) r := by
  intro d
  induction d with
  | zero =>
    intro n acc h1 h2 h3
    rw [begF, List.append_nil] at h2
    subst h2
    refine Ev.step (fun k => impl_trieOf.l1.eq_2 ..) (Ev.ifF (by omega) ?_)
    rw [wrap64_succ i (by omega)]
    exact hr
  | succ d ih =>
    intro n acc h1 h2 h3
    have hl : acc.length ≤ 1000000 := by rw [← h2, List.length_append] at h3; omega
    refine Ev.step (fun k => impl_trieOf.l1.eq_2 ..) (Ev.ifT (by omega) ?_)
    rw [wrap64_succ n (by omega)]
    refine Ev.ifT (by omega) (Ev.ifT (by rw [size_B]; omega) (Ev.ifT (by rw [List.length_map]; omega) ?_))
    rw [extract_B, List.drop_zero, Int.toNat_natCast, Nat.sub_zero]
    have := ih (n + 1) (acc ++ [w.take (n + 1)]) (by omega) (by rw [← h2, begF]; simp) h3
    rw [List.map_append, List.map_singleton] at this
    exact this
theorem trieOf_out (ws0 xs : List Txt) (hl : xs.length ≤ 1000) (hw : ∀ w ∈ xs, w.length ≤ 12) (r : List Nd) (hr : Ev (fun k => impl_trieOf.l2 k (ws0.map B) ((preL xs).map B) ((preL xs).length : Int) 0 []) r) :
    ∀ (d i : Nat) (acc : List Txt), i + d = xs.length → acc ++ (xs.drop i).flatMap begs = [] :: xs.flatMap begs → Ev (fun k => impl_trieOf.l0 k (ws0.map B) (acc.map B) (xs.map B) (xs.length : Int) (i : Int)) r := by
  have hall := flatMap_begs_length xs hw
  have hpl := preL_length hw
  intro d
  induction d with
  | zero =>
    intro i acc h1 h2
    rw [List.drop_of_length_le (by omega), List.flatMap_nil, List.append_nil] at h2
    subst h2
    refine Ev.step (fun k => impl_trieOf.l0.eq_2 ..) (Ev.ifF (by omega) ?_)
    rw [set_eq _ (by rw [List.length_cons]; omega)]
    refine Ev.some_bind (Ev.ifT ?_ ?_)
    · unfold SM.okL
      rw [Bool.and_eq_true, List.all_eq_true, decide_eq_true_eq]
      refine ⟨fun x hx => ?_, by rw [List.length_map]; show (preL xs).length ≤ _; omega⟩
      obtain ⟨y, hy, rfl⟩ := List.mem_map.1 hx
      have hy' : y ∈ preL xs := hy
      have : y.length ≤ 12 := by
        rcases mem_preL.1 hy' with rfl | ⟨w, hw', _, hp⟩
        · simp
        · exact Nat.le_trans hp.length_le (hw w hw')
      rw [decide_eq_true_eq, size_B]; omega
    · rw [List.length_map]
      exact hr
  | succ d ih =>
    intro i acc h1 h2
    have hi : i < xs.length := by omega
    rw [drop_cons_getD [] hi, List.flatMap_cons, ← List.append_assoc] at h2
    refine Ev.step (fun k => impl_trieOf.l0.eq_2 ..) (Ev.ifT (by omega) (Ev.ifT (by omega) (Ev.ifT (by rw [List.length_map]; omega) ?_)))
    rw [rdB xs i hi, size_B]
    have hlen : (acc ++ begs (xs.getD i [])).length ≤ 1000000 := by
      have := congrArg List.length h2
      rw [List.length_append, List.length_cons] at this
      omega
    exact trieOf_in ws0 xs _ (hw _ (getD_mem hi)) i (by omega) r _ (ih (i + 1) _ (by omega) h2) (xs.getD i []).length 0 acc (by omega) (by rw [begs_begF]) hlen
theorem at_take {P : List Txt} (hA : Asc P) (q : Txt) (j : Nat) (hj : j < P.length) (hq : P.getD j [] = q) : ∀ n, n ≤ P.length → j < n → SM.at_ (List.take n (P.map B)) (B q) = (j : Int) := by
  intro n
  induction n with
  | zero => intro _ h; omega
  | succ n ih =>
    intro h1 h2
    have hn : n < P.length := by omega
    rw [← List.map_take, take_succ_getD [] hn, List.map_append, List.map_singleton]
    unfold SM.at_
    rw [List.reverse_append, List.reverse_singleton, List.singleton_append, SM.atR, data_B, data_B]
    by_cases e : P.getD n [] = q
    · have : n = j := asc_inj hA hn hj (e.trans hq.symm)
      rw [if_pos e, List.length_reverse, List.length_map, List.length_take]; omega
    · have hjn : j < n := by
        rcases Nat.lt_or_ge j n with h | h
        · exact h
        · have : j = n := by omega
          subst this; exact absurd hq e
      rw [if_neg e, List.map_take]
      exact ih (by omega) hjn
theorem trieOf_nodes {ws P : List Txt} (hs : Srt ws) (hA : Asc P) (hC : Clo P) (hW : ∀ p ∈ P, wordL p = true) (hP : P.length ≤ 100000) (hl : ws.length ≤ 100000) : ∀ (d i : Nat) (acc : List Nd), i + d = P.length → acc.length ≤ i →
    Ev (fun k => impl_trieOf.l2 k (ws.map B) (P.map B) (P.length : Int) (i : Int) acc) (acc ++ ((P.drop i).map fun p => mkN (ndL P ws p))) := by
  intro d
  induction d with
  | zero =>
    intro i acc h1 h2
    rw [List.drop_of_length_le (by omega), List.map_nil, List.append_nil]
    exact Ev.step (fun k => impl_trieOf.l2.eq_2 ..) (Ev.ifF (by omega) (Ev.now _))
  | succ d ih =>
    intro i acc h1 h2
    have hi : i < P.length := by omega
    have hm := getD_mem hi
    rw [drop_cons_getD [] hi, List.map_cons]
    refine Ev.step (fun k => impl_trieOf.l2.eq_2 ..) (Ev.ifT (by omega) (Ev.ifT (by omega) (Ev.ifT (by rw [List.length_map]; omega) ?_)))
    rw [rdB P i hi]
    obtain ⟨q, _, _, _, hq⟩ := search_ev ws (P.getD i []) (by omega) hs
    refine Ev.bind hq ?_
    have hcons : ∀ x : Nd, acc ++ (x :: (P.drop (i + 1)).map fun p => mkN (ndL P ws p)) = (acc ++ [x]) ++ (P.drop (i + 1)).map fun p => mkN (ndL P ws p) := fun x => by simp
    rw [hcons, toList_B]
    by_cases hp : P.getD i [] = []
    · refine Ev.ifT hp (Ev.ifT (by omega) ?_)
      have hx : mkN (ndL P ws (P.getD i [])) = ⟨-1, -1, decide (P.getD i [] ∈ ws)⟩ := by unfold mkN ndL; rw [if_pos hp, if_pos hp]
      rw [hx, wrap64_succ i (by omega)]
      exact ih (i + 1) _ (by omega) (by simp; omega)
    · have h0 : 0 < i := by
        rcases Nat.eq_zero_or_pos i with e | e
        · rw [e, (clo_zero hA hC).2] at hp; exact absurd rfl hp
        · exact e
      have hlen := List.length_pos_iff.2 hp
      have h12 := (wordL_iff.1 (hW _ hm)).2
      obtain ⟨j1, j2⟩ := clo_parent hA hC hi h0
      have hw1 : wrap64 (((B (P.getD i [])).size : Int) - 1) = ((P.getD i []).length - 1 : Nat) := by rw [size_B, wrap64_id (by omega) (by omega)]; omega
      rw [hw1]
      refine Ev.ifF hp (Ev.ifT (by omega) (Ev.ifT (by rw [size_B]; omega) (Ev.ifT (by rw [size_B]; omega) (Ev.ifT (by omega) ?_))))
      rw [extract_B, List.drop_zero, Int.toNat_natCast, Int.toNat_natCast, Nat.sub_zero, ← List.dropLast_eq_take, at_take hA _ _ (by omega) j2 (i + 1) (by omega) (by omega)]
      have hx : mkN (ndL P ws (P.getD i [])) = ⟨((bt (B (P.getD i [])) (((P.getD i []).length - 1 : Nat) : Int)) - 97) % 256, (placeL P (P.getD i []).dropLast : Int), decide (P.getD i [] ∈ ws)⟩ := by
        unfold mkN ndL
        rw [if_neg hp, if_neg hp, bt_B _ _ (by omega)]
        rfl
      rw [hx, wrap64_succ i (by omega)]
      exact ih (i + 1) _ (by omega) (by simp; omega)
/-- The trie of words in order, which may be there twice. -/
theorem trieOf_srt {ws : List Txt} (hs : Srt ws) (hw : ∀ w ∈ ws, wordL w = true) (hl : ws.length ≤ 1000) : Ev (fun k => impl_trieOf.f k (ws.map B)) (trN (preL ws) ws) := by
  have hle : ∀ w ∈ ws, w.length ≤ 12 := fun w h => (wordL_iff.1 (hw w h)).2
  have hpl := preL_length hle
  have hn := trieOf_nodes hs (asc_preL ws) (clo_preL ws) (fun p hp => preL_word hw hp) (by omega) (by omega) (preL ws).length 0 [] (by omega) (by simp)
  rw [List.drop_zero, List.nil_append] at hn
  have e : (preL ws).map (fun p => mkN (ndL (preL ws) ws p)) = trN (preL ws) ws := by unfold trN nodesL; rw [List.map_map]; rfl
  rw [e] at hn
  unfold impl_trieOf.f
  rw [List.length_map]
  exact trieOf_out ws ws hl hle _ hn ws.length 0 [[]] (by omega) rfl
theorem trieOf_ev {ws : List Txt} (h : OkW ws) : Ev (fun k => impl_trieOf.f k (ws.map B)) (trN (preL ws) ws) := trieOf_srt (srt_asc h.asc) h.word (by have := h.len; omega)
theorem trN_set {ws : List Txt} : trN (preL ws) ws = trN (preL (setL ws)) (setL ws) := by
  have e : preL (setL ws) = preL ws := preL_congr fun w => mem_setL ws w
  rw [e]
  unfold trN nodesL
  rw [List.map_map, List.map_map]
  refine List.map_congr_left fun p _ => ?_
  show mkN (ndL (preL ws) ws p) = mkN (ndL (preL ws) (setL ws) p)
  unfold ndL
  rw [show decide (p ∈ ws) = decide (p ∈ setL ws) from decide_eq_decide.2 (mem_setL ws p).symm]
/-! validity -/
theorem isTrie_ev (N : List Nd) : ∃ b : Bool, (b = true ↔ IsTr N) ∧ Ev (fun k => impl_isTrie.f k N) b := by
  have hpre := prefixes_ev N
  have no : ∀ M : List Nd, Ev (fun k => impl_isTrie.j0 k true M) false := fun M => Ev.step (fun k => impl_isTrie.j0.eq_2 ..) (Ev.ifT rfl (Ev.now _))
  cases hp : prefN N with
  | none =>
    rw [hp] at hpre
    refine ⟨false, ?_, ?_⟩
    · simp only [Bool.false_eq_true, false_iff]
      rintro ⟨ws, h, rfl⟩
      rw [prefN_tr h] at hp; cases hp
    · unfold impl_isTrie.f
      exact Ev.bind hpre (Ev.ifF Bool.false_ne_true (no N))
  | some ps =>
    rw [hp] at hpre
    obtain ⟨w1, w2, w3, w4⟩ := words_of hp
    have hany : impl_isTrie_any.f (ps.map B) = some (decide (∃ p ∈ ps, 12 < p.length)) := by
      unfold impl_isTrie_any.f
      congr 1
      rw [Bool.eq_iff_iff, List.any_eq_true, decide_eq_true_eq]
      constructor
      · rintro ⟨x, hx, e⟩
        obtain ⟨y, hy, rfl⟩ := List.mem_map.1 hx
        refine ⟨y, hy, ?_⟩
        unfold impl_isTrie_any.p at e
        rw [size_B, decide_eq_true_eq] at e
        omega
      · rintro ⟨y, hy, e⟩
        refine ⟨B y, List.mem_map.2 ⟨y, hy, rfl⟩, ?_⟩
        unfold impl_isTrie_any.p
        rw [size_B, decide_eq_true_eq]
        omega
    by_cases hlong : ∃ p ∈ ps, 12 < p.length
    · rw [decide_eq_true hlong] at hany
      refine ⟨false, ?_, ?_⟩
      · simp only [Bool.false_eq_true, false_iff]
        rintro ⟨ws, h, rfl⟩
        rw [prefN_tr h] at hp
        obtain rfl := Option.some.inj hp
        obtain ⟨p, hpm, hpl⟩ := hlong
        have := (wordL_iff.1 (preL_word h.word hpm)).2
        omega
      · unfold impl_isTrie.f
        refine Ev.bind hpre (Ev.ifT rfl ?_)
        show Ev (fun k => (impl_isTrie_any.f (ps.map B)).bind _) false
        rw [hany]
        exact Ev.some_bind (no N)
    · rw [decide_eq_false hlong] at hany
      have hword : ∀ w ∈ wordsGo N ps, wordL w = true := fun w hw => by
        have hm := wordsGo_mem N ps w hw
        refine wordL_iff.2 ⟨w3 w hm, ?_⟩
        rcases Nat.lt_or_ge 12 w.length with h | h
        · exact absurd ⟨w, hm, h⟩ hlong
        · exact h
      have hwl := wordsGo_len N ps
      have hcase : ∀ b : Bool, Ev (fun k => impl_isTrie.j0 k false N) b → Ev (fun k => impl_isTrie.f k N) b := fun b hb => by
        unfold impl_isTrie.f
        refine Ev.bind hpre (Ev.ifT rfl ?_)
        show Ev (fun k => (impl_isTrie_any.f (ps.map B)).bind _) b
        rw [hany]
        exact Ev.some_bind hb
      have hval : ∀ ws, OkW ws → N = trN (preL ws) ws → wordsGo N ps = ws := fun ws h e => by
        subst e
        rw [prefN_tr h] at hp
        obtain rfl := Option.some.inj hp
        have : trN (preL ws) ws = (preL ws).map fun p => mkN (ndL (preL ws) ws p) := by unfold trN nodesL; rw [List.map_map]; rfl
        rw [this, wordsGo_tr, filter_preL h.asc]
      by_cases h40 : (wordsGo N ps).length ≤ 40
      · obtain ⟨b, hb, hsv⟩ := isSorted_ev (wordsGo N ps) (by omega)
        by_cases hs : Srt (wordsGo N ps)
        · have hbt := hb.2 hs
          subst hbt
          refine ⟨decide (trN (preL (wordsGo N ps)) (wordsGo N ps) = N), ?_, hcase _ ?_⟩
          · rw [decide_eq_true_eq]
            constructor
            · intro e
              refine ⟨setL (wordsGo N ps), ⟨asc_setL _, Nat.le_trans (setL_length_le _) h40, fun w hw => hword w ((mem_setL _ w).1 hw)⟩, ?_⟩
              rw [← trN_set, e]
            · rintro ⟨ws, h, e⟩
              rw [hval ws h e, e]
          · refine Ev.step (fun k => impl_isTrie.j0.eq_2 ..) (Ev.ifF Bool.false_ne_true (Ev.bind w4 (Ev.ifT (by rw [List.length_map]; omega) (Ev.bind hsv (Ev.ifT rfl (Ev.bind (trieOf_srt hs hword (by omega)) (Ev.bind (equal_ev _ _ ?_) (Ev.now _))))))))
            rw [trN_length]
            have := preL_length (ws := wordsGo N ps) (fun w hw => (wordL_iff.1 (hword w hw)).2)
            omega
        · have hbf : b = false := by
            cases b with
            | false => rfl
            | true => exact absurd (hb.1 rfl) hs
          subst hbf
          refine ⟨false, ?_, hcase _ (Ev.step (fun k => impl_isTrie.j0.eq_2 ..) (Ev.ifF Bool.false_ne_true (Ev.bind w4 (Ev.ifT (by rw [List.length_map]; omega) (Ev.bind hsv (Ev.ifF Bool.false_ne_true (Ev.now _)))))))⟩
          simp only [Bool.false_eq_true, false_iff]
          rintro ⟨ws, h, e⟩
          exact hs (by rw [hval ws h e]; exact srt_asc h.asc)
      · refine ⟨false, ?_, hcase _ (Ev.step (fun k => impl_isTrie.j0.eq_2 ..) (Ev.ifF Bool.false_ne_true (Ev.bind w4 (Ev.ifF (by rw [List.length_map]; omega) (Ev.now _)))))⟩
        simp only [Bool.false_eq_true, false_iff]
        rintro ⟨ws, h, e⟩
        rw [hval ws h e] at h40
        exact h40 h.len

end Go.Proofs.Ytgagmodkjmegeaa.L

namespace Go.Proofs.Ytgagmodkjmegeaa.L
open Go.RowKit Go.Proofs.Ytgagmodkjmegeaa.P Go.Proofs.Ytgagmodkjmegeaa.M Go.Proofs.YtgagmodkjmegeaaW.PrintWords Go.Proofs.YtgagmodkjmegeaaW.PrintLast Go.Proofs.YtgagmodkjmegeaaW.PrintMore
set_option linter.unusedVariables false
def toN (l : List S82) : List Nd := l.map fun x => ⟨x.f0, x.f1, x.f2⟩
theorem toN_length (l : List S82) : (toN l).length = l.length := by simp [toN]
theorem szTrie_eq (l : List S82) (h : l.length ≤ 9223372036854775807) : laws_szTrie.f l 1048576 = some (if l.length ≤ 1048576 then 1048576 - (l.length : Int) else -1) := by
  unfold laws_szTrie.f laws_szNodeS.f
  rw [wrap64_id (by omega) (by omega)]
  by_cases hs : l.length ≤ 1048576
  · rw [if_neg (by omega), if_pos hs, Option.bind_some, if_neg (by omega)]
  · rw [if_pos (by omega), if_neg hs, Option.bind_some, if_pos (by omega)]
theorem toNodeS_loop (l : List S82) (hl : l.length ≤ 1048576) : ∀ (d i : Nat), i + d = l.length → Ev (fun k => laws_toNodeS.l0 k l ((toN l).take i ++ List.replicate ((toN l).length - i) z80) (i : Int)) (toN l) := by
  intro d
  induction d with
  | zero =>
    intro i h
    rw [List.take_of_length_le (by rw [toN_length]; omega), show (toN l).length - i = 0 from by rw [toN_length]; omega, List.replicate_zero, List.append_nil]
    exact Ev.step (fun k => laws_toNodeS.l0.eq_2 ..) (Ev.ifF (by omega) (Ev.now _))
  | succ d ih =>
    intro i h
    have hi : i < l.length := by omega
    have hi2 : i < (toN l).length := by rw [toN_length]; exact hi
    have hlen : ((toN l).take i ++ List.replicate ((toN l).length - i) z80).length = l.length := by
      rw [List.length_append, List.length_take, List.length_replicate, toN_length]; omega
    refine Ev.step (fun k => laws_toNodeS.l0.eq_2 ..) (Ev.ifT (by omega) (Ev.ifT (by omega) ?_))
    unfold laws_toNode.f
    refine Ev.some_bind (Ev.ifT (by rw [hlen]; omega) ?_)
    have hx : (⟨(rd_T82 l (i : Int)).f0, (rd_T82 l (i : Int)).f1, (rd_T82 l (i : Int)).f2⟩ : Nd) = (toN l).getD i z80 := by
      unfold rd_T82 toN
      rw [Int.toNat_natCast, getD_lt _ hi, getD_lt _ (by simpa using hi), List.getElem_map]
    rw [hx, Int.toNat_natCast, fill_set _ _ _ hi2, wrap64_succ i (by omega)]
    exact ih (i + 1) (by omega)
theorem toTrie_ev (l : List S82) (hl : l.length ≤ 1048576) : Ev (fun k => laws_toTrie.f k l) (toN l) := by
  unfold laws_toTrie.f laws_toNodeS.f
  refine Ev.bind (f := fun k t => some t) (Ev.ifT (by omega) (Ev.ifT (by omega) ?_)) (Ev.now _)
  have := toNodeS_loop l hl l.length 0 (by omega)
  rw [List.take_zero, List.nil_append, toN_length, Nat.sub_zero] at this
  exact this
theorem eqNode_self (a b : Int) (c : Bool) : laws_eqNode.f a b c a b c = some true := by
  unfold laws_eqNode.f
  rw [if_pos rfl, if_pos rfl, if_neg (by simp)]
theorem eqNodeS_loop (N : List Nd) (hN : N.length ≤ 4611686018427387903) : ∀ (d i : Nat), i + d = N.length → Ev (fun k => laws_eqNodeS.l0 k N N (i : Int)) true := by
  intro d
  induction d with
  | zero => intro i h; exact Ev.step (fun k => laws_eqNodeS.l0.eq_2 ..) (Ev.ifF (by omega) (Ev.now _))
  | succ d ih =>
    intro i h
    refine Ev.step (fun k => laws_eqNodeS.l0.eq_2 ..) (Ev.ifT (by omega) (Ev.ifT (by omega) (Ev.ifT (by omega) ?_)))
    rw [eqNode_self]
    refine Ev.some_bind (Ev.ifT rfl ?_)
    rw [wrap64_succ i (by omega)]
    exact ih (i + 1) (by omega)
theorem eqTrie_ev (N : List Nd) (hN : N.length ≤ 4611686018427387903) : Ev (fun k => laws_eqTrie.f k N N) true := by
  unfold laws_eqTrie.f laws_eqNodeS.f
  exact Ev.bind (f := fun k t => if t = true then some true else some false) (Ev.ifT rfl (eqNodeS_loop N hN N.length 0 (by omega))) (Ev.ifT rfl (Ev.now _))
/-- Both sides ask alike whether a trie is valid. -/
theorem trie_both (N : List Nd) : (IsTr N ∧ Ev (fun k => spec_l2Trie.f k N) true ∧ Ev (fun k => impl_isTrie.f k N) true) ∨ (¬ IsTr N ∧ Ev (fun k => spec_l2Trie.f k N) false ∧ Ev (fun k => impl_isTrie.f k N) false) := by
  obtain ⟨b1, c1, e1⟩ := l2Trie_ev N
  obtain ⟨b2, c2, e2⟩ := isTrie_ev N
  by_cases h : IsTr N
  · obtain rfl := c1.2 h
    obtain rfl := c2.2 h
    exact .inl ⟨h, e1, e2⟩
  · cases b1 with
    | true => exact absurd (c1.1 rfl) h
    | false =>
      cases b2 with
      | true => exact absurd (c2.1 rfl) h
      | false => exact .inr ⟨h, e1, e2⟩

end Go.Proofs.Ytgagmodkjmegeaa.L

namespace Go.Proofs.Ytgagmodkjmegeaa.L
open Go.RowKit Go.Proofs.Ytgagmodkjmegeaa.P Go.Proofs.Ytgagmodkjmegeaa.M Go.Proofs.YtgagmodkjmegeaaW.PrintWords Go.Proofs.YtgagmodkjmegeaaW.PrintLast Go.Proofs.YtgagmodkjmegeaaW.PrintMore
set_option linter.unusedVariables false
/-- A fraction in lowest terms. -/
def fr (a b : Nat) : Int × Int := (((a / Nat.gcd b a : Nat) : Int), ((b / Nat.gcd b a : Nat) : Int))
theorem wrapN {n : Nat} (h : n ≤ 9223372036854775807) : wrap64 (n : Int) = (n : Int) := wrap64_id (by omega) (by omega)
theorem divisor_ev : ∀ (b a : Nat), Ev (fun k => impl_divisor.l0 k (a : Int) (b : Int)) ((Nat.gcd b a : Nat) : Int) := by
  intro b
  induction b using Nat.strongRecOn with
  | _ b ih =>
    intro a
    by_cases hb : b = 0
    · subst hb
      rw [Nat.gcd_zero_left]
      exact Ev.step (fun k => impl_divisor.l0.eq_2 ..) (Ev.ifT rfl (Ev.now _))
    · refine Ev.step (fun k => impl_divisor.l0.eq_2 ..) (Ev.ifF (by omega) ?_)
      rw [← Int.ofNat_tmod, Nat.gcd_rec]
      exact ih (a % b) (Nat.mod_lt _ (by omega)) b
theorem frac_ev (a b : Nat) (ha : a ≤ 9223372036854775807) (hb : 0 < b) (hb2 : b ≤ 9223372036854775807) : Ev (fun k => impl_fraction.f k (a : Int) (b : Int)) (fr a b) := by
  have hg : 0 < Nat.gcd b a := Nat.gcd_pos_of_pos_left a hb
  have h1 := Nat.div_le_self a (Nat.gcd b a)
  have h2 := Nat.div_le_self b (Nat.gcd b a)
  unfold impl_fraction.f impl_divisor.f
  refine Ev.bind (f := fun k t => if t = 0 then none else some (wrap64 (Int.tdiv (a : Int) t), wrap64 (Int.tdiv (b : Int) t))) (divisor_ev b a) (Ev.ifF (by omega) ?_)
  rw [← Int.ofNat_tdiv, ← Int.ofNat_tdiv, wrapN (Nat.le_trans h1 ha), wrapN (Nat.le_trans h2 hb2)]
  exact Ev.now _
theorem cut_loop (a b : Nat) (ha : a ≤ 9223372036854775807) (hb : 0 < b) (hb2 : b ≤ 9223372036854775807) : ∀ (y x : Nat), Nat.gcd y x = Nat.gcd b a → Ev (fun k => spec_l9Cut.l0 k (a : Int) (b : Int) (x : Int) (y : Int)) (fr a b) := by
  have hg : 0 < Nat.gcd b a := Nat.gcd_pos_of_pos_left a hb
  have h1 := Nat.div_le_self a (Nat.gcd b a)
  have h2 := Nat.div_le_self b (Nat.gcd b a)
  intro y
  induction y using Nat.strongRecOn with
  | _ y ih =>
    intro x hxy
    by_cases hy : y = 0
    · subst hy
      rw [Nat.gcd_zero_left] at hxy
      subst hxy
      refine Ev.step (fun k => spec_l9Cut.l0.eq_2 ..) (Ev.ifF (by omega) ?_)
      have hm : spec_l1Most.f (((Nat.gcd b a : Nat) : Int)) 1 = some ((Nat.gcd b a : Nat) : Int) := by
        unfold spec_l1Most.f
        by_cases h : ((Nat.gcd b a : Nat) : Int) > 1
        · rw [if_pos h]
        · rw [if_neg h]; congr 1; omega
      rw [hm]
      refine Ev.some_bind (Ev.ifF (by omega) (Ev.some_bind (Ev.ifF (by omega) ?_)))
      rw [← Int.ofNat_tdiv, ← Int.ofNat_tdiv, wrapN (Nat.le_trans h1 ha), wrapN (Nat.le_trans h2 hb2)]
      exact Ev.now _
    · refine Ev.step (fun k => spec_l9Cut.l0.eq_2 ..) (Ev.ifT (by omega) (Ev.ifF (by omega) ?_))
      rw [← Int.ofNat_tmod]
      exact ih (x % y) (Nat.mod_lt _ (by omega)) y (by rw [← Nat.gcd_rec]; exact hxy)
theorem cut_ev (a b : Nat) (ha : a ≤ 9223372036854775807) (hb : 0 < b) (hb2 : b ≤ 9223372036854775807) : Ev (fun k => spec_l9Cut.f k (a : Int) (b : Int)) (fr a b) := cut_loop a b ha hb hb2 b a rfl

end Go.Proofs.Ytgagmodkjmegeaa.L

namespace Go.Proofs.Ytgagmodkjmegeaa.M
def sumL (f : Txt → Nat) : List Txt → Nat
  | [] => 0
  | x :: r => f x + sumL f r
theorem sumL_congr {f g : Txt → Nat} : ∀ {l : List Txt}, (∀ x ∈ l, f x = g x) → sumL f l = sumL g l
  | [], _ => rfl
  | x :: r, h => by rw [sumL, sumL, h x (by simp), sumL_congr fun y hy => h y (List.mem_cons_of_mem _ hy)]
theorem sumL_zero {f : Txt → Nat} : ∀ {l : List Txt}, (∀ x ∈ l, f x = 0) → sumL f l = 0
  | [], _ => rfl
  | x :: r, h => by rw [sumL, h x (by simp), sumL_zero fun y hy => h y (List.mem_cons_of_mem _ hy)]
theorem sumL_add (f g : Txt → Nat) : ∀ l : List Txt, sumL (fun x => f x + g x) l = sumL f l + sumL g l
  | [] => rfl
  | x :: r => by rw [sumL, sumL, sumL, sumL_add f g r]; omega
theorem sumL_le (f : Txt → Nat) (b : Nat) : ∀ l : List Txt, (∀ x ∈ l, f x ≤ b) → sumL f l ≤ b * l.length
  | [], _ => by simp [sumL]
  | x :: r, h => by
    have h1 := h x (by simp)
    have h2 := sumL_le f b r fun y hy => h y (List.mem_cons_of_mem _ hy)
    rw [sumL, List.length_cons, Nat.mul_succ]; omega
theorem sumL_one {Q : List Txt} (hQ : Asc Q) (a : Txt) (F : Txt → Nat) : a ∈ Q → sumL (fun p => if p = a then F p else 0) Q = F a := by
  induction Q with
  | nil => intro h; simp at h
  | cons x r ih =>
    intro h
    unfold Asc at hQ
    rw [List.pairwise_cons] at hQ
    by_cases e : x = a
    · subst e
      rw [sumL, if_pos rfl, sumL_zero fun y hy => if_neg fun e => ?_]
      · omega
      · subst e; exact txt_irrefl _ (hQ.1 _ hy)
    · rw [sumL, if_neg e, ih hQ.2 ((List.mem_cons.1 h).resolve_left fun q => e q.symm)]
      omega

end Go.Proofs.Ytgagmodkjmegeaa.M
