/-
  Part 2 of the proof that FnExactTurnsBack returns true for every input: the functions that it reaches, each with its contract, and the law.
  Conditions: those of the given statement, no others.
-/
import Derived.Lib.SlicesCompact
import Derived.Test.YtjoflkeiaoellaaDoorRows
import Derived.WalkKit
import Derived.ProofKit
import Derived.OpenShut
import Derived.ShutString
import Derived.ChangeOld
import Derived.Below
import Derived.SizedLaws
import Derived.Lay
import Derived.LaidOnce
import Derived.SevenTiedAt
import Derived.Test.YtjoflkeiaoellaaDoorCards
import Derived.Test.YtjoflkeiaoellaaDoorTie
import Derived.Test.YtjoflkeiaoellaaDoorCFnExactTurnsBack0
namespace Go.Proofs.YtjoflkeiaoellaaDoor.P
open Go.RowKit Go.Proofs.YtjoflkeiaoellaaDoorW.PrintWords Go.Proofs.YtjoflkeiaoellaaDoorW.PrintLast Go.Proofs.YtjoflkeiaoellaaDoorW.PrintMore
attribute [local go_sem] max2_int min2_int max_two min_two max_three min_three max_four min_four   -- for this text's walks alone
set_option linter.unusedVariables false
set_option linter.unusedSimpArgs false

/-! ### impl_substrings: function 59 -/
mutual
def impl_substrings.l0 : Nat → ByteArray → List ByteArray → Int → Int → Option (List ByteArray)
  | 0, _, _, _, _ => none
  | k + 1, x0, x3, x8, x9 => if x9 < x8 then (impl_substrings.l1 k x0 x3 x9 (wrap64 (x9 + 1)) x8 x9) else ((impl_set.f x3).bind fun t339 => (some t339))
def impl_substrings.l1 : Nat → ByteArray → List ByteArray → Int → Int → Int → Int → Option (List ByteArray)
  | 0, _, _, _, _, _, _ => none
  | k + 1, x0, x3, x4, x5, x8, x9 => if x5 ≤ (x0.size : Int) then (if 0 ≤ x4 then (if x4 ≤ x5 then (if x3.length < 8796093022208 then (impl_substrings.l1 k x0 (x3 ++ [x0.extract (x4 : Int).toNat (x5 : Int).toNat]) x4 (wrap64 (x5 + 1)) x8 x9) else (none)) else (none)) else (none)) else (impl_substrings.l0 k x0 x3 x8 (wrap64 (x9 + 1)))
end
def impl_substrings.f (k : Nat) (a0 : ByteArray) : Option (List ByteArray) := impl_substrings.l0 k a0 (([] : List ByteArray)) (a0.size : Int) 0
theorem impl_substrings.mono_l : ∀ k, (∀ y0 y1 y2 y3, LeO (impl_substrings.l0 k y0 y1 y2 y3) (impl_substrings.l0 (k + 1) y0 y1 y2 y3)) ∧ (∀ y0 y1 y2 y3 y4 y5, LeO (impl_substrings.l1 k y0 y1 y2 y3 y4 y5) (impl_substrings.l1 (k + 1) y0 y1 y2 y3 y4 y5))
  | 0 => ⟨fun _ _ _ _ r h => by simp [impl_substrings.l0] at h, fun _ _ _ _ _ _ r h => by simp [impl_substrings.l1] at h⟩
  | k + 1 => by
    obtain ⟨ih0, ih1⟩ := impl_substrings.mono_l k
    refine ⟨?_, ?_⟩
    · intro y0 y1 y2 y3
      unfold impl_substrings.l0
      repeat' first
      | (with_reducible exact ih0 _ _ _ _)
      | (with_reducible exact ih1 _ _ _ _ _ _)
      | (with_reducible exact LeO.refl _)
      | (with_reducible exact LeO.none _)
      | (with_reducible refine LeO.ite ?_ ?_)
      | (with_reducible refine LeO.bind ?_ (fun _ => ?_))
      | exact ih0 _ _ _ _
      | exact ih1 _ _ _ _ _ _
      | exact LeO.none _
      | refine LeO.ite ?_ ?_
      | refine LeO.bind ?_ (fun _ => ?_)
    · intro y0 y1 y2 y3 y4 y5
      unfold impl_substrings.l1
      repeat' first
      | (with_reducible exact ih0 _ _ _ _)
      | (with_reducible exact ih1 _ _ _ _ _ _)
      | (with_reducible exact LeO.refl _)
      | (with_reducible exact LeO.none _)
      | (with_reducible refine LeO.ite ?_ ?_)
      | (with_reducible refine LeO.bind ?_ (fun _ => ?_))
      | exact ih0 _ _ _ _
      | exact ih1 _ _ _ _ _ _
      | exact LeO.none _
      | refine LeO.ite ?_ ?_
      | refine LeO.bind ?_ (fun _ => ?_)
theorem impl_substrings.mono : ∀ a0 k, LeO (impl_substrings.f k a0) (impl_substrings.f (k + 1) a0) := by
  intro a0 k
  obtain ⟨ih0, ih1⟩ := impl_substrings.mono_l k
  unfold impl_substrings.f
  repeat' first
      | (with_reducible exact ih0 _ _ _ _)
      | (with_reducible exact ih1 _ _ _ _ _ _)
      | (with_reducible exact LeO.refl _)
      | (with_reducible exact LeO.none _)
      | (with_reducible refine LeO.ite ?_ ?_)
      | (with_reducible refine LeO.bind ?_ (fun _ => ?_))
      | exact ih0 _ _ _ _
      | exact ih1 _ _ _ _ _ _
      | exact LeO.none _
      | refine LeO.ite ?_ ?_
      | refine LeO.bind ?_ (fun _ => ?_)
set_option maxHeartbeats 8000000 in
set_option maxRecDepth 100000 in
theorem impl_substrings.calls (k : Nat) (a0 : ByteArray) (r : List ByteArray) (w : World) (h : impl_substrings.f k a0 = some r) :
    Calls Tryd.prog 59 #[.string a0] w fun e w' => ∃ v0_ : Value, e = .returned (v0_) ∧ Kd.R Kd.string 9 w' w.heap.size (fun _ => True) v0_ r ∧ Below w.heap.size w w' := by
  have HB := Aside0.mk (Below.refl w.heap.size w)
  have H : (impl_substrings.l0 k a0 (([] : List ByteArray)) (a0.size : Int) 0) = some r := h
  clear h
  obtain ⟨y336, hy336⟩ : ∃ y_ : List ByteArray, y_ = (([] : List ByteArray)) := ⟨_, rfl⟩
  replace H : (impl_substrings.l0 k a0 y336 (a0.size : Int) 0) = some r := by first | (rw [hy336]; with_reducible exact H) | (have H2_ := (Option.bind_some _ _).symm.trans H; rw [hy336]; with_reducible exact H2_) | (have H2_ := (Option.bind_some _ _).symm.trans H; with_reducible exact H2_) | with_reducible exact H | (rw [hy336]; exact H) | exact H
  have Ny336 := Aside0.mk hy336
  clear hy336
  have H' := Aside0.mk H
  clear H
  go_enter Tryd.func59, Tryd.ntmps59
  go_wp2_with (first | ((with_reducible refine gate_dst (N := 6) rfl ?_); refine Kd.R_lit Kd.string _ 9 ?hg (N := 6) ?hd (xs := ([] : List ByteArray)) (inner := []) (ok := fun _ => True) (okp := fun _ => True) ?hr ?hp (fun _ hk => hk) trivial (Below.refl _ _) (Nat.le_refl _) (by simp) ?_; (case hd => rfl); (case hg => rfl); (case hr => first | (go_simp; done) | (go_simp; rfl)); (case hp => exact (Reps.none _ _)); intro v337 w2 ho3 hb hg_ hnew_; clear hg_ hnew_; (first | rw [← Ny336.out] at ho3 | (simp only [Int.reduceToNat] at ho3; rw [← Ny336.out] at ho3)); have n0_ := Aside0.mk (Kd.R_lower ho3 (below_size (by repeat (first | (with_reducible first | exact HB.out | apply below_alloc | apply pw_below_drewN | apply below_drew1) | exact HB.out)))); have n1_ := Aside0.mk (below_step (by repeat (first | (with_reducible first | exact HB.out | apply below_alloc | apply pw_below_drewN | apply below_drew1) | exact HB.out)) hb); clear HB; have HO338 := n0_; have HB := n1_; clear n0_ n1_; clear hb ho3))
  go_loopg [3, 9] k (fun kq v3 v9 w' => ∃ (x3_1 : List ByteArray) (x9_1 : Int), v9 = .int .i64 x9_1 ∧ Aside0 (impl_substrings.l0 kq a0 x3_1 (a0.size : Int) x9_1 = some r) ∧ Aside0 (kq ≤ k) ∧ Aside0 (Kd.R Kd.string 9 w' w.heap.size (fun _ => True) v3 x3_1) ∧ Aside0 (Below w.heap.size w w'))
  case atStart => exact ⟨(y336), (0), (by first | rfl | (simp; done) | (simp [*]; done)), H', ⟨Nat.le_refl _⟩, ⟨by (with_reducible repeat (first | apply Kd.R_alloc | apply Kd.R_drewN | apply Kd.R_drew)); exact HO338.out⟩, ⟨by repeat (first | (with_reducible first | exact HB.out | apply below_alloc | apply pw_below_drewN | apply below_drew1) | exact HB.out)⟩⟩
  case round =>
    clear H'
    try clear p2
    obtain ⟨x3_1, x9_1, rfl, HA, HK1, HO_3, HB⟩ := hrel
    cases gk with
    | zero => exact absurd HA.out (by simp [impl_substrings.l0])
    | succ k1 =>
      have H := HA.out
      clear HA
      simp only [impl_substrings.l0] at H
      by_cases c4 : x9_1 < (a0.size : Int)
      · rw [if_pos c4] at H
        have c4b0 : decide (x9_1 < (a0.size : Int)) = true := decide_eq_true c4
        clear c4
        have H' := Aside0.mk H
        clear H
        go_wp2
        go_loopg [3, 5] k1 (fun kq v3 v5 w' => ∃ (x3_2 : List ByteArray) (x5_2 : Int), v5 = .int .i64 x5_2 ∧ Aside0 (impl_substrings.l1 kq a0 x3_2 x9_1 x5_2 (a0.size : Int) x9_1 = some r) ∧ Aside0 (kq ≤ k1) ∧ Aside0 (Kd.R Kd.string 9 w' w.heap.size (fun _ => True) v3 x3_2) ∧ Aside0 (Below w.heap.size w w'))
        case atStart => exact ⟨(x3_1), (wrap64 (x9_1 + 1)), (by first | rfl | (simp; done) | (simp [*]; done)), H', ⟨Nat.le_refl _⟩, ⟨by (with_reducible repeat (first | apply Kd.R_alloc | apply Kd.R_drewN | apply Kd.R_drew)); exact HO_3.out⟩, ⟨by repeat (first | (with_reducible first | exact HB.out | apply below_alloc | apply pw_below_drewN | apply below_drew1) | exact HB.out)⟩⟩
        case round =>
          clear H'
          try clear p2
          try clear c4
          try clear c4b0
          try clear p2
          obtain ⟨x3_2, x5_2, rfl, HA, HK2, HO_3, HB⟩ := hrel
          cases gk with
          | zero => exact absurd HA.out (by simp [impl_substrings.l1])
          | succ k2 =>
            have H := HA.out
            clear HA
            simp only [impl_substrings.l1] at H
            by_cases c5 : x5_2 ≤ (a0.size : Int)
            · rw [if_pos c5] at H
              have c5b0 : decide (x5_2 ≤ (a0.size : Int)) = true := decide_eq_true c5
              clear c5
              by_cases c6 : 0 ≤ x9_1
              · rw [if_pos c6] at H
                have c6b0 := eq_true c6
                have c6b1 : decide (0 ≤ x9_1) = true := decide_eq_true c6
                clear c6
                by_cases c7 : x9_1 ≤ x5_2
                · rw [if_pos c7] at H
                  have c7b0 := eq_true c7
                  have c7b1 : decide (x9_1 ≤ x5_2) = true := decide_eq_true c7
                  clear c7
                  have c8b0 := eq_true (of_decide_eq_true (by first | (with_reducible assumption) | assumption) : x5_2 ≤ (a0.size : Int))
                  by_cases c9 : x3_2.length < 8796093022208
                  · rw [if_pos c9] at H
                    have LMc9 := Aside0.mk c9
                    clear c9
                    obtain ⟨y342, hy342⟩ : ∃ y_ : List ByteArray, y_ = (x3_2 ++ [a0.extract (x9_1 : Int).toNat (x5_2 : Int).toNat]) := ⟨_, rfl⟩
                    replace H : (impl_substrings.l1 k2 a0 y342 x9_1 (wrap64 (x5_2 + 1)) (a0.size : Int) x9_1) = some r := by first | (rw [hy342]; with_reducible exact H) | (have H2_ := (Option.bind_some _ _).symm.trans H; rw [hy342]; with_reducible exact H2_) | (have H2_ := (Option.bind_some _ _).symm.trans H; with_reducible exact H2_) | with_reducible exact H | (rw [hy342]; exact H) | exact H
                    have Ny342 := Aside0.mk hy342
                    clear hy342
                    have H' := Aside0.mk H
                    clear H
                    go_wp2_with (first | ((with_reducible refine gate_builtin (b := .append) (xs := #[.tmp 20, .tmp 25]) rfl ?_); at_builtin; refine Kd.R_append Kd.string (w0 := w) w.heap.size rfl (.tmp 20) (.tmp 25) 35 9 (.string ⟨#[]⟩) 16 rfl Tryd.underlying35 info9 rfl (by decide) (by omega) u3 x3_2 (a0.extract (x9_1 : Int).toNat (x5_2 : Int).toNat) [.string (a0.extract (x9_1 : Int).toNat (x5_2 : Int).toNat)] (fun _ => True) (fun _ => False) rfl rfl ?aP (fun _ hk => hk.elim) ?aF ?aO ?aB ?aS ?aL ?_; (case aP => exact rfl); (case aB => exact (by repeat (first | (with_reducible first | exact HB.out | apply below_alloc | apply pw_below_drewN | apply below_drew1) | exact HB.out))); (case aF => exact (fun _ _ => trivial)); (case aO => exact (by (with_reducible repeat (first | apply Kd.R_alloc | apply Kd.R_drewN | apply Kd.R_drew)); exact HO_3.out)); (case aS => exact (below_size (by repeat (first | (with_reducible first | exact HB.out | apply below_alloc | apply pw_below_drewN | apply below_drew1) | exact HB.out)))); (case aL => have := LMc9.out; omega); intro v343 w10 ho hb hg hat; rw [← Ny342.out] at ho; have n0_ := Aside0.mk (hb); have n1_ := Aside0.mk (ho); clear HB; clear HO_3; have HB := n0_; have HO344 := n1_; clear n0_ n1_; clear ho hb hg hat))
                    go_roundg k2
                    case measure => have := HK1.out; have := HK2.out; omega
                    case rel => exact ⟨(y342), (wrap64 (x5_2 + 1)), (by first | rfl | (simp; done) | (simp [*]; done)), H', ⟨by have := HK1.out; have := HK2.out; omega⟩, ⟨by (with_reducible repeat (first | apply Kd.R_alloc | apply Kd.R_drewN | apply Kd.R_drew)); exact HO344.out⟩, ⟨by repeat (first | (with_reducible first | exact HB.out | apply below_alloc | apply pw_below_drewN | apply below_drew1) | exact HB.out)⟩⟩
                  · rw [if_neg c9] at H
                    exact absurd H (by simp)
                · rw [if_neg c7] at H
                  exact absurd H (by simp)
              · rw [if_neg c6] at H
                exact absurd H (by simp)
            · rw [if_neg c5] at H
              have c5b0 : decide (x5_2 ≤ (a0.size : Int)) = false := decide_eq_false c5
              clear c5
              have H' := Aside0.mk H
              clear H
              go_wp2
              go_roundg k2
              case measure => have := HK1.out; have := HK2.out; omega
              case rel => exact ⟨(x3_2), (wrap64 (x9_1 + 1)), (by first | rfl | (simp; done) | (simp [*]; done)), H', ⟨by have := HK1.out; have := HK2.out; omega⟩, ⟨by (with_reducible repeat (first | apply Kd.R_alloc | apply Kd.R_drewN | apply Kd.R_drew)); exact HO_3.out⟩, ⟨by repeat (first | (with_reducible first | exact HB.out | apply below_alloc | apply pw_below_drewN | apply below_drew1) | exact HB.out)⟩⟩
      · rw [if_neg c4] at H
        have c4b0 : decide (x9_1 < (a0.size : Int)) = false := decide_eq_false c4
        clear c4
        replace H := Option.bind_eq_some_iff.mp H
        obtain ⟨t339, A110, H⟩ := H
        replace H : (some t339) = some r := H
        have A11 := Aside0.mk A110
        clear A110
        obtain rfl := Option.some.inj H
        obtain ⟨Ao12, co12, eo12⟩ := Kd.R_slice HO_3.out
        subst eo12
        go_wp2_with (first | ((with_reducible refine gate_callee (f := 77) rfl ?_); refine goesL_ (some 29) rfl rfl Tryd.func77 (by kernel_rfl) rfl #[.slice Ao12 x3_1.length co12] rfl (by (try simp only [List.map_toArray, List.map_cons, List.map_nil]); first | done | rfl | (simp only [List.length_drop, List.length_take]; rfl)) ?_; (with_reducible refine (impl_set.calls _ _ x3_1 t339 _ ?side1 ?side2 A11.out).mono ?_); (case side1 => repeat (first | exact (Kd.R_reads' HO_3.out).2.2 | (with_reducible refine Kd.C_alloc ?_ _) | (with_reducible refine Kd.C_drewN ?_ _) | (with_reducible refine Kd.C_drew ?_))); (case side2 => exact (Kd.R_reads' HO_3.out).2.1); rintro e w13 ⟨v340, rfl, ho0, hb⟩; refine ⟨_, rfl, ?_⟩; have n0_ := Aside0.mk (Kd.R_elder' (by (with_reducible repeat (first | apply Kd.R_alloc | apply Kd.R_drewN | apply Kd.R_drew)); exact HO_3.out) (Kd.R_base ho0) hb); have n1_ := Aside0.mk (Kd.R_lower (Kd.R_new' ho0 (Kd.R_lt (by (with_reducible repeat (first | apply Kd.R_alloc | apply Kd.R_drewN | apply Kd.R_drew)); exact HO_3.out))) (below_size (by repeat (first | (with_reducible first | exact HB.out | apply below_alloc | apply pw_below_drewN | apply below_drew1) | exact HB.out)))); have n2_ := Aside0.mk (below_step (by repeat (first | (with_reducible first | exact HB.out | apply below_alloc | apply pw_below_drewN | apply below_drew1) | exact HB.out)) hb); clear HO_3; clear HB; have HO_3 := n0_; have HO341 := n1_; have HB := n2_; clear n0_ n1_ n2_; (try clear hb); (try clear hb2); (try clear hk); (try clear hi); (try clear ho0)))
        go_ret
        exact ⟨_, by first | rfl | (simp [errW_none, errW_some] <;> rfl) | (simp [*, errW_none, errW_some] <;> rfl), by (with_reducible repeat (first | apply Kd.R_alloc | apply Kd.R_drewN | apply Kd.R_drew)); exact Kd.R_mono HO341.out (fun _ hk => trivial), by repeat (first | (with_reducible first | exact HB.out | apply below_alloc | apply pw_below_drewN | apply below_drew1) | exact HB.out)⟩

end Go.Proofs.YtjoflkeiaoellaaDoor.P

namespace Go.Proofs.YtjoflkeiaoellaaDoor.P
open Go.RowKit Go.Proofs.YtjoflkeiaoellaaDoorW.PrintWords Go.Proofs.YtjoflkeiaoellaaDoorW.PrintLast Go.Proofs.YtjoflkeiaoellaaDoorW.PrintMore
attribute [local go_sem] max2_int min2_int max_two min_two max_three min_three max_four min_four   -- for this text's walks alone
set_option linter.unusedVariables false
set_option linter.unusedSimpArgs false

/-! ### impl_TurnsBack_1: function 69 -/
def impl_TurnsBack_1.l0 : Nat → ByteArray → Int → Int → Option (Bool)
  | 0, _, _, _ => none
  | k + 1, x0, x5, x6 => if x6 < x5 then (if 0 ≤ x6 then (if x6 < (x0.size : Int) then (if 0 ≤ (wrap64 ((wrap64 ((x0.size : Int) - 1)) - x6)) then (if (wrap64 ((wrap64 ((x0.size : Int) - 1)) - x6)) < (x0.size : Int) then (if (bt x0 x6) = (bt x0 (wrap64 ((wrap64 ((x0.size : Int) - 1)) - x6))) then (impl_TurnsBack_1.l0 k x0 x5 (wrap64 (x6 + 1))) else (some false)) else (none)) else (none)) else (none)) else (none)) else (some true)
def impl_TurnsBack_1.f (k : Nat) (a0 : ByteArray) : Option (Bool) := impl_TurnsBack_1.l0 k a0 (a0.size : Int) 0
theorem impl_TurnsBack_1.mono_l : ∀ k, (∀ y0 y1 y2, LeO (impl_TurnsBack_1.l0 k y0 y1 y2) (impl_TurnsBack_1.l0 (k + 1) y0 y1 y2))
  | 0 => fun _ _ _ r h => by simp [impl_TurnsBack_1.l0] at h
  | k + 1 => by
    have ih0 := impl_TurnsBack_1.mono_l k
    · intro y0 y1 y2
      unfold impl_TurnsBack_1.l0
      repeat' first
      | (with_reducible exact ih0 _ _ _)
      | (with_reducible exact LeO.refl _)
      | (with_reducible exact LeO.none _)
      | (with_reducible refine LeO.ite ?_ ?_)
      | (with_reducible refine LeO.bind ?_ (fun _ => ?_))
      | exact ih0 _ _ _
      | exact LeO.none _
      | refine LeO.ite ?_ ?_
      | refine LeO.bind ?_ (fun _ => ?_)
theorem impl_TurnsBack_1.mono : ∀ a0 k, LeO (impl_TurnsBack_1.f k a0) (impl_TurnsBack_1.f (k + 1) a0) := by
  intro a0 k
  have ih0 := impl_TurnsBack_1.mono_l k
  unfold impl_TurnsBack_1.f
  repeat' first
      | (with_reducible exact ih0 _ _ _)
      | (with_reducible exact LeO.refl _)
      | (with_reducible exact LeO.none _)
      | (with_reducible refine LeO.ite ?_ ?_)
      | (with_reducible refine LeO.bind ?_ (fun _ => ?_))
      | exact ih0 _ _ _
      | exact LeO.none _
      | refine LeO.ite ?_ ?_
      | refine LeO.bind ?_ (fun _ => ?_)
set_option maxHeartbeats 8000000 in
set_option maxRecDepth 100000 in
theorem impl_TurnsBack_1.calls (k : Nat) (a0 : ByteArray) (r : Bool) (w : World) (h : impl_TurnsBack_1.f k a0 = some r) :
    Calls Tryd.prog 69 #[.string a0] w fun e w' => e = .returned (.bool r) ∧ Drawn0 w w' := by
  have H : (impl_TurnsBack_1.l0 k a0 (a0.size : Int) 0) = some r := h
  clear h
  have H' := Aside0.mk H
  clear H
  go_enter Tryd.func69, Tryd.ntmps69
  go_wp2
  repeat (go_quiet (fail); try go_wp2)
  go_loopg [6] k (fun kq v6 w' => ∃ (x6_1 : Int), v6 = .int .i64 x6_1 ∧ Aside0 (impl_TurnsBack_1.l0 kq a0 (a0.size : Int) x6_1 = some r) ∧ Aside0 (kq ≤ k) ∧ Drawn0 w w')
  case atStart => exact ⟨(0), (by first | rfl | (simp; done) | (simp [*]; done)), H', ⟨Nat.le_refl _⟩, by repeat (first | exact Drawn0.refl _ | apply Drawn0.step)⟩
  case round =>
    clear H'
    obtain ⟨x6_1, rfl, HA, HK1, ⟨m1, rfl⟩⟩ := hrel
    cases gk with
    | zero => exact absurd HA.out (by simp [impl_TurnsBack_1.l0])
    | succ k1 =>
      have H := HA.out
      clear HA
      simp only [impl_TurnsBack_1.l0] at H
      by_cases c2 : x6_1 < (a0.size : Int)
      · rw [if_pos c2] at H
        have c2b0 : decide (x6_1 < (a0.size : Int)) = true := decide_eq_true c2
        clear c2
        by_cases c3 : 0 ≤ x6_1
        · rw [if_pos c3] at H
          have c3b0 : decide (0 ≤ x6_1) = true := decide_eq_true c3
          clear c3
          by_cases c4 : x6_1 < (a0.size : Int)
          · rw [if_pos c4] at H
            have c4b0 : decide (x6_1 < (a0.size : Int)) = true := decide_eq_true c4
            clear c4
            obtain ⟨ji6, hji6⟩ : ∃ j_ : Int, (wrap64 ((wrap64 ((a0.size : Int) - 1)) - x6_1)) = j_ := ⟨_, rfl⟩
            replace H : (if 0 ≤ (ji6) then (if (ji6) < (a0.size : Int) then (if (bt a0 x6_1) = (bt a0 (ji6)) then (impl_TurnsBack_1.l0 k1 a0 (a0.size : Int) (wrap64 (x6_1 + 1))) else (some false)) else (none)) else (none)) = some r := by first | (rw [hji6] at H; exact H) | (simp only [hji6] at H ⊢; exact H)
            have hji6w : (IntKind.i64.wrap ((wrap64 ((a0.size : Int) - 1)) - x6_1)) = ji6 := (i64_w _).trans hji6
            by_cases c7 : 0 ≤ (ji6)
            · rw [if_pos c7] at H
              have c7b0 : decide (0 ≤ (ji6)) = true := decide_eq_true c7
              clear c7
              by_cases c8 : (ji6) < (a0.size : Int)
              · rw [if_pos c8] at H
                have c8b0 : decide ((ji6) < (a0.size : Int)) = true := decide_eq_true c8
                clear c8
                by_cases c10 : (bt a0 x6_1) = (bt a0 (ji6))
                · rw [if_pos c10] at H
                  have c10b0 : ((bt a0 x6_1) == (bt a0 (ji6))) = true := beq_iff_eq.mpr c10
                  have c10b1 : ((bt a0 x6_1) != (bt a0 (ji6))) = false := bne_eq_false_iff_eq.mpr c10
                  clear c10
                  have H' := Aside0.mk H
                  clear H
                  have p5 : 0 ≤ (x6_1 : Int) := of_decide_eq_true (by first | (with_reducible assumption) | assumption)
                  have q5 : x6_1 < (a0.size : Int) := of_decide_eq_true (by first | (with_reducible assumption) | assumption)
                  have hx5 := bt_at a0 x6_1
                  replace p5 := eq_true p5
                  replace q5 := eq_true q5
                  have p9 : 0 ≤ ((ji6) : Int) := of_decide_eq_true (by first | (with_reducible assumption) | assumption)
                  have q9 : (ji6) < (a0.size : Int) := of_decide_eq_true (by first | (with_reducible assumption) | assumption)
                  have hx9 := bt_at a0 (ji6)
                  replace p9 := eq_true p9
                  replace q9 := eq_true q9
                  go_wp2
                  repeat (go_quiet (fail); try go_wp2)
                  go_roundg k1
                  case measure => have := HK1.out; omega
                  case rel => exact ⟨(wrap64 (x6_1 + 1)), (by first | rfl | (simp; done) | (simp [*]; done)), H', ⟨by have := HK1.out; omega⟩, by repeat (first | exact Drawn0.refl _ | apply Drawn0.step)⟩
                · rw [if_neg c10] at H
                  have c10b0 : ((bt a0 x6_1) == (bt a0 (ji6))) = false := beq_eq_false_iff_ne.mpr c10
                  have c10b1 : ((bt a0 x6_1) != (bt a0 (ji6))) = true := bne_iff_ne.mpr c10
                  obtain rfl := Option.some.inj H
                  have p5 : 0 ≤ (x6_1 : Int) := of_decide_eq_true (by first | (with_reducible assumption) | assumption)
                  have q5 : x6_1 < (a0.size : Int) := of_decide_eq_true (by first | (with_reducible assumption) | assumption)
                  have hx5 := bt_at a0 x6_1
                  replace p5 := eq_true p5
                  replace q5 := eq_true q5
                  have p9 : 0 ≤ ((ji6) : Int) := of_decide_eq_true (by first | (with_reducible assumption) | assumption)
                  have q9 : (ji6) < (a0.size : Int) := of_decide_eq_true (by first | (with_reducible assumption) | assumption)
                  have hx9 := bt_at a0 (ji6)
                  replace p9 := eq_true p9
                  replace q9 := eq_true q9
                  go_wp2
                  repeat (go_quiet (fail); try go_wp2)
                  go_ret
                  exact ⟨by first | rfl | (simp; done) | (simp only [← hji6] <;> (first | rfl | simp)) | (simp [*]; done), by repeat (first | exact Drawn0.refl _ | apply Drawn0.step)⟩
              · rw [if_neg c8] at H
                exact absurd H (by simp)
            · rw [if_neg c7] at H
              exact absurd H (by simp)
          · rw [if_neg c4] at H
            exact absurd H (by simp)
        · rw [if_neg c3] at H
          exact absurd H (by simp)
      · rw [if_neg c2] at H
        have c2b0 : decide (x6_1 < (a0.size : Int)) = false := decide_eq_false c2
        clear c2
        obtain rfl := Option.some.inj H
        go_wp2
        repeat (go_quiet (fail); try go_wp2)
        go_ret
        exact ⟨by first | rfl | (simp; done) | (simp [*]; done), by repeat (first | exact Drawn0.refl _ | apply Drawn0.step)⟩

end Go.Proofs.YtjoflkeiaoellaaDoor.P

namespace Go.Proofs.YtjoflkeiaoellaaDoor.P
open Go.RowKit Go.Proofs.YtjoflkeiaoellaaDoorW.PrintWords Go.Proofs.YtjoflkeiaoellaaDoorW.PrintLast Go.Proofs.YtjoflkeiaoellaaDoorW.PrintMore
attribute [local go_sem] max2_int min2_int max_two min_two max_three min_three max_four min_four   -- for this text's walks alone
set_option linter.unusedVariables false
set_option linter.unusedSimpArgs false

/-! ### impl_TurnsBack: function 44 -/
def impl_TurnsBack.f (k : Nat) (a0 : ByteArray) : Option (List ByteArray × Bool) := ChosenOf.list (impl_isText.f a0) (impl_substrings.f k a0) (fun x => impl_TurnsBack_1.f k x)
theorem impl_TurnsBack.mono : ∀ a0 k, LeO (impl_TurnsBack.f k a0) (impl_TurnsBack.f (k + 1) a0) := by
  intro a0 k
  exact ChosenOf.mono (LeO.refl _) (impl_substrings.mono _ _) (fun x => impl_TurnsBack_1.mono _ _)
set_option maxHeartbeats 1000000 in
theorem impl_TurnsBack.calls (k : Nat) (a0 : ByteArray) (r1 : List ByteArray) (r2 : Bool) (w : World) (h : impl_TurnsBack.f k a0 = some (r1, r2)) :
    Calls Tryd.prog 44 #[.string a0] w fun e w' => ∃ v0_ : Value, e = .returned (.tuple #[v0_, .bool r2]) ∧ Kd.R Kd.string 9 w' w.heap.size (fun _ => True) v0_ r1 ∧ Below w.heap.size w w' := by
  obtain ⟨zs, q, hl, h1, h2, hq, h3⟩ := ChosenOf.parts h
  clear h
  have HC := Aside0.mk (ChosenOf.calls q 69 #[] (Go.Proofs.enters_of Tryd.func69 (by kernel_rfl) rfl) a0 r2 zs w hl (fun W => impl_isText.calls a0 r2 W h1) (fun e W => impl_substrings.calls k a0 zs W (h2 e)) (fun W x hx _ => by
    refine (impl_TurnsBack_1.calls k x (q x) W (hq x hx)).mono ?_
    rintro e w' ⟨rfl, hd⟩
    exact ⟨rfl, hd.below⟩))
  rw [← h3] at HC
  clear hl h1 h2 h3 hq
  go_enter Tryd.func44, Tryd.ntmps44
  go_wp2_with fail
  refine HC.out.mono ?_
  clear HC
  rintro e w1 ⟨v, rfl, hr, hb⟩
  have H1 := Aside0.mk (And.intro hr hb)
  clear hr hb
  go_wp2_with fail
  go_ret2
  exact ⟨_, rfl, H1.out.1, H1.out.2⟩

end Go.Proofs.YtjoflkeiaoellaaDoor.P

namespace Go.Proofs.YtjoflkeiaoellaaDoor.P
open Go.RowKit Go.Proofs.YtjoflkeiaoellaaDoorW.PrintWords Go.Proofs.YtjoflkeiaoellaaDoorW.PrintLast Go.Proofs.YtjoflkeiaoellaaDoorW.PrintMore
attribute [local go_sem] max2_int min2_int max_two min_two max_three min_three max_four min_four   -- for this text's walks alone
set_option linter.unusedVariables false
set_option linter.unusedSimpArgs false

/-! ### laws_FnExactTurnsBack: function 14 -/
mutual
def laws_FnExactTurnsBack.j0 : Nat → ByteArray → List ByteArray → Bool → List ByteArray → Bool → Option (Bool)
  | 0, _, _, _, _, _ => none
  | k + 1, x0, x3, x4, x5, x32 => if x32 = true then (some false) else ((laws_markStringS.f k x5 1).bind fun bt517 => ((laws_heldStringS.f k bt517.2 1).bind fun t519 => (if t519 < 0 then (some false) else (if t519 = bt517.1 then ((impl_TurnsBack.f k x0).bind fun bt520 => ((laws_eqStringS.f k bt520.1 x3).bind fun t524 => (if t524 = true then (laws_FnExactTurnsBack.j1 k bt517.2 bt517.1 (bt520.2 != x4)) else (laws_FnExactTurnsBack.j1 k bt517.2 bt517.1 true)))) else (some false)))))
def laws_FnExactTurnsBack.j1 : Nat → List ByteArray → Int → Bool → Option (Bool)
  | 0, _, _, _ => none
  | k + 1, x5, x7, x57 => if x57 = true then (some false) else ((laws_heldStringS.f k x5 1).bind fun t525 => (if t525 < 0 then (some false) else (if t525 = x7 then (some true) else (some false))))
end
def laws_FnExactTurnsBack.f (k : Nat) (a0 : ByteArray) : Option (Bool) := if (a0.size : Int) > 1048576 then (some true) else ((spec_TurnsBack.f k a0).bind fun bt508 => ((impl_TurnsBack.f k a0).bind fun bt512 => ((laws_eqStringS.f k bt512.1 bt508.1).bind fun t516 => (if t516 = true then (laws_FnExactTurnsBack.j0 k a0 bt508.1 bt508.2 bt512.1 (bt512.2 != bt508.2)) else (laws_FnExactTurnsBack.j0 k a0 bt508.1 bt508.2 bt512.1 true)))))
theorem laws_FnExactTurnsBack.mono_l : ∀ k, (∀ y0 y1 y2 y3 y4, LeO (laws_FnExactTurnsBack.j0 k y0 y1 y2 y3 y4) (laws_FnExactTurnsBack.j0 (k + 1) y0 y1 y2 y3 y4)) ∧ (∀ y0 y1 y2, LeO (laws_FnExactTurnsBack.j1 k y0 y1 y2) (laws_FnExactTurnsBack.j1 (k + 1) y0 y1 y2))
  | 0 => ⟨fun _ _ _ _ _ r h => by simp [laws_FnExactTurnsBack.j0] at h, fun _ _ _ r h => by simp [laws_FnExactTurnsBack.j1] at h⟩
  | k + 1 => by
    obtain ⟨ih0, ih1⟩ := laws_FnExactTurnsBack.mono_l k
    refine ⟨?_, ?_⟩
    · intro y0 y1 y2 y3 y4
      unfold laws_FnExactTurnsBack.j0
      repeat' first
      | (with_reducible exact ih0 _ _ _ _ _)
      | (with_reducible exact ih1 _ _ _)
      | (with_reducible exact impl_TurnsBack.mono _ _)
      | (with_reducible exact laws_eqStringS.mono _ _ _)
      | (with_reducible exact laws_heldStringS.mono _ _ _)
      | (with_reducible exact laws_markStringS.mono _ _ _)
      | (with_reducible exact spec_TurnsBack.mono _ _)
      | (with_reducible exact LeO.refl _)
      | (with_reducible exact LeO.none _)
      | (with_reducible refine LeO.ite ?_ ?_)
      | (with_reducible refine LeO.bind ?_ (fun _ => ?_))
      | exact ih0 _ _ _ _ _
      | exact ih1 _ _ _
      | exact impl_TurnsBack.mono _ _
      | exact laws_eqStringS.mono _ _ _
      | exact laws_heldStringS.mono _ _ _
      | exact laws_markStringS.mono _ _ _
      | exact spec_TurnsBack.mono _ _
      | exact LeO.none _
      | refine LeO.ite ?_ ?_
      | refine LeO.bind ?_ (fun _ => ?_)
    · intro y0 y1 y2
      unfold laws_FnExactTurnsBack.j1
      repeat' first
      | (with_reducible exact ih0 _ _ _ _ _)
      | (with_reducible exact ih1 _ _ _)
      | (with_reducible exact impl_TurnsBack.mono _ _)
      | (with_reducible exact laws_eqStringS.mono _ _ _)
      | (with_reducible exact laws_heldStringS.mono _ _ _)
      | (with_reducible exact laws_markStringS.mono _ _ _)
      | (with_reducible exact spec_TurnsBack.mono _ _)
      | (with_reducible exact LeO.refl _)
      | (with_reducible exact LeO.none _)
      | (with_reducible refine LeO.ite ?_ ?_)
      | (with_reducible refine LeO.bind ?_ (fun _ => ?_))
      | exact ih0 _ _ _ _ _
      | exact ih1 _ _ _
      | exact impl_TurnsBack.mono _ _
      | exact laws_eqStringS.mono _ _ _
      | exact laws_heldStringS.mono _ _ _
      | exact laws_markStringS.mono _ _ _
      | exact spec_TurnsBack.mono _ _
      | exact LeO.none _
      | refine LeO.ite ?_ ?_
      | refine LeO.bind ?_ (fun _ => ?_)
theorem laws_FnExactTurnsBack.mono : ∀ a0 k, LeO (laws_FnExactTurnsBack.f k a0) (laws_FnExactTurnsBack.f (k + 1) a0) := by
  intro a0 k
  obtain ⟨ih0, ih1⟩ := laws_FnExactTurnsBack.mono_l k
  unfold laws_FnExactTurnsBack.f
  repeat' first
      | (with_reducible exact ih0 _ _ _ _ _)
      | (with_reducible exact ih1 _ _ _)
      | (with_reducible exact impl_TurnsBack.mono _ _)
      | (with_reducible exact laws_eqStringS.mono _ _ _)
      | (with_reducible exact laws_heldStringS.mono _ _ _)
      | (with_reducible exact laws_markStringS.mono _ _ _)
      | (with_reducible exact spec_TurnsBack.mono _ _)
      | (with_reducible exact LeO.refl _)
      | (with_reducible exact LeO.none _)
      | (with_reducible refine LeO.ite ?_ ?_)
      | (with_reducible refine LeO.bind ?_ (fun _ => ?_))
      | exact ih0 _ _ _ _ _
      | exact ih1 _ _ _
      | exact impl_TurnsBack.mono _ _
      | exact laws_eqStringS.mono _ _ _
      | exact laws_heldStringS.mono _ _ _
      | exact laws_markStringS.mono _ _ _
      | exact spec_TurnsBack.mono _ _
      | exact LeO.none _
      | refine LeO.ite ?_ ?_
      | refine LeO.bind ?_ (fun _ => ?_)
set_option maxHeartbeats 8000000 in
set_option maxRecDepth 100000 in
theorem laws_FnExactTurnsBack.calls (k : Nat) (a0 : ByteArray) (r : Bool) (w : World) (h : laws_FnExactTurnsBack.f k a0 = some r) :
    Calls Tryd.prog 14 #[.string a0] w fun e w' => e = .returned (.bool r) ∧ Below w.heap.size w w' := by
  have HB := Aside0.mk (Below.refl w.heap.size w)
  have H : (if (a0.size : Int) > 1048576 then (some true) else ((spec_TurnsBack.f k a0).bind fun bt508 => ((impl_TurnsBack.f k a0).bind fun bt512 => ((laws_eqStringS.f k bt512.1 bt508.1).bind fun t516 => (if t516 = true then (laws_FnExactTurnsBack.j0 k a0 bt508.1 bt508.2 bt512.1 (bt512.2 != bt508.2)) else (laws_FnExactTurnsBack.j0 k a0 bt508.1 bt508.2 bt512.1 true)))))) = some r := h
  clear h
  by_cases c2 : (a0.size : Int) > 1048576
  · rw [if_pos c2] at H
    have c2b0 : decide (1048576 < (a0.size : Int)) = true := decide_eq_true c2
    have c2b1 : decide (1048576 < a0.size) = true := decide_eq_true (by omega)
    clear c2
    obtain rfl := Option.some.inj H
    go_enter Tryd.func14, Tryd.ntmps14
    go_wp2
    go_ret
    exact ⟨by first | rfl | (simp [errW_none, errW_some] <;> rfl) | (simp [*, errW_none, errW_some] <;> rfl), by repeat (first | (with_reducible first | exact HB.out | apply below_alloc | apply pw_below_drewN | apply below_drew1) | exact HB.out)⟩
  · rw [if_neg c2] at H
    have c2b0 : decide (1048576 < (a0.size : Int)) = false := decide_eq_false c2
    have c2b1 : decide (1048576 < a0.size) = false := decide_eq_false (by omega)
    clear c2
    replace H := Option.bind_eq_some_iff.mp H
    obtain ⟨⟨t508, t509⟩, A30, H⟩ := H
    replace H : ((impl_TurnsBack.f k a0).bind fun bt512 => ((laws_eqStringS.f k bt512.1 t508).bind fun t516 => (if t516 = true then (laws_FnExactTurnsBack.j0 k a0 t508 t509 bt512.1 (bt512.2 != t509)) else (laws_FnExactTurnsBack.j0 k a0 t508 t509 bt512.1 true)))) = some r := H
    have A3 := Aside0.mk A30
    clear A30
    replace H := Option.bind_eq_some_iff.mp H
    obtain ⟨⟨t512, t513⟩, A40, H⟩ := H
    replace H : ((laws_eqStringS.f k t512 t508).bind fun t516 => (if t516 = true then (laws_FnExactTurnsBack.j0 k a0 t508 t509 t512 (t513 != t509)) else (laws_FnExactTurnsBack.j0 k a0 t508 t509 t512 true))) = some r := H
    have A4 := Aside0.mk A40
    clear A40
    have HC5 := Aside0.mk H
    clear H
    go_enter Tryd.func14, Tryd.ntmps14
    go_upto_region 5 with (first | ((with_reducible refine gate_callee (f := 43) rfl ?_); refine goesL_ (some 16) rfl rfl Tryd.func43 (by kernel_rfl) rfl #[.string a0] rfl (by (try simp only [List.map_toArray, List.map_cons, List.map_nil]); first | done | rfl | (simp only [List.length_drop, List.length_take]; rfl)) ?_; (with_reducible refine (spec_TurnsBack.calls k a0 t508 t509 _ A3.out).mono ?_); rintro e w6 ⟨v510, rfl, ho0, hb⟩; refine ⟨_, rfl, ?_⟩; have n0_ := Aside0.mk (Kd.R_lower ho0 (below_size (by repeat (first | (with_reducible first | exact HB.out | apply below_alloc | apply pw_below_drewN | apply below_drew1) | exact HB.out)))); have n1_ := Aside0.mk (below_step (by repeat (first | (with_reducible first | exact HB.out | apply below_alloc | apply pw_below_drewN | apply below_drew1) | exact HB.out)) hb); clear HB; have HO511 := n0_; have HB := n1_; clear n0_ n1_; (try clear hb); (try clear hb2); (try clear hk); (try clear hi); (try clear ho0)) | ((with_reducible refine gate_callee (f := 44) rfl ?_); refine goesL_ (some 21) rfl rfl Tryd.func44 (by kernel_rfl) rfl #[.string a0] rfl (by (try simp only [List.map_toArray, List.map_cons, List.map_nil]); first | done | rfl | (simp only [List.length_drop, List.length_take]; rfl)) ?_; (with_reducible refine (impl_TurnsBack.calls k a0 t512 t513 _ A4.out).mono ?_); rintro e w7 ⟨v514, rfl, ho0, hb⟩; refine ⟨_, rfl, ?_⟩; have n0_ := Aside0.mk (Kd.R_elder' (by (with_reducible repeat (first | apply Kd.R_alloc | apply Kd.R_drewN | apply Kd.R_drew)); exact HO511.out) (Kd.R_base ho0) hb); have n1_ := Aside0.mk (Kd.R_lower (Kd.R_new' ho0 (Kd.R_lt (by (with_reducible repeat (first | apply Kd.R_alloc | apply Kd.R_drewN | apply Kd.R_drew)); exact HO511.out))) (below_size (by repeat (first | (with_reducible first | exact HB.out | apply below_alloc | apply pw_below_drewN | apply below_drew1) | exact HB.out)))); have n2_ := Aside0.mk (below_step (by repeat (first | (with_reducible first | exact HB.out | apply below_alloc | apply pw_below_drewN | apply below_drew1) | exact HB.out)) hb); clear HO511; clear HB; have HO511 := n0_; have HO515 := n1_; have HB := n2_; clear n0_ n1_ n2_; (try clear hb); (try clear hb2); (try clear hk); (try clear hi); (try clear ho0)))
    (try simp only [Act.put, List.setIfInBounds_toArray, List.set_cons_zero, List.set_cons_succ])
    go_cut [32] (fun v32 wc => ∃ (kq : Nat) (x32_4 : Bool), v32 = .bool x32_4 ∧ Aside0 (laws_FnExactTurnsBack.j0 kq a0 t508 t509 t512 x32_4 = some r) ∧ Aside0 (kq ≤ k) ∧ Aside0 (Kd.R Kd.string 9 wc w.heap.size (fun k_ => some k_ ≠ (v514 : Value).ownBlock) v510 t508) ∧ Aside0 (Kd.R Kd.string 9 wc w.heap.size (fun k_ => some k_ ≠ (v510 : Value).ownBlock) v514 t512) ∧ Aside0 (Below w.heap.size w wc))
    case first =>
      have H := HC5.out
      clear HC5
      replace H := Option.bind_eq_some_iff.mp H
      obtain ⟨t516, A80, H⟩ := H
      replace H : (if t516 = true then (laws_FnExactTurnsBack.j0 k a0 t508 t509 t512 (t513 != t509)) else (laws_FnExactTurnsBack.j0 k a0 t508 t509 t512 true)) = some r := H
      have A8 := Aside0.mk A80
      clear A80
      by_cases c9 : t516 = true
      · subst c9
        have H1 : (laws_FnExactTurnsBack.j0 k a0 t508 t509 t512 (t513 != t509)) = some r := by rw [if_pos rfl] at H; exact H
        clear H
        have H := H1
        clear H1
        have H' := Aside0.mk H
        clear H
        obtain ⟨Ao10, co10, eo10⟩ := Kd.R_slice HO515.out
        subst eo10
        obtain ⟨Ao11, co11, eo11⟩ := Kd.R_slice HO511.out
        subst eo11
        go_wp2_with (first | ((with_reducible refine gate_callee (f := 34) rfl ?_); refine goesL_ (some 26) rfl rfl Tryd.func34 (by kernel_rfl) rfl #[.slice Ao10 t512.length co10, .slice Ao11 t508.length co11] rfl (by (try simp only [List.map_toArray, List.map_cons, List.map_nil]); first | done | rfl | (simp only [List.length_drop, List.length_take]; rfl)) ?_; (with_reducible refine (laws_eqStringS.calls k _ _ t512 _ _ t508 true _ ?side1 ?side2 ?side3 ?side4 A8.out).mono ?_); (case side1 => repeat (first | exact (Kd.R_reads' HO515.out).2.2 | (with_reducible refine Kd.C_alloc ?_ _) | (with_reducible refine Kd.C_drewN ?_ _) | (with_reducible refine Kd.C_drew ?_))); (case side2 => exact (Kd.R_reads' HO515.out).2.1); (case side3 => repeat (first | exact (Kd.R_reads' HO511.out).2.2 | (with_reducible refine Kd.C_alloc ?_ _) | (with_reducible refine Kd.C_drewN ?_ _) | (with_reducible refine Kd.C_drew ?_))); (case side4 => exact (Kd.R_reads' HO511.out).2.1); rintro e w' ⟨rfl, ⟨nd, rfl⟩⟩; refine ⟨_, rfl, ?_⟩))
        go_meet
        case rel => exact ⟨_, ((t513 != t509)), (by first | rfl | (simp; done) | (simp [*]; done)), H', ⟨by first | omega | exact Nat.le_refl _⟩, ⟨by (with_reducible repeat (first | apply Kd.R_alloc | apply Kd.R_drewN | apply Kd.R_drew)); exact Kd.R_mono HO511.out (fun _ hk => hk.2)⟩, ⟨by (with_reducible repeat (first | apply Kd.R_alloc | apply Kd.R_drewN | apply Kd.R_drew)); exact Kd.R_mono HO515.out (fun _ hk => hk.2)⟩, ⟨by repeat (first | (with_reducible first | exact HB.out | apply below_alloc | apply pw_below_drewN | apply below_drew1) | exact HB.out)⟩⟩
      · replace c9 := Bool.eq_false_iff.mpr c9
        subst c9
        have H1 : (laws_FnExactTurnsBack.j0 k a0 t508 t509 t512 true) = some r := by rw [if_neg (show ¬ (false = true) by decide)] at H; exact H
        clear H
        have H := H1
        clear H1
        have H' := Aside0.mk H
        clear H
        obtain ⟨Ao12, co12, eo12⟩ := Kd.R_slice HO515.out
        subst eo12
        obtain ⟨Ao13, co13, eo13⟩ := Kd.R_slice HO511.out
        subst eo13
        go_wp2_with (first | ((with_reducible refine gate_callee (f := 34) rfl ?_); refine goesL_ (some 26) rfl rfl Tryd.func34 (by kernel_rfl) rfl #[.slice Ao12 t512.length co12, .slice Ao13 t508.length co13] rfl (by (try simp only [List.map_toArray, List.map_cons, List.map_nil]); first | done | rfl | (simp only [List.length_drop, List.length_take]; rfl)) ?_; (with_reducible refine (laws_eqStringS.calls k _ _ t512 _ _ t508 false _ ?side1 ?side2 ?side3 ?side4 A8.out).mono ?_); (case side1 => repeat (first | exact (Kd.R_reads' HO515.out).2.2 | (with_reducible refine Kd.C_alloc ?_ _) | (with_reducible refine Kd.C_drewN ?_ _) | (with_reducible refine Kd.C_drew ?_))); (case side2 => exact (Kd.R_reads' HO515.out).2.1); (case side3 => repeat (first | exact (Kd.R_reads' HO511.out).2.2 | (with_reducible refine Kd.C_alloc ?_ _) | (with_reducible refine Kd.C_drewN ?_ _) | (with_reducible refine Kd.C_drew ?_))); (case side4 => exact (Kd.R_reads' HO511.out).2.1); rintro e w' ⟨rfl, ⟨nd, rfl⟩⟩; refine ⟨_, rfl, ?_⟩))
        go_meet
        case rel => exact ⟨_, (true), (by first | rfl | (simp; done) | (simp [*]; done)), H', ⟨by first | omega | exact Nat.le_refl _⟩, ⟨by (with_reducible repeat (first | apply Kd.R_alloc | apply Kd.R_drewN | apply Kd.R_drew)); exact Kd.R_mono HO511.out (fun _ hk => hk.2)⟩, ⟨by (with_reducible repeat (first | apply Kd.R_alloc | apply Kd.R_drewN | apply Kd.R_drew)); exact Kd.R_mono HO515.out (fun _ hk => hk.2)⟩, ⟨by repeat (first | (with_reducible first | exact HB.out | apply below_alloc | apply pw_below_drewN | apply below_drew1) | exact HB.out)⟩⟩
    case rest =>
      clear HC5
      try clear c1
      try clear c2
      try clear c2b0
      try clear c2b1
      try clear p2
      try clear c3
      try clear c4
      try clear c9
      obtain ⟨kq, x32_4, rfl, HA, HJ4, HO_3, HO_5, HB⟩ := hcut
      cases kq with
      | zero => exact absurd HA.out (by simp [laws_FnExactTurnsBack.j0])
      | succ kj4 =>
        have H := HA.out
        clear HA
        simp only [laws_FnExactTurnsBack.j0] at H
        by_cases c14 : x32_4 = true
        · subst c14
          have H1 : (some false) = some r := by rw [if_pos rfl] at H; exact H
          clear H
          have H := H1
          clear H1
          obtain rfl := Option.some.inj H
          go_wp2
          go_ret
          exact ⟨by first | rfl | (simp [errW_none, errW_some] <;> rfl) | (simp [*, errW_none, errW_some] <;> rfl), by repeat (first | (with_reducible first | exact HB.out | apply below_alloc | apply pw_below_drewN | apply below_drew1) | exact HB.out)⟩
        · replace c14 := Bool.eq_false_iff.mpr c14
          subst c14
          have H1 : ((laws_markStringS.f kj4 t512 1).bind fun bt517 => ((laws_heldStringS.f kj4 bt517.2 1).bind fun t519 => (if t519 < 0 then (some false) else (if t519 = bt517.1 then ((impl_TurnsBack.f kj4 a0).bind fun bt520 => ((laws_eqStringS.f kj4 bt520.1 t508).bind fun t524 => (if t524 = true then (laws_FnExactTurnsBack.j1 kj4 bt517.2 bt517.1 (bt520.2 != t509)) else (laws_FnExactTurnsBack.j1 kj4 bt517.2 bt517.1 true)))) else (some false))))) = some r := by rw [if_neg (show ¬ (false = true) by decide)] at H; exact H
          clear H
          have H := H1
          clear H1
          replace H := Option.bind_eq_some_iff.mp H
          obtain ⟨⟨t517, t518⟩, A150, H⟩ := H
          replace H : ((laws_heldStringS.f kj4 t518 1).bind fun t519 => (if t519 < 0 then (some false) else (if t519 = t517 then ((impl_TurnsBack.f kj4 a0).bind fun bt520 => ((laws_eqStringS.f kj4 bt520.1 t508).bind fun t524 => (if t524 = true then (laws_FnExactTurnsBack.j1 kj4 t518 t517 (bt520.2 != t509)) else (laws_FnExactTurnsBack.j1 kj4 t518 t517 true)))) else (some false)))) = some r := H
          have A15 := Aside0.mk A150
          clear A150
          replace H := Option.bind_eq_some_iff.mp H
          obtain ⟨t519, A160, H⟩ := H
          replace H : (if t519 < 0 then (some false) else (if t519 = t517 then ((impl_TurnsBack.f kj4 a0).bind fun bt520 => ((laws_eqStringS.f kj4 bt520.1 t508).bind fun t524 => (if t524 = true then (laws_FnExactTurnsBack.j1 kj4 t518 t517 (bt520.2 != t509)) else (laws_FnExactTurnsBack.j1 kj4 t518 t517 true)))) else (some false))) = some r := H
          have A16 := Aside0.mk A160
          clear A160
          by_cases c17 : t519 < 0
          · rw [if_pos c17] at H
            have c17b0 : decide (t519 < 0) = true := decide_eq_true c17
            clear c17
            obtain rfl := Option.some.inj H
            obtain ⟨Ao18, co18, eo18⟩ := Kd.R_slice HO_5.out
            subst eo18
            go_wp2_with (first | ((with_reducible refine gate_callee (f := 35) rfl ?_); refine goesL_ (some 35) rfl rfl Tryd.func35 (by kernel_rfl) rfl #[.slice Ao18 t512.length co18, .int .i64 1] rfl (by (try simp only [List.map_toArray, List.map_cons, List.map_nil]); first | done | rfl | (simp only [List.length_drop, List.length_take]; rfl)) ?_; (with_reducible refine (laws_markStringS.calls kj4 (fun k_ => some k_ = (.slice Ao18 t512.length co18 : Value).ownBlock) (.slice Ao18 t512.length co18) t512 1 t517 t518 w _ ?side1 ?side2 A15.out).mono ?_); (case side1 => repeat (first | (with_reducible first | exact HB.out | apply below_alloc | apply pw_below_drewN | apply below_drew1) | exact HB.out)); (case side2 => exact Kd.R_tight rfl HO_5.out); rintro e w19 ⟨rfl, hy0, hb, hkp⟩; refine ⟨_, rfl, ?_⟩; have n0_ := Aside0.mk (Kd.R_mono (ok' := fun k_ => some k_ ≠ (.slice Ao18 t512.length co18 : Value).ownBlock) (Kd.R_keptB (HO_3.out) hkp (fun k_ hk_ hs_ => (hk_) hs_)) (fun k_ hk_ => hk_.1)); have n1_ := Aside0.mk (Kd.R_reok rfl hy0 (fun k_ e_ => HO_5.out.1 k_ e_)); have n2_ := Aside0.mk (hb); clear HO_3; clear HO_5; clear HB; have HO_3 := n0_; have HO_5 := n1_; have HB := n2_; clear n0_ n1_ n2_; (try clear hb); (try clear hkp); (try clear hy0)) | ((with_reducible refine gate_callee (f := 36) rfl ?_); refine goesL_ (some 38) rfl rfl Tryd.func36 (by kernel_rfl) rfl #[.slice Ao18 t518.length co18, .int .i64 1] rfl (by (try simp only [List.map_toArray, List.map_cons, List.map_nil]); first | done | (rw [show t518.length = t512.length from (Kd.R_reads' HO_5.out).1.symm] <;> rfl) | rfl | (simp only [List.length_drop, List.length_take]; rfl)) ?_; (with_reducible refine (laws_heldStringS.calls kj4 _ _ t518 1 t519 _ ?side1 ?side2 A16.out).mono ?_); (case side1 => repeat (first | exact (Kd.R_reads' HO_5.out).2.2 | (with_reducible refine Kd.C_alloc ?_ _) | (with_reducible refine Kd.C_drewN ?_ _) | (with_reducible refine Kd.C_drew ?_))); (case side2 => rw [show t518.length = t512.length from (Kd.R_reads' HO_5.out).1.symm]; exact (Kd.R_reads' HO_5.out).2.1); rintro e w20 ⟨rfl, hb⟩; refine ⟨_, rfl, ?_⟩; have n0_ := Aside0.mk (Kd.R_below (by (with_reducible repeat (first | apply Kd.R_alloc | apply Kd.R_drewN | apply Kd.R_drew)); exact HO_3.out) hb); have n1_ := Aside0.mk (Kd.R_below (by (with_reducible repeat (first | apply Kd.R_alloc | apply Kd.R_drewN | apply Kd.R_drew)); exact HO_5.out) hb); have n2_ := Aside0.mk (below_step (by repeat (first | (with_reducible first | exact HB.out | apply below_alloc | apply pw_below_drewN | apply below_drew1) | exact HB.out)) hb); clear HO_3; clear HO_5; clear HB; have HO_3 := n0_; have HO_5 := n1_; have HB := n2_; clear n0_ n1_ n2_; (try clear hb); (try clear hb2); (try clear hk); (try clear hi)))
            go_ret
            exact ⟨by first | rfl | (simp [errW_none, errW_some] <;> rfl) | (simp [*, errW_none, errW_some] <;> rfl), by repeat (first | (with_reducible first | exact HB.out | apply below_alloc | apply pw_below_drewN | apply below_drew1) | exact HB.out)⟩
          · rw [if_neg c17] at H
            have c17b0 : decide (t519 < 0) = false := decide_eq_false c17
            clear c17
            by_cases c21 : t519 = t517
            · rw [if_pos c21] at H
              have c21b0 : (t519 == t517) = true := beq_iff_eq.mpr c21
              have c21b1 : (t519 != t517) = false := bne_eq_false_iff_eq.mpr c21
              clear c21
              replace H := Option.bind_eq_some_iff.mp H
              obtain ⟨⟨t520, t521⟩, A220, H⟩ := H
              replace H : ((laws_eqStringS.f kj4 t520 t508).bind fun t524 => (if t524 = true then (laws_FnExactTurnsBack.j1 kj4 t518 t517 (t521 != t509)) else (laws_FnExactTurnsBack.j1 kj4 t518 t517 true))) = some r := H
              have A22 := Aside0.mk A220
              clear A220
              have HC23 := Aside0.mk H
              clear H
              obtain ⟨Ao24, co24, eo24⟩ := Kd.R_slice HO_5.out
              subst eo24
              go_upto_region 16 with (first | ((with_reducible refine gate_callee (f := 35) rfl ?_); refine goesL_ (some 35) rfl rfl Tryd.func35 (by kernel_rfl) rfl #[.slice Ao24 t512.length co24, .int .i64 1] rfl (by (try simp only [List.map_toArray, List.map_cons, List.map_nil]); first | done | rfl | (simp only [List.length_drop, List.length_take]; rfl)) ?_; (with_reducible refine (laws_markStringS.calls kj4 (fun k_ => some k_ = (.slice Ao24 t512.length co24 : Value).ownBlock) (.slice Ao24 t512.length co24) t512 1 t517 t518 w _ ?side1 ?side2 A15.out).mono ?_); (case side1 => repeat (first | (with_reducible first | exact HB.out | apply below_alloc | apply pw_below_drewN | apply below_drew1) | exact HB.out)); (case side2 => exact Kd.R_tight rfl HO_5.out); rintro e w25 ⟨rfl, hy0, hb, hkp⟩; refine ⟨_, rfl, ?_⟩; have n0_ := Aside0.mk (Kd.R_mono (ok' := fun k_ => some k_ ≠ (.slice Ao24 t512.length co24 : Value).ownBlock) (Kd.R_keptB (HO_3.out) hkp (fun k_ hk_ hs_ => (hk_) hs_)) (fun k_ hk_ => hk_.1)); have n1_ := Aside0.mk (Kd.R_reok rfl hy0 (fun k_ e_ => HO_5.out.1 k_ e_)); have n2_ := Aside0.mk (hb); clear HO_3; clear HO_5; clear HB; have HO_3 := n0_; have HO_5 := n1_; have HB := n2_; clear n0_ n1_ n2_; (try clear hb); (try clear hkp); (try clear hy0)) | ((with_reducible refine gate_callee (f := 36) rfl ?_); refine goesL_ (some 38) rfl rfl Tryd.func36 (by kernel_rfl) rfl #[.slice Ao24 t518.length co24, .int .i64 1] rfl (by (try simp only [List.map_toArray, List.map_cons, List.map_nil]); first | done | (rw [show t518.length = t512.length from (Kd.R_reads' HO_5.out).1.symm] <;> rfl) | rfl | (simp only [List.length_drop, List.length_take]; rfl)) ?_; (with_reducible refine (laws_heldStringS.calls kj4 _ _ t518 1 t519 _ ?side1 ?side2 A16.out).mono ?_); (case side1 => repeat (first | exact (Kd.R_reads' HO_5.out).2.2 | (with_reducible refine Kd.C_alloc ?_ _) | (with_reducible refine Kd.C_drewN ?_ _) | (with_reducible refine Kd.C_drew ?_))); (case side2 => rw [show t518.length = t512.length from (Kd.R_reads' HO_5.out).1.symm]; exact (Kd.R_reads' HO_5.out).2.1); rintro e w26 ⟨rfl, hb⟩; refine ⟨_, rfl, ?_⟩; have n0_ := Aside0.mk (Kd.R_below (by (with_reducible repeat (first | apply Kd.R_alloc | apply Kd.R_drewN | apply Kd.R_drew)); exact HO_3.out) hb); have n1_ := Aside0.mk (Kd.R_below (by (with_reducible repeat (first | apply Kd.R_alloc | apply Kd.R_drewN | apply Kd.R_drew)); exact HO_5.out) hb); have n2_ := Aside0.mk (below_step (by repeat (first | (with_reducible first | exact HB.out | apply below_alloc | apply pw_below_drewN | apply below_drew1) | exact HB.out)) hb); clear HO_3; clear HO_5; clear HB; have HO_3 := n0_; have HO_5 := n1_; have HB := n2_; clear n0_ n1_ n2_; (try clear hb); (try clear hb2); (try clear hk); (try clear hi)) | ((with_reducible refine gate_callee (f := 44) rfl ?_); refine goesL_ (some 46) rfl rfl Tryd.func44 (by kernel_rfl) rfl #[.string a0] rfl (by (try simp only [List.map_toArray, List.map_cons, List.map_nil]); first | done | rfl | (simp only [List.length_drop, List.length_take]; rfl)) ?_; (with_reducible refine (impl_TurnsBack.calls kj4 a0 t520 t521 _ A22.out).mono ?_); rintro e w27 ⟨v522, rfl, ho0, hb⟩; refine ⟨_, rfl, ?_⟩; have n0_ := Aside0.mk (Kd.R_elder' (by (with_reducible repeat (first | apply Kd.R_alloc | apply Kd.R_drewN | apply Kd.R_drew)); exact HO_3.out) (Kd.R_base ho0) hb); have n1_ := Aside0.mk (Kd.R_elder' (by (with_reducible repeat (first | apply Kd.R_alloc | apply Kd.R_drewN | apply Kd.R_drew)); exact HO_5.out) (Kd.R_base ho0) hb); have n2_ := Aside0.mk (Kd.R_lower (Kd.R_new' (Kd.R_new' ho0 (Kd.R_lt (by (with_reducible repeat (first | apply Kd.R_alloc | apply Kd.R_drewN | apply Kd.R_drew)); exact HO_3.out))) (Kd.R_lt (by (with_reducible repeat (first | apply Kd.R_alloc | apply Kd.R_drewN | apply Kd.R_drew)); exact HO_5.out))) (below_size (by repeat (first | (with_reducible first | exact HB.out | apply below_alloc | apply pw_below_drewN | apply below_drew1) | exact HB.out)))); have n3_ := Aside0.mk (below_step (by repeat (first | (with_reducible first | exact HB.out | apply below_alloc | apply pw_below_drewN | apply below_drew1) | exact HB.out)) hb); clear HO_3; clear HO_5; clear HB; have HO_3 := n0_; have HO_5 := n1_; have HO523 := n2_; have HB := n3_; clear n0_ n1_ n2_ n3_; (try clear hb); (try clear hb2); (try clear hk); (try clear hi); (try clear ho0)))
              (try simp only [Act.put, List.setIfInBounds_toArray, List.set_cons_zero, List.set_cons_succ])
              go_cut [57] (fun v57 wc => ∃ (kq : Nat) (x57_22 : Bool), v57 = .bool x57_22 ∧ Aside0 (laws_FnExactTurnsBack.j1 kq t518 t517 x57_22 = some r) ∧ Aside0 (kq ≤ kj4) ∧ Aside0 (Kd.R Kd.string 9 wc w.heap.size (fun _ => True) (.slice Ao24 t512.length co24) t518) ∧ Aside0 (Below w.heap.size w wc))
              case first =>
                have H := HC23.out
                clear HC23
                replace H := Option.bind_eq_some_iff.mp H
                obtain ⟨t524, A280, H⟩ := H
                replace H : (if t524 = true then (laws_FnExactTurnsBack.j1 kj4 t518 t517 (t521 != t509)) else (laws_FnExactTurnsBack.j1 kj4 t518 t517 true)) = some r := H
                have A28 := Aside0.mk A280
                clear A280
                by_cases c29 : t524 = true
                · subst c29
                  have H1 : (laws_FnExactTurnsBack.j1 kj4 t518 t517 (t521 != t509)) = some r := by rw [if_pos rfl] at H; exact H
                  clear H
                  have H := H1
                  clear H1
                  have H' := Aside0.mk H
                  clear H
                  obtain ⟨Ao30, co30, eo30⟩ := Kd.R_slice HO523.out
                  subst eo30
                  obtain ⟨Ao31, co31, eo31⟩ := Kd.R_slice HO_3.out
                  subst eo31
                  go_wp2_with (first | ((with_reducible refine gate_callee (f := 34) rfl ?_); refine goesL_ (some 51) rfl rfl Tryd.func34 (by kernel_rfl) rfl #[.slice Ao30 t520.length co30, .slice Ao31 t508.length co31] rfl (by (try simp only [List.map_toArray, List.map_cons, List.map_nil]); first | done | rfl | (simp only [List.length_drop, List.length_take]; rfl)) ?_; (with_reducible refine (laws_eqStringS.calls kj4 _ _ t520 _ _ t508 true _ ?side1 ?side2 ?side3 ?side4 A28.out).mono ?_); (case side1 => repeat (first | exact (Kd.R_reads' HO523.out).2.2 | (with_reducible refine Kd.C_alloc ?_ _) | (with_reducible refine Kd.C_drewN ?_ _) | (with_reducible refine Kd.C_drew ?_))); (case side2 => exact (Kd.R_reads' HO523.out).2.1); (case side3 => repeat (first | exact (Kd.R_reads' HO_3.out).2.2 | (with_reducible refine Kd.C_alloc ?_ _) | (with_reducible refine Kd.C_drewN ?_ _) | (with_reducible refine Kd.C_drew ?_))); (case side4 => exact (Kd.R_reads' HO_3.out).2.1); rintro e w' ⟨rfl, ⟨nd, rfl⟩⟩; refine ⟨_, rfl, ?_⟩))
                  go_meet
                  case rel => exact ⟨_, ((t521 != t509)), (by first | rfl | (simp; done) | (simp [*]; done)), H', ⟨by have := HJ4.out; first | omega | exact Nat.le_refl _⟩, ⟨by (with_reducible repeat (first | apply Kd.R_alloc | apply Kd.R_drewN | apply Kd.R_drew)); exact Kd.R_mono HO_5.out (fun _ hk => trivial)⟩, ⟨by repeat (first | (with_reducible first | exact HB.out | apply below_alloc | apply pw_below_drewN | apply below_drew1) | exact HB.out)⟩⟩
                · replace c29 := Bool.eq_false_iff.mpr c29
                  subst c29
                  have H1 : (laws_FnExactTurnsBack.j1 kj4 t518 t517 true) = some r := by rw [if_neg (show ¬ (false = true) by decide)] at H; exact H
                  clear H
                  have H := H1
                  clear H1
                  have H' := Aside0.mk H
                  clear H
                  obtain ⟨Ao32, co32, eo32⟩ := Kd.R_slice HO523.out
                  subst eo32
                  obtain ⟨Ao33, co33, eo33⟩ := Kd.R_slice HO_3.out
                  subst eo33
                  go_wp2_with (first | ((with_reducible refine gate_callee (f := 34) rfl ?_); refine goesL_ (some 51) rfl rfl Tryd.func34 (by kernel_rfl) rfl #[.slice Ao32 t520.length co32, .slice Ao33 t508.length co33] rfl (by (try simp only [List.map_toArray, List.map_cons, List.map_nil]); first | done | rfl | (simp only [List.length_drop, List.length_take]; rfl)) ?_; (with_reducible refine (laws_eqStringS.calls kj4 _ _ t520 _ _ t508 false _ ?side1 ?side2 ?side3 ?side4 A28.out).mono ?_); (case side1 => repeat (first | exact (Kd.R_reads' HO523.out).2.2 | (with_reducible refine Kd.C_alloc ?_ _) | (with_reducible refine Kd.C_drewN ?_ _) | (with_reducible refine Kd.C_drew ?_))); (case side2 => exact (Kd.R_reads' HO523.out).2.1); (case side3 => repeat (first | exact (Kd.R_reads' HO_3.out).2.2 | (with_reducible refine Kd.C_alloc ?_ _) | (with_reducible refine Kd.C_drewN ?_ _) | (with_reducible refine Kd.C_drew ?_))); (case side4 => exact (Kd.R_reads' HO_3.out).2.1); rintro e w' ⟨rfl, ⟨nd, rfl⟩⟩; refine ⟨_, rfl, ?_⟩))
                  go_meet
                  case rel => exact ⟨_, (true), (by first | rfl | (simp; done) | (simp [*]; done)), H', ⟨by have := HJ4.out; first | omega | exact Nat.le_refl _⟩, ⟨by (with_reducible repeat (first | apply Kd.R_alloc | apply Kd.R_drewN | apply Kd.R_drew)); exact Kd.R_mono HO_5.out (fun _ hk => trivial)⟩, ⟨by repeat (first | (with_reducible first | exact HB.out | apply below_alloc | apply pw_below_drewN | apply below_drew1) | exact HB.out)⟩⟩
              case rest =>
                clear HC23
                try clear c1
                try clear c2
                try clear c2b0
                try clear c2b1
                try clear p2
                try clear c3
                try clear c4
                try clear c9
                try clear c14
                try clear c17
                try clear c17b0
                try clear c21
                try clear c21b0
                try clear c21b1
                try clear c29
                try clear p2
                obtain ⟨kq, x57_22, rfl, HA, HJ22, HO_5, HB⟩ := hcut
                have hl5_22 := (Kd.R_reads' HO_5.out).1
                rw [hl5_22] at HO_5
                (try simp only [hl5_22])
                cases kq with
                | zero => exact absurd HA.out (by simp [laws_FnExactTurnsBack.j1])
                | succ kj22 =>
                  have H := HA.out
                  clear HA
                  simp only [laws_FnExactTurnsBack.j1] at H
                  by_cases c34 : x57_22 = true
                  · subst c34
                    have H1 : (some false) = some r := by rw [if_pos rfl] at H; exact H
                    clear H
                    have H := H1
                    clear H1
                    obtain rfl := Option.some.inj H
                    go_wp2
                    go_ret
                    exact ⟨by first | rfl | (simp [errW_none, errW_some] <;> rfl) | (simp [*, errW_none, errW_some] <;> rfl), by repeat (first | (with_reducible first | exact HB.out | apply below_alloc | apply pw_below_drewN | apply below_drew1) | exact HB.out)⟩
                  · replace c34 := Bool.eq_false_iff.mpr c34
                    subst c34
                    have H1 : ((laws_heldStringS.f kj22 t518 1).bind fun t525 => (if t525 < 0 then (some false) else (if t525 = t517 then (some true) else (some false)))) = some r := by rw [if_neg (show ¬ (false = true) by decide)] at H; exact H
                    clear H
                    have H := H1
                    clear H1
                    replace H := Option.bind_eq_some_iff.mp H
                    obtain ⟨t525, A350, H⟩ := H
                    replace H : (if t525 < 0 then (some false) else (if t525 = t517 then (some true) else (some false))) = some r := H
                    have A35 := Aside0.mk A350
                    clear A350
                    by_cases c36 : t525 < 0
                    · rw [if_pos c36] at H
                      have c36b0 : decide (t525 < 0) = true := decide_eq_true c36
                      clear c36
                      obtain rfl := Option.some.inj H
                      go_wp2_with (first | ((with_reducible refine gate_callee (f := 36) rfl ?_); refine goesL_ (some 60) rfl rfl Tryd.func36 (by kernel_rfl) rfl #[.slice Ao24 t518.length co24, .int .i64 1] rfl (by (try simp only [List.map_toArray, List.map_cons, List.map_nil]); first | done | rfl | (simp only [List.length_drop, List.length_take]; rfl)) ?_; (with_reducible refine (laws_heldStringS.calls kj22 _ _ t518 1 t525 _ ?side1 ?side2 A35.out).mono ?_); (case side1 => repeat (first | exact (Kd.R_reads' HO_5.out).2.2 | (with_reducible refine Kd.C_alloc ?_ _) | (with_reducible refine Kd.C_drewN ?_ _) | (with_reducible refine Kd.C_drew ?_))); (case side2 => exact (Kd.R_reads' HO_5.out).2.1); rintro e w37 ⟨rfl, hb⟩; refine ⟨_, rfl, ?_⟩; have n0_ := Aside0.mk (Kd.R_below (by (with_reducible repeat (first | apply Kd.R_alloc | apply Kd.R_drewN | apply Kd.R_drew)); exact HO_5.out) hb); have n1_ := Aside0.mk (below_step (by repeat (first | (with_reducible first | exact HB.out | apply below_alloc | apply pw_below_drewN | apply below_drew1) | exact HB.out)) hb); clear HO_5; clear HB; have HO_5 := n0_; have HB := n1_; clear n0_ n1_; (try clear hb); (try clear hb2); (try clear hk); (try clear hi)))
                      go_ret
                      exact ⟨by first | rfl | (simp [errW_none, errW_some] <;> rfl) | (simp [*, errW_none, errW_some] <;> rfl), by repeat (first | (with_reducible first | exact HB.out | apply below_alloc | apply pw_below_drewN | apply below_drew1) | exact HB.out)⟩
                    · rw [if_neg c36] at H
                      have c36b0 : decide (t525 < 0) = false := decide_eq_false c36
                      clear c36
                      by_cases c38 : t525 = t517
                      · rw [if_pos c38] at H
                        have c38b0 : (t525 == t517) = true := beq_iff_eq.mpr c38
                        have c38b1 : (t525 != t517) = false := bne_eq_false_iff_eq.mpr c38
                        clear c38
                        obtain rfl := Option.some.inj H
                        go_wp2_with (first | ((with_reducible refine gate_callee (f := 36) rfl ?_); refine goesL_ (some 60) rfl rfl Tryd.func36 (by kernel_rfl) rfl #[.slice Ao24 t518.length co24, .int .i64 1] rfl (by (try simp only [List.map_toArray, List.map_cons, List.map_nil]); first | done | rfl | (simp only [List.length_drop, List.length_take]; rfl)) ?_; (with_reducible refine (laws_heldStringS.calls kj22 _ _ t518 1 t525 _ ?side1 ?side2 A35.out).mono ?_); (case side1 => repeat (first | exact (Kd.R_reads' HO_5.out).2.2 | (with_reducible refine Kd.C_alloc ?_ _) | (with_reducible refine Kd.C_drewN ?_ _) | (with_reducible refine Kd.C_drew ?_))); (case side2 => exact (Kd.R_reads' HO_5.out).2.1); rintro e w39 ⟨rfl, hb⟩; refine ⟨_, rfl, ?_⟩; have n0_ := Aside0.mk (Kd.R_below (by (with_reducible repeat (first | apply Kd.R_alloc | apply Kd.R_drewN | apply Kd.R_drew)); exact HO_5.out) hb); have n1_ := Aside0.mk (below_step (by repeat (first | (with_reducible first | exact HB.out | apply below_alloc | apply pw_below_drewN | apply below_drew1) | exact HB.out)) hb); clear HO_5; clear HB; have HO_5 := n0_; have HB := n1_; clear n0_ n1_; (try clear hb); (try clear hb2); (try clear hk); (try clear hi)))
                        go_ret
                        exact ⟨by first | rfl | (simp [errW_none, errW_some] <;> rfl) | (simp [*, errW_none, errW_some] <;> rfl), by repeat (first | (with_reducible first | exact HB.out | apply below_alloc | apply pw_below_drewN | apply below_drew1) | exact HB.out)⟩
                      · rw [if_neg c38] at H
                        have c38b0 : (t525 == t517) = false := beq_eq_false_iff_ne.mpr c38
                        have c38b1 : (t525 != t517) = true := bne_iff_ne.mpr c38
                        obtain rfl := Option.some.inj H
                        go_wp2_with (first | ((with_reducible refine gate_callee (f := 36) rfl ?_); refine goesL_ (some 60) rfl rfl Tryd.func36 (by kernel_rfl) rfl #[.slice Ao24 t518.length co24, .int .i64 1] rfl (by (try simp only [List.map_toArray, List.map_cons, List.map_nil]); first | done | rfl | (simp only [List.length_drop, List.length_take]; rfl)) ?_; (with_reducible refine (laws_heldStringS.calls kj22 _ _ t518 1 t525 _ ?side1 ?side2 A35.out).mono ?_); (case side1 => repeat (first | exact (Kd.R_reads' HO_5.out).2.2 | (with_reducible refine Kd.C_alloc ?_ _) | (with_reducible refine Kd.C_drewN ?_ _) | (with_reducible refine Kd.C_drew ?_))); (case side2 => exact (Kd.R_reads' HO_5.out).2.1); rintro e w40 ⟨rfl, hb⟩; refine ⟨_, rfl, ?_⟩; have n0_ := Aside0.mk (Kd.R_below (by (with_reducible repeat (first | apply Kd.R_alloc | apply Kd.R_drewN | apply Kd.R_drew)); exact HO_5.out) hb); have n1_ := Aside0.mk (below_step (by repeat (first | (with_reducible first | exact HB.out | apply below_alloc | apply pw_below_drewN | apply below_drew1) | exact HB.out)) hb); clear HO_5; clear HB; have HO_5 := n0_; have HB := n1_; clear n0_ n1_; (try clear hb); (try clear hb2); (try clear hk); (try clear hi)))
                        go_ret
                        exact ⟨by first | rfl | (simp [errW_none, errW_some] <;> rfl) | (simp [*, errW_none, errW_some] <;> rfl), by repeat (first | (with_reducible first | exact HB.out | apply below_alloc | apply pw_below_drewN | apply below_drew1) | exact HB.out)⟩
            · rw [if_neg c21] at H
              have c21b0 : (t519 == t517) = false := beq_eq_false_iff_ne.mpr c21
              have c21b1 : (t519 != t517) = true := bne_iff_ne.mpr c21
              obtain rfl := Option.some.inj H
              obtain ⟨Ao41, co41, eo41⟩ := Kd.R_slice HO_5.out
              subst eo41
              go_wp2_with (first | ((with_reducible refine gate_callee (f := 35) rfl ?_); refine goesL_ (some 35) rfl rfl Tryd.func35 (by kernel_rfl) rfl #[.slice Ao41 t512.length co41, .int .i64 1] rfl (by (try simp only [List.map_toArray, List.map_cons, List.map_nil]); first | done | rfl | (simp only [List.length_drop, List.length_take]; rfl)) ?_; (with_reducible refine (laws_markStringS.calls kj4 (fun k_ => some k_ = (.slice Ao41 t512.length co41 : Value).ownBlock) (.slice Ao41 t512.length co41) t512 1 t517 t518 w _ ?side1 ?side2 A15.out).mono ?_); (case side1 => repeat (first | (with_reducible first | exact HB.out | apply below_alloc | apply pw_below_drewN | apply below_drew1) | exact HB.out)); (case side2 => exact Kd.R_tight rfl HO_5.out); rintro e w42 ⟨rfl, hy0, hb, hkp⟩; refine ⟨_, rfl, ?_⟩; have n0_ := Aside0.mk (Kd.R_mono (ok' := fun k_ => some k_ ≠ (.slice Ao41 t512.length co41 : Value).ownBlock) (Kd.R_keptB (HO_3.out) hkp (fun k_ hk_ hs_ => (hk_) hs_)) (fun k_ hk_ => hk_.1)); have n1_ := Aside0.mk (Kd.R_reok rfl hy0 (fun k_ e_ => HO_5.out.1 k_ e_)); have n2_ := Aside0.mk (hb); clear HO_3; clear HO_5; clear HB; have HO_3 := n0_; have HO_5 := n1_; have HB := n2_; clear n0_ n1_ n2_; (try clear hb); (try clear hkp); (try clear hy0)) | ((with_reducible refine gate_callee (f := 36) rfl ?_); refine goesL_ (some 38) rfl rfl Tryd.func36 (by kernel_rfl) rfl #[.slice Ao41 t518.length co41, .int .i64 1] rfl (by (try simp only [List.map_toArray, List.map_cons, List.map_nil]); first | done | (rw [show t518.length = t512.length from (Kd.R_reads' HO_5.out).1.symm] <;> rfl) | rfl | (simp only [List.length_drop, List.length_take]; rfl)) ?_; (with_reducible refine (laws_heldStringS.calls kj4 _ _ t518 1 t519 _ ?side1 ?side2 A16.out).mono ?_); (case side1 => repeat (first | exact (Kd.R_reads' HO_5.out).2.2 | (with_reducible refine Kd.C_alloc ?_ _) | (with_reducible refine Kd.C_drewN ?_ _) | (with_reducible refine Kd.C_drew ?_))); (case side2 => rw [show t518.length = t512.length from (Kd.R_reads' HO_5.out).1.symm]; exact (Kd.R_reads' HO_5.out).2.1); rintro e w43 ⟨rfl, hb⟩; refine ⟨_, rfl, ?_⟩; have n0_ := Aside0.mk (Kd.R_below (by (with_reducible repeat (first | apply Kd.R_alloc | apply Kd.R_drewN | apply Kd.R_drew)); exact HO_3.out) hb); have n1_ := Aside0.mk (Kd.R_below (by (with_reducible repeat (first | apply Kd.R_alloc | apply Kd.R_drewN | apply Kd.R_drew)); exact HO_5.out) hb); have n2_ := Aside0.mk (below_step (by repeat (first | (with_reducible first | exact HB.out | apply below_alloc | apply pw_below_drewN | apply below_drew1) | exact HB.out)) hb); clear HO_3; clear HO_5; clear HB; have HO_3 := n0_; have HO_5 := n1_; have HB := n2_; clear n0_ n1_ n2_; (try clear hb); (try clear hb2); (try clear hk); (try clear hi)))
              go_ret
              exact ⟨by first | rfl | (simp [errW_none, errW_some] <;> rfl) | (simp [*, errW_none, errW_some] <;> rfl), by repeat (first | (with_reducible first | exact HB.out | apply below_alloc | apply pw_below_drewN | apply below_drew1) | exact HB.out)⟩

/-- THE ONE PURE STATEMENT of laws_FnExactTurnsBack: yours. -/
def laws_FnExactTurnsBack.Pure : Prop := ∀ (a0 : ByteArray), a0.size ≤ 140737488351232 → ∃ k, laws_FnExactTurnsBack.f k a0 = some true
theorem laws_FnExactTurnsBack.walk (P : laws_FnExactTurnsBack.Pure) (a0 : ByteArray) (w : World) (w0 : a0.size ≤ 140737488351232) :
    Calls Tryd.prog 14 #[.string a0] w fun e w' => e = .returned (.bool true) ∧ Below w.heap.size w w' := by
  obtain ⟨k, h⟩ := P a0 w0
  refine (laws_FnExactTurnsBack.calls k a0 true w h).mono ?_
  rintro e w' ⟨rfl, hd⟩
  exact ⟨rfl, hd⟩

end Go.Proofs.YtjoflkeiaoellaaDoor.P

namespace Go.Proofs.YtjoflkeiaoellaaDoor.M
open Go.Lib
theorem keeps_iff (d : Array Txt) (j : Nat) : keeps d j = true ↔ (j = 0 ∨ d[j]! ≠ d[j - 1]!) := by simp [keeps]
theorem mem_compact (zs : List Txt) (y : Txt) : y ∈ compact zs ↔ y ∈ zs := by
  unfold compact compactUpTo
  simp only [List.mem_map, List.mem_filter, List.mem_range]
  constructor
  · rintro ⟨j, ⟨hj, _⟩, rfl⟩
    rw [getElem!_pos zs.toArray j (by simpa using hj)]
    simp
  · intro hy
    have hex : ∃ n, ∃ h : n < zs.length, zs[n] = y := by
      obtain ⟨n, h, e⟩ := List.mem_iff_getElem.1 hy
      exact ⟨n, h, e⟩
    have key : ∀ n, (∃ h : n < zs.length, zs[n] = y) → ∃ m, m < zs.length ∧ keeps zs.toArray m = true ∧ zs.toArray[m]! = y := by
      intro n
      induction n with
      | zero => rintro ⟨h, e⟩; exact ⟨0, h, (keeps_iff _ _).2 (.inl rfl), by rw [getElem!_pos zs.toArray 0 (by simpa using h)]; simpa using e⟩
      | succ n ih =>
        rintro ⟨h, e⟩
        have e1 : zs.toArray[n + 1]! = y := by rw [getElem!_pos zs.toArray (n + 1) (by simpa using h)]; simpa using e
        by_cases hk : keeps zs.toArray (n + 1) = true
        · exact ⟨n + 1, h, hk, e1⟩
        · have : zs.toArray[n + 1]! = zs.toArray[n]! := by
            by_cases h9 : zs.toArray[n + 1]! = zs.toArray[n]!
            · exact h9
            · exact absurd ((keeps_iff _ _).2 (.inr h9)) hk
          refine ih ⟨by omega, ?_⟩
          have h2 : zs.toArray[n]! = zs[n] := by rw [getElem!_pos zs.toArray n (by simp; omega)]; simp
          rw [← h2, ← this, e1]
    obtain ⟨n, h⟩ := hex
    obtain ⟨m, h1, h2, h3⟩ := key n h
    exact ⟨m, ⟨h1, h2⟩, h3⟩
theorem pair_get {zs : List Txt} (h : zs.Pairwise (fun a b => decide (a ≤ b) = true)) {i j : Nat} (hij : i < j) (hj : j < zs.length) : zs.toArray[i]! ≤ zs.toArray[j]! := by
  have := List.pairwise_iff_getElem.1 h i j (by omega) hj hij
  rw [getElem!_pos zs.toArray i (by simp; omega), getElem!_pos zs.toArray j (by simpa using hj)]
  simpa using this
theorem asc_compact {zs : List Txt} (h : zs.Pairwise (fun a b => decide (a ≤ b) = true)) : Asc (compact zs) := by
  unfold Asc compact compactUpTo
  rw [List.pairwise_map]
  have h1 : ((List.range zs.length).filter (keeps zs.toArray)).Pairwise (· < ·) := List.Pairwise.filter _ List.pairwise_lt_range
  refine List.Pairwise.imp_of_mem ?_ h1
  intro a b ha hb hab
  rw [List.mem_filter, List.mem_range] at ha hb
  have hk := (keeps_iff _ _).1 hb.2
  have hne : zs.toArray[b]! ≠ zs.toArray[b - 1]! := by
    rcases hk with h0 | h0
    · omega
    · exact h0
  have h2 : zs.toArray[b - 1]! ≤ zs.toArray[b]! := pair_get h (by omega) hb.1
  have h3 : zs.toArray[a]! ≤ zs.toArray[b - 1]! := by
    by_cases e : a = b - 1
    · subst e; exact List.le_refl _
    · exact pair_get h (by omega) (by omega)
  have h4 : zs.toArray[b - 1]! < zs.toArray[b]! := by
    by_cases hlt : zs.toArray[b - 1]! < zs.toArray[b]!
    · exact hlt
    · exact absurd (List.le_antisymm (List.not_lt.1 hlt) h2) hne
  exact List.lt_of_le_of_lt h3 h4
theorem sorted_compact (l : List Txt) : compact (l.mergeSort fun x y => decide (x ≤ y)) = setL l := by
  have hp : (l.mergeSort fun x y => decide (x ≤ y)).Pairwise (fun a b => decide (a ≤ b) = true) := by
    refine List.pairwise_mergeSort ?_ ?_ l
    · intro a b c h1 h2
      simp only [decide_eq_true_eq] at h1 h2 ⊢
      exact List.le_trans h1 h2
    · intro a b
      simp only [Bool.or_eq_true, decide_eq_true_eq]
      exact List.le_total a b
  refine asc_ext _ _ (asc_compact hp) (asc_setL l) fun y => ?_
  rw [mem_compact, List.mem_mergeSort, mem_setL]

end Go.Proofs.YtjoflkeiaoellaaDoor.M

namespace Go.Proofs.YtjoflkeiaoellaaDoor.M
open Go.RowKit Go.Proofs.YtjoflkeiaoellaaDoorW.PrintWords
theorem rdB (l : List Txt) (n : Nat) (h : n < l.length) : rdOf ByteArray.empty (l.map B) (n : Int) = B (l.getD n []) := by
  simp [rdOf, List.getD_eq_getElem?_getD, h]
theorem exBs (l : List ByteArray) : ∃ m : List Txt, l = m.map B := ⟨l.map fun x => x.data.toList, by rw [List.map_map]; exact ((List.map_congr_left (fun x _ => B_data x)).trans (List.map_id _)).symm⟩
theorem map_B_inj {l m : List Txt} (h : l.map B = m.map B) : l = m := (List.map_inj_right (fun _ _ h => B_inj h)).1 h

end Go.Proofs.YtjoflkeiaoellaaDoor.M

namespace Go.Proofs.YtjoflkeiaoellaaDoor.L
open Go.RowKit Go.Proofs.YtjoflkeiaoellaaDoor.P Go.Proofs.YtjoflkeiaoellaaDoor.M Go.Proofs.YtjoflkeiaoellaaDoorW.PrintWords Go.Proofs.YtjoflkeiaoellaaDoorW.PrintLast Go.Proofs.YtjoflkeiaoellaaDoorW.PrintMore
set_option linter.unusedVariables false
def text8 (l : List UInt8) : Bool := l.all letterB && decide (l.length ≤ 16)
theorem l8Text_loop (l : List UInt8) (hl : l.length ≤ 4611686018427387903) : ∀ (d n : Nat), n + d = l.length → Ev (fun k => spec_l8Text.l0 k (B l) (n : Int)) ((l.drop n).all letterB && decide (l.length ≤ 16)) := by
  have last : ∀ n : Nat, Ev (fun k => spec_l8Text.j1 k (B l) (n : Int) false) (decide (l.length ≤ 16)) := by
    intro n
    refine Ev.step (fun k => spec_l8Text.j1.eq_2 ..) (Ev.ifF (by simp) ?_)
    have : decide (((B l).size : Int) ≤ 16) = decide (l.length ≤ 16) := by simp; omega
    rw [this]; exact Ev.now _
  intro d
  induction d with
  | zero =>
    intro n hn
    refine Ev.step (fun k => spec_l8Text.l0.eq_2 ..) (Ev.ifF (by simp; omega) ?_)
    rw [List.drop_of_length_le (by omega)]; simpa using last n
  | succ d ih =>
    intro n hn
    have h1 : n < l.length := by omega
    refine Ev.step (fun k => spec_l8Text.l0.eq_2 ..) (Ev.ifT (by simp; omega) ?_)
    rw [drop_cons_getD 0 h1]
    by_cases h16 : n ≤ 16
    · rw [show decide ((n : Int) ≤ 16) = true from by simp; omega]
      refine Ev.step (fun k => spec_l8Text.j1.eq_2 ..) (Ev.ifT rfl (Ev.ifT (by omega) (Ev.ifT (by simp; omega) ?_)))
      simp only [bt_B l n h1]
      by_cases ha : ((l.getD n 0).toNat : Int) < 97
      · refine Ev.ifT ha ?_
        have : letterB (l.getD n 0) = false := by simp only [letterB, decide_eq_false_iff_not]; omega
        simpa only [List.all_cons, this, Bool.false_and] using Ev.now false
      refine Ev.ifF ha ?_
      by_cases hz : ((l.getD n 0).toNat : Int) > 122
      · refine Ev.ifT hz ?_
        have : letterB (l.getD n 0) = false := by simp only [letterB, decide_eq_false_iff_not]; omega
        simpa only [List.all_cons, this, Bool.false_and] using Ev.now false
      refine Ev.ifF hz ?_
      have : letterB (l.getD n 0) = true := by simp only [letterB, decide_eq_true_eq]; omega
      simpa only [wrap64_succ n (by omega), List.all_cons, this, Bool.true_and] using ih (n + 1) (by omega)
    · rw [show decide ((n : Int) ≤ 16) = false from by simp; omega]
      have : ((l.getD n 0 :: l.drop (n + 1)).all letterB && decide (l.length ≤ 16)) = decide (l.length ≤ 16) := by
        have : decide (l.length ≤ 16) = false := by simp; omega
        rw [this]; simp
      rw [this]; exact last n
theorem l8Text_ev (l : List UInt8) (hl : l.length ≤ 4611686018427387903) : Ev (fun k => spec_l8Text.f k (B l)) (text8 l) := by
  simpa [spec_l8Text.f, text8] using l8Text_loop l hl l.length 0 (by omega)
theorem areLetters_eq (l : List UInt8) (hl : l.length ≤ 9223372036854775807) : impl_areLetters.f (B l) = some (l.all letterB) := by
  unfold impl_areLetters.f
  rw [if_pos (by simpa using hl), data_B]
  rfl
theorem isText_eq (l : List UInt8) : impl_isText.f (B l) = some (text8 l) := by
  unfold impl_isText.f text8
  by_cases h : l.length ≤ 16
  · rw [if_pos (by simp; omega), areLetters_eq l (by omega)]; simp [h]
  · rw [if_neg (by simp; omega)]; simp [h]

end Go.Proofs.YtjoflkeiaoellaaDoor.L

namespace Go.Proofs.YtjoflkeiaoellaaDoor.L
open Go.RowKit Go.Proofs.YtjoflkeiaoellaaDoor.P Go.Proofs.YtjoflkeiaoellaaDoor.M Go.Proofs.YtjoflkeiaoellaaDoorW.PrintWords Go.Proofs.YtjoflkeiaoellaaDoorW.PrintLast Go.Proofs.YtjoflkeiaoellaaDoorW.PrintMore
set_option linter.unusedVariables false
def colsL (s : Txt) (i : Nat) : Nat → Nat → List Txt
  | _, 0 => []
  | j, d + 1 => (s.drop i).take (j - i) :: colsL s i (j + 1) d
def rowsL (s : Txt) : Nat → Nat → List Txt
  | _, 0 => []
  | i, d + 1 => colsL s i (i + 1) (s.length - i) ++ rowsL s (i + 1) d
def rawL (s : Txt) : List Txt := rowsL s 0 s.length
def partsL (s : Txt) : List Txt := setL (rawL s)
theorem colsL_length (s : Txt) (i : Nat) : ∀ d j, (colsL s i j d).length = d
  | 0, _ => rfl
  | d + 1, j => by simp [colsL, colsL_length s i d (j + 1)]
theorem rowsL_length (s : Txt) : ∀ d i, i + d = s.length → (rowsL s i d).length ≤ d * s.length
  | 0, _, _ => by simp [rowsL]
  | d + 1, i, h => by
    have := rowsL_length s d (i + 1) (by omega)
    simp only [rowsL, List.length_append, colsL_length, Nat.succ_mul]; omega
theorem rawL_length (s : Txt) (h : s.length ≤ 16) : (rawL s).length ≤ 256 := by
  have h1 := rowsL_length s s.length 0 (by omega)
  have h2 : s.length * s.length ≤ 16 * 16 := Nat.mul_le_mul h h
  unfold rawL; omega
theorem mem_colsL (s : Txt) (i : Nat) : ∀ d j x, x ∈ colsL s i j d → x.length ≤ s.length ∧ (i < j → j + d ≤ s.length + 1 → 0 < x.length) ∧ ∃ m, j ≤ m ∧ m < j + d ∧ x = (s.drop i).take (m - i)
  | 0, _, _, h => by simp [colsL] at h
  | d + 1, j, x, h => by
    rcases List.mem_cons.1 h with rfl | h
    · exact ⟨by simp; omega, fun h1 h2 => by simp; omega, j, Nat.le_refl _, by omega, rfl⟩
    · obtain ⟨h1, h2, m, h3, h4, h5⟩ := mem_colsL s i d (j + 1) x h
      exact ⟨h1, fun h6 h7 => h2 (by omega) (by omega), m, by omega, by omega, h5⟩
theorem mem_rowsL (s : Txt) : ∀ d i x, i + d = s.length → x ∈ rowsL s i d → x.length ≤ s.length ∧ 0 < x.length
  | 0, _, _, _, h => by simp [rowsL] at h
  | d + 1, i, x, hd, h => by
    rcases List.mem_append.1 h with h | h
    · obtain ⟨h1, h2, _⟩ := mem_colsL s i _ _ x h
      exact ⟨h1, h2 (by omega) (by omega)⟩
    · exact mem_rowsL s d (i + 1) x (by omega) h
theorem mem_partsL {s x : Txt} (h : x ∈ partsL s) : x.length ≤ s.length ∧ 0 < x.length := mem_rowsL s _ 0 x (by omega) ((mem_setL _ _).1 h)
theorem foldl_putL_length : ∀ (l acc : List Txt), (l.foldl putL acc).length ≤ acc.length + l.length
  | [], _ => Nat.le_refl _
  | x :: l, acc => by
    have h1 := foldl_putL_length l (putL acc x)
    have h2 := putL_length_le acc x
    rw [List.foldl_cons, List.length_cons]; omega
theorem partsL_length (s : Txt) (h : s.length ≤ 16) : (partsL s).length ≤ 256 := by
  have h1 := foldl_putL_length (rawL s) []
  have h2 := rawL_length s h
  unfold partsL setL; simp at h1; omega
theorem map_data (l : List Txt) : (l.map B).map (fun x => x.data.toList) = l := by
  rw [List.map_map]
  exact (List.map_congr_left (fun x _ => data_B x)).trans (List.map_id _)
theorem l2Put_eq (l : List Txt) (w : Txt) (h : l.length ≤ 4294967296) (h2 : ∀ x ∈ l, x.length ≤ 4611686018427387900) : spec_l2Put.f (l.map B) (B w) = some ((putL l w).map B) := by
  have hall : ((l.map B).all fun x => decide (x.size ≤ 4611686018427387900)) = true := List.all_eq_true.2 fun x hx => by
    obtain ⟨y, hy, rfl⟩ := List.mem_map.1 hx
    simpa using h2 y hy
  unfold spec_l2Put.f
  rw [map_data, data_B, if_pos ⟨by simpa using h, hall⟩]
theorem set_eq (l : List Txt) (h : l.length ≤ 4294967296) : impl_set.f (l.map B) = some ((setL l).map B) := by
  unfold impl_set.f
  rw [if_pos (by simpa using h), map_data, sorted_compact]
  rfl
theorem piece_B (s : Txt) (i j : Nat) : (B s).extract (i : Int).toNat (j : Int).toNat = B ((s.drop i).take (j - i)) := by simp
theorem impl_cols (s : Txt) (hs : s.length ≤ 16) (i : Nat) (hi : i < s.length) (r : List ByteArray) (acc2 : List Txt) (hr : Ev (fun k => impl_substrings.l0 k (B s) (acc2.map B) (s.length : Int) ((i + 1 : Nat) : Int)) r) :
    ∀ d j acc, i < j → j + d = s.length + 1 → acc ++ colsL s i j d = acc2 → acc2.length ≤ 4000 → Ev (fun k => impl_substrings.l1 k (B s) (acc.map B) (i : Int) (j : Int) (s.length : Int) (i : Int)) r := by
  intro d
  induction d with
  | zero =>
    intro j acc h1 h2 h3 h4
    simp only [colsL, List.append_nil] at h3
    subst h3
    refine Ev.step (fun k => impl_substrings.l1.eq_2 ..) (Ev.ifF (by simp; omega) ?_)
    simpa only [wrap64_succ i (by omega)] using hr
  | succ d ih =>
    intro j acc h1 h2 h3 h4
    have hl : acc.length ≤ 4000 := by rw [← h3] at h4; simp at h4; omega
    refine Ev.step (fun k => impl_substrings.l1.eq_2 ..) (Ev.ifT (by simp; omega) (Ev.ifT (by omega) (Ev.ifT (by omega) (Ev.ifT (by simp; omega) ?_))))
    rw [piece_B]
    have := ih (j + 1) (acc ++ [(s.drop i).take (j - i)]) (by omega) (by omega) (by rw [← h3]; simp [colsL]) h4
    simpa only [wrap64_succ j (by omega), List.map_append, List.map_cons, List.map_nil] using this
theorem impl_rows (s : Txt) (hs : s.length ≤ 16) (all : List Txt) (hall : all.length ≤ 4000) : ∀ d i acc, i + d = s.length → acc ++ rowsL s i d = all → Ev (fun k => impl_substrings.l0 k (B s) (acc.map B) (s.length : Int) (i : Int)) ((setL all).map B) := by
  intro d
  induction d with
  | zero =>
    intro i acc h1 h2
    simp only [rowsL, List.append_nil] at h2
    subst h2
    refine Ev.step (fun k => impl_substrings.l0.eq_2 ..) (Ev.ifF (by omega) ?_)
    rw [set_eq acc (by omega)]
    exact Ev.some_bind (Ev.now _)
  | succ d ih =>
    intro i acc h1 h2
    refine Ev.step (fun k => impl_substrings.l0.eq_2 ..) (Ev.ifT (by omega) ?_)
    have h3 : (acc ++ colsL s i (i + 1) (s.length - i)) ++ rowsL s (i + 1) d = all := by rw [← h2]; simp [rowsL]
    have hr := ih (i + 1) _ (by omega) h3
    have := impl_cols s hs i (by omega) _ _ hr (s.length - i) (i + 1) acc (by omega) (by omega) rfl (by rw [← h3] at hall; simp at hall ⊢; omega)
    simpa only [wrap64_succ i (by omega)] using this
theorem substrings_ev (s : Txt) (hs : s.length ≤ 16) : Ev (fun k => impl_substrings.f k (B s)) ((partsL s).map B) := by
  have := impl_rows s hs (rawL s) (by have := rawL_length s hs; omega) s.length 0 [] (by omega) rfl
  simpa [impl_substrings.f, partsL] using this
theorem spec_cols (s : Txt) (hs : s.length ≤ 16) (i : Nat) (hi : i < s.length) (r : List ByteArray) (acc2 : List Txt) (hr : Ev (fun k => spec_l8Parts.l0 k (B s) (acc2.map B) ((i + 1 : Nat) : Int)) r) :
    ∀ d j acc, i < j → j + d = s.length + 1 → (colsL s i j d).foldl putL acc = acc2 → acc.length + d ≤ 4000 → (∀ x ∈ acc, x.length ≤ 16) → Ev (fun k => spec_l8Parts.l1 k (B s) (acc.map B) (i : Int) (j : Int)) r := by
  intro d
  induction d with
  | zero =>
    intro j acc h1 h2 h3 h4 h5
    simp only [colsL, List.foldl_nil] at h3
    subst h3
    refine Ev.step (fun k => spec_l8Parts.l1.eq_2 ..) (Ev.ifF (by simp; omega) ?_)
    simpa only [wrap64_succ i (by omega)] using hr
  | succ d ih =>
    intro j acc h1 h2 h3 h4 h5
    refine Ev.step (fun k => spec_l8Parts.l1.eq_2 ..) (Ev.ifT (by simp; omega) (Ev.ifT (by omega) (Ev.ifT (by omega) ?_)))
    rw [piece_B, l2Put_eq acc _ (by omega) (fun x hx => by have := h5 x hx; omega)]
    refine Ev.some_bind ?_
    have h6 := putL_length_le acc ((s.drop i).take (j - i))
    have := ih (j + 1) (putL acc ((s.drop i).take (j - i))) (by omega) (by omega) (by rw [← h3]; rfl) (by omega) (fun x hx => by
      rcases (mem_putL _ _ _).1 hx with rfl | hx
      · simp; omega
      · exact h5 x hx)
    simpa only [wrap64_succ j (by omega)] using this
theorem spec_rows (s : Txt) (hs : s.length ≤ 16) (all : List Txt) : ∀ d i acc, i + d = s.length → (rowsL s i d).foldl putL acc = all → acc.length + d * s.length ≤ 4000 → (∀ x ∈ acc, x.length ≤ 16) → Ev (fun k => spec_l8Parts.l0 k (B s) (acc.map B) (i : Int)) (all.map B) := by
  intro d
  induction d with
  | zero =>
    intro i acc h1 h2 h3 h4
    simp only [rowsL, List.foldl_nil] at h2
    subst h2
    exact Ev.step (fun k => spec_l8Parts.l0.eq_2 ..) (Ev.ifF (by simp; omega) (Ev.now _))
  | succ d ih =>
    intro i acc h1 h2 h3 h4
    rw [Nat.succ_mul] at h3
    refine Ev.step (fun k => spec_l8Parts.l0.eq_2 ..) (Ev.ifT (by simp; omega) ?_)
    have h5 : (rowsL s (i + 1) d).foldl putL ((colsL s i (i + 1) (s.length - i)).foldl putL acc) = all := by rw [← h2, rowsL, List.foldl_append]
    have h6 := foldl_putL_length (colsL s i (i + 1) (s.length - i)) acc
    rw [colsL_length] at h6
    have hr := ih (i + 1) _ (by omega) h5 (by omega) (fun x hx => by
      rcases (foldl_putL_mem _ _ _).1 hx with hx | hx
      · have := (mem_colsL s i _ _ x hx).1; omega
      · exact h4 x hx)
    have := spec_cols s hs i (by omega) _ _ hr (s.length - i) (i + 1) acc (by omega) (by omega) rfl (by omega) h4
    simpa only [wrap64_succ i (by omega)] using this
theorem l8Parts_ev (s : Txt) (hs : s.length ≤ 16) : Ev (fun k => spec_l8Parts.f k (B s)) ((partsL s).map B) := by
  have h2 : s.length * s.length ≤ 16 * 16 := Nat.mul_le_mul hs hs
  have := spec_rows s hs (partsL s) s.length 0 [] (by omega) rfl (by simp; omega) (by simp)
  simpa [spec_l8Parts.f] using this

end Go.Proofs.YtjoflkeiaoellaaDoor.L

namespace Go.Proofs.YtjoflkeiaoellaaDoor.L
open Go.RowKit Go.Proofs.YtjoflkeiaoellaaDoor.P Go.Proofs.YtjoflkeiaoellaaDoor.M Go.Proofs.YtjoflkeiaoellaaDoorW.PrintWords Go.Proofs.YtjoflkeiaoellaaDoorW.PrintLast Go.Proofs.YtjoflkeiaoellaaDoorW.PrintMore
set_option linter.unusedVariables false
theorem eqStringS_loop (l m : List Txt) (hl : l.length ≤ 4611686018427387903) (h : l.length = m.length) : ∀ (d n : Nat), n + d = l.length → Ev (fun k => laws_eqStringS.l0 k (l.map B) (m.map B) (n : Int)) (decide (l.drop n = m.drop n)) := by
  intro d
  induction d with
  | zero =>
    intro n hn
    refine Ev.step (fun k => laws_eqStringS.l0.eq_2 ..) (Ev.ifF (by simp; omega) ?_)
    rw [List.drop_of_length_le (by omega), List.drop_of_length_le (by omega)]; simpa using Ev.now true
  | succ d ih =>
    intro n hn
    have h1 : n < l.length := by omega
    refine Ev.step (fun k => laws_eqStringS.l0.eq_2 ..) (Ev.ifT (by simp; omega) (Ev.ifT (by omega) (Ev.ifT (by simp; omega) ?_)))
    rw [drop_cons_getD [] h1, drop_cons_getD [] (show n < m.length from by omega)]
    simp only [rdB l n h1, rdB m n (by omega), toList_B]
    by_cases e : l.getD n [] = m.getD n []
    · refine Ev.ifT e ?_
      simpa only [wrap64_succ n (by omega), e, List.cons.injEq, true_and] using ih (n + 1) (by omega)
    · refine Ev.ifF e ?_
      simpa only [e, List.cons.injEq, false_and, decide_false] using Ev.now false
theorem eqStringS_ev (l : List ByteArray) (hl : l.length ≤ 4611686018427387903) : Ev (fun k => laws_eqStringS.f k l l) true := by
  obtain ⟨l, rfl⟩ := exBs l
  refine Ev.congr (fun k => by unfold laws_eqStringS.f; rw [if_pos (by rfl)]) ?_
  simpa using eqStringS_loop l l (by simpa using hl) rfl l.length 0 (by omega)
theorem markText_loop : ∀ (d n : Nat) (acc : ByteArray), n < 10 ^ d → acc.size + d ≤ 4611686018427387903 → n ≤ 4611686018427387903 → ∃ m, Ev (fun k => laws_markText.l0 k (n : Int) acc) m := by
  intro d
  induction d with
  | zero =>
    intro n acc h1 h2 h3
    have h0 : n = 0 := by simpa using h1
    subst h0
    exact ⟨_, Ev.step (fun k => laws_markText.l0.eq_2 ..) (Ev.ifF (by omega) (Ev.ifT (by omega) (Ev.now _)))⟩
  | succ d ih =>
    intro n acc h1 h2 h3
    by_cases h0 : n = 0
    · subst h0
      exact ⟨_, Ev.step (fun k => laws_markText.l0.eq_2 ..) (Ev.ifF (by omega) (Ev.ifT (by omega) (Ev.now _)))⟩
    · have hd : wrap64 (Int.tdiv (n : Int) 10) = ((n / 10 : Nat) : Int) := by
        rw [Int.tdiv_eq_ediv_of_nonneg (by omega), wrap64_id (by omega) (by omega)]; rfl
      have hsz : ∀ x : Int, (strOfNums [x]).size = 1 := fun x => by simp [strOfNums, ← ByteArray.size_data]
      obtain ⟨m, hm⟩ := ih (n / 10) (strOfNums [(wrap64 (48 + (Int.tmod (n : Int) 10))) % 256] ++ acc) (by rw [Nat.pow_succ] at h1; omega) (by rw [ByteArray.size_append, hsz]; omega) (by omega)
      refine ⟨m, Ev.step (fun k => laws_markText.l0.eq_2 ..) (Ev.ifT (by omega) (Ev.some_bind (Ev.ifT (by rw [hsz]; omega) ?_)))⟩
      simpa only [hd] using hm
theorem markText_ex (n : Nat) (h0 : 0 < n) (h : n < 10 ^ 18) : ∃ m, Ev (fun k => laws_markText.f k (n : Int)) m := by
  obtain ⟨m, hm⟩ := markText_loop 18 n ⟨#[]⟩ h (by decide) (by omega)
  exact ⟨m, Ev.congr (fun k => by unfold laws_markText.f; rw [if_neg (by omega)]) hm⟩
open Classical in
noncomputable def mt (n : Nat) : ByteArray := if h : ∃ m, Ev (fun k => laws_markText.f k (n : Int)) m then Classical.choose h else ⟨#[]⟩
theorem mt_ev (n : Nat) (h0 : 0 < n) (h : n < 10 ^ 18) : Ev (fun k => laws_markText.f k (n : Int)) (mt n) := by
  have hx := markText_ex n h0 h
  unfold mt
  rw [dif_pos hx]
  exact Classical.choose_spec hx
noncomputable def marksT (n : Nat) (l : List ByteArray) : List ByteArray := (List.range n).map (fun j : Nat => mt (j + 1)) ++ l.drop n
theorem marksT_length (n : Nat) (l : List ByteArray) (h : n ≤ l.length) : (marksT n l).length = l.length := by simp [marksT]; omega
theorem marksT_set (n : Nat) (l : List ByteArray) (h : n < l.length) : (marksT n l).set n (mt (n + 1)) = marksT (n + 1) l := by
  unfold marksT
  rw [List.set_append_right _ _ (by simp), show ((List.range n).map fun j : Nat => mt (j + 1)).length = n from by simp, Nat.sub_self, drop_cons_getD ByteArray.empty h, List.set_cons_zero, List.range_succ, List.map_append, List.append_assoc]
  rfl
theorem markStringS_loop (l : List ByteArray) (hl : l.length ≤ 1000000000) : ∀ (d n : Nat), n + d = l.length → Ev (fun k => laws_markStringS.l0 k (marksT n l) ((n : Int) + 1) (n : Int)) ((l.length : Int) + 1, marksT l.length l) := by
  intro d
  induction d with
  | zero =>
    intro n hn
    refine Ev.step (fun k => laws_markStringS.l0.eq_2 ..) (Ev.ifF (by rw [marksT_length n l (by omega)]; omega) ?_)
    rw [show n = l.length from by omega]; exact Ev.now _
  | succ d ih =>
    intro n hn
    refine Ev.step (fun k => laws_markStringS.l0.eq_2 ..) (Ev.ifT (by rw [marksT_length n l (by omega)]; omega) (Ev.bind (mt_ev (n + 1) (by omega) (by omega)) (Ev.ifT (by omega) ?_)))
    have := ih (n + 1) (by omega)
    rw [← marksT_set n l (by omega)] at this
    rw [show wrap64 ((n : Int) + 1 + 1) = ((n + 1 : Nat) : Int) + 1 from by rw [wrap64_id (by omega) (by omega)]; omega]
    simpa only [Int.toNat_natCast, wrap64_succ n (by omega)] using this
theorem markStringS_ev (l : List ByteArray) (hl : l.length ≤ 1000000000) : Ev (fun k => laws_markStringS.f k l 1) ((l.length : Int) + 1, marksT l.length l) := by
  have := markStringS_loop l hl l.length 0 (by omega)
  simpa [laws_markStringS.f, marksT] using this
theorem marksT_rd (n : Nat) (l : List ByteArray) (j : Nat) (h : j < n) : rdOf ByteArray.empty (marksT n l) (j : Int) = mt (j + 1) := by
  simp [marksT, rdOf, List.getElem?_append, h]
theorem heldStringS_loop (l : List ByteArray) (hl : l.length ≤ 1000000000) : ∀ (d n : Nat), n + d = l.length → Ev (fun k => laws_heldStringS.l0 k (marksT l.length l) ((n : Int) + 1) (n : Int)) ((l.length : Int) + 1) := by
  intro d
  induction d with
  | zero =>
    intro n hn
    refine Ev.step (fun k => laws_heldStringS.l0.eq_2 ..) (Ev.ifF (by rw [marksT_length _ l (by omega)]; omega) ?_)
    rw [show n = l.length from by omega]; exact Ev.now _
  | succ d ih =>
    intro n hn
    refine Ev.step (fun k => laws_heldStringS.l0.eq_2 ..) (Ev.ifT (by rw [marksT_length _ l (by omega)]; omega) (Ev.ifT (by omega) (Ev.bind (mt_ev (n + 1) (by omega) (by omega)) (Ev.ifT (by rw [marksT_rd _ _ _ (by omega)]) ?_))))
    rw [show wrap64 ((n : Int) + 1 + 1) = ((n + 1 : Nat) : Int) + 1 from by rw [wrap64_id (by omega) (by omega)]; omega]
    simpa only [wrap64_succ n (by omega)] using ih (n + 1) (by omega)
theorem heldStringS_ev (l : List ByteArray) (hl : l.length ≤ 1000000000) : Ev (fun k => laws_heldStringS.f k (marksT l.length l) 1) ((l.length : Int) + 1) := by
  simpa [laws_heldStringS.f] using heldStringS_loop l hl l.length 0 (by omega)

end Go.Proofs.YtjoflkeiaoellaaDoor.L

namespace Go.Proofs.YtjoflkeiaoellaaDoor.P
open Go.RowKit Go.Proofs.YtjoflkeiaoellaaDoorW.PrintWords Go.Proofs.YtjoflkeiaoellaaDoorW.PrintLast Go.Proofs.YtjoflkeiaoellaaDoorW.PrintMore
attribute [local go_sem] max2_int min2_int max_two min_two max_three min_three max_four min_four   -- for this text's walks alone
set_option linter.unusedVariables false
set_option linter.unusedSimpArgs false

/-! ### impl_SubstringsOf: function 33 -/
def impl_SubstringsOf.f (k : Nat) (a0 : ByteArray) : Option (List ByteArray × Bool) := (impl_isText.f a0).bind fun t => if t = true then (impl_substrings.f k a0).bind fun zs => (if zs.length ≤ 9223372036854775807 then some (zs, true) else none) else some ([], false)
theorem impl_SubstringsOf.mono : ∀ a0 k, LeO (impl_SubstringsOf.f k a0) (impl_SubstringsOf.f (k + 1) a0) := by
  intro a0 k
  unfold impl_SubstringsOf.f
  repeat' first
  | (with_reducible exact LeO.refl _)
  | (with_reducible refine LeO.bind ?_ (fun _ => ?_))
  | (with_reducible refine LeO.ite ?_ ?_)
  | exact impl_substrings.mono _ _
  | exact LeO.refl _
set_option maxHeartbeats 1000000 in
theorem impl_SubstringsOf.lit (x : ByteArray) (W : World) : Calls Tryd.prog 62 (#[.string x] ++ #[]) W fun e W' => e = .returned (.bool true) ∧ Below W.heap.size W W' := by
  show Calls Tryd.prog 62 #[.string x] W _
  have HB := Aside0.mk (Below.refl W.heap.size W)
  go_enter Tryd.func62, Tryd.ntmps62
  go_wp2
  go_ret
  exact ⟨rfl, HB.out⟩
set_option maxHeartbeats 1000000 in
theorem impl_SubstringsOf.calls (k : Nat) (a0 : ByteArray) (r1 : List ByteArray) (r2 : Bool) (w : World) (h : impl_SubstringsOf.f k a0 = some (r1, r2)) :
    Calls Tryd.prog 33 #[.string a0] w fun e w' => ∃ v0_ : Value, e = .returned (.tuple #[v0_, .bool r2]) ∧ Kd.R Kd.string 9 w' w.heap.size (fun _ => True) v0_ r1 ∧ Below w.heap.size w w' := by
  have H : Aside0 (∃ zs : List ByteArray, zs.length ≤ 9223372036854775807 ∧ impl_isText.f a0 = some r2 ∧ (r2 = true → impl_substrings.f k a0 = some zs) ∧ r1 = if r2 = true then zs.filter (fun _ => true) else []) := by
    refine ⟨?_⟩
    unfold impl_SubstringsOf.f at h
    cases ht : impl_isText.f a0 with
    | none => rw [ht] at h; cases h
    | some t =>
      rw [ht, Option.bind_some] at h
      cases t with
      | false => simp at h; obtain ⟨rfl, rfl⟩ := h; exact ⟨[], by simp, rfl, by simp, rfl⟩
      | true =>
        rw [if_pos rfl] at h
        cases hs : impl_substrings.f k a0 with
        | none => rw [hs] at h; cases h
        | some zs =>
          rw [hs, Option.bind_some] at h
          by_cases hl : zs.length ≤ 9223372036854775807
          · rw [if_pos hl] at h; simp at h; obtain ⟨rfl, rfl⟩ := h; exact ⟨zs, hl, rfl, fun _ => rfl, by rw [if_pos rfl]; exact (List.filter_eq_self.2 (fun _ _ => rfl)).symm⟩
          · rw [if_neg hl] at h; cases h
  clear h
  obtain ⟨zs, hl, h1, h2, h3⟩ := H.out
  have HC := Aside0.mk (ChosenOf.calls (fun _ => true) 62 #[] (Go.Proofs.enters_of Tryd.func62 (by kernel_rfl) rfl) a0 r2 zs w hl (fun W => impl_isText.calls a0 r2 W h1) (fun e W => impl_substrings.calls k a0 zs W (h2 e)) (fun W x _ _ => impl_SubstringsOf.lit x W))
  rw [← h3] at HC
  clear H hl h1 h2 h3
  go_enter Tryd.func33, Tryd.ntmps33
  go_wp2_with fail
  refine HC.out.mono ?_
  clear HC
  rintro e w1 ⟨v, rfl, hr, hb⟩
  have H1 := Aside0.mk (And.intro hr hb)
  clear hr hb
  go_wp2_with fail
  go_ret2
  exact ⟨_, rfl, H1.out.1, H1.out.2⟩

end Go.Proofs.YtjoflkeiaoellaaDoor.P

namespace Go.Proofs.YtjoflkeiaoellaaDoor.L
open Go.RowKit Go.Proofs.YtjoflkeiaoellaaDoor.P Go.Proofs.YtjoflkeiaoellaaDoor.M Go.Proofs.YtjoflkeiaoellaaDoorW.PrintWords Go.Proofs.YtjoflkeiaoellaaDoorW.PrintLast Go.Proofs.YtjoflkeiaoellaaDoorW.PrintMore
set_option linter.unusedVariables false
theorem ev_all (f : Nat → ByteArray → Option Bool) (q : Txt → Bool) : ∀ (l : List Txt), (∀ x ∈ l, Ev (fun k => f k (B x)) (q x)) → ∃ K, ∀ k, K ≤ k → ∀ x ∈ l, f k (B x) = some (q x)
  | [], _ => ⟨0, fun _ _ x hx => absurd hx (by simp)⟩
  | y :: l, h => by
    obtain ⟨K1, h1⟩ := h y (by simp)
    obtain ⟨K2, h2⟩ := ev_all f q l (fun x hx => h x (by simp [hx]))
    refine ⟨K1 + K2, fun k hk x hx => ?_⟩
    rcases List.mem_cons.1 hx with rfl | hx
    · exact h1 k (by omega)
    · exact h2 k (by omega) x hx
theorem filt_ev (f : Nat → ByteArray → Option Bool) (q : Txt → Bool) (l : List Txt) (h : ∀ x ∈ l, Ev (fun k => f k (B x)) (q x)) : Ev (fun k => filt (f k) (l.map B)) ((l.filter q).map B) := by
  obtain ⟨K, hK⟩ := ev_all f q l h
  refine ⟨K, fun k hk => ?_⟩
  show filt (f k) (l.map B) = _
  rw [filt_of (fun b => q b.data.toList) (fun x hx => ?_), List.filter_map]
  · rw [List.filter_congr (q := q) (fun x _ => by simp)]
  · obtain ⟨y, hy, rfl⟩ := List.mem_map.1 hx
    rw [hK k hk y hy, data_B]
theorem chosen_ev (s : Txt) (h1 : text8 s = true) (h16 : s.length ≤ 16) (f : Nat → ByteArray → Option Bool) (q : Txt → Bool) (h : ∀ x ∈ partsL s, Ev (fun k => f k (B x)) (q x)) :
    Ev (fun k => ChosenOf.list (impl_isText.f (B s)) (impl_substrings.f k (B s)) (f k)) (((partsL s).filter q).map B, true) := by
  have h256 := partsL_length s h16
  unfold ChosenOf.list
  rw [isText_eq, h1]
  exact Ev.some_bind (Ev.ifT rfl (Ev.bind (substrings_ev s h16) (Ev.ifT (by simp; omega) (Ev.bind (filt_ev f q _ h) (Ev.now _)))))

end Go.Proofs.YtjoflkeiaoellaaDoor.L

namespace Go.Proofs.YtjoflkeiaoellaaDoor.Pure
open Go.RowKit Go.Proofs.YtjoflkeiaoellaaDoor.P Go.Proofs.YtjoflkeiaoellaaDoor.M Go.Proofs.YtjoflkeiaoellaaDoorW.PrintWords Go.Proofs.YtjoflkeiaoellaaDoorW.PrintLast Go.Proofs.YtjoflkeiaoellaaDoorW.PrintMore
set_option linter.unusedVariables false
open Go.Proofs.YtjoflkeiaoellaaDoor.L
/-- The letters from n on are those from the other end. -/
def backFrom (x : Txt) : Nat → Nat → Bool
  | _, 0 => true
  | n, d + 1 => if ((x.getD n 0).toNat : Int) = ((x.getD (x.length - 1 - n) 0).toNat : Int) then backFrom x (n + 1) d else false
def qTurnsBack (x : Txt) : Bool := backFrom x 0 x.length
theorem other (x : Txt) (n : Nat) (h : x.length ≤ 16) (hn : n < x.length) : wrap64 (wrap64 ((x.length : Int) - 1) - (n : Int)) = ((x.length - 1 - n : Nat) : Int) := by
  rw [wrap64_id (x := (x.length : Int) - 1) (by omega) (by omega), wrap64_id (by omega) (by omega)]; omega
theorem turned_loop (x : Txt) (h : x.length ≤ 16) : ∀ d n, n + d = x.length → Ev (fun k => spec_l8Turned.l0 k (B x) (n : Int)) (backFrom x n d) := by
  intro d
  induction d with
  | zero => intro n hn; exact Ev.step (fun k => spec_l8Turned.l0.eq_2 ..) (Ev.ifF (by simp; omega) (Ev.now _))
  | succ d ih =>
    intro n hn
    refine Ev.step (fun k => spec_l8Turned.l0.eq_2 ..) ?_
    simp only [size_B, other x n h (by omega)]
    refine Ev.ifT (by omega) (Ev.ifT (by omega) (Ev.ifT (by omega) (Ev.ifT (by omega) ?_)))
    simp only [bt_B x n (by omega), bt_B x (x.length - 1 - n) (by omega)]
    rw [backFrom]
    by_cases hc : ((x.getD n 0).toNat : Int) = ((x.getD (x.length - 1 - n) 0).toNat : Int)
    · refine Ev.ifT hc ?_
      rw [if_pos hc]
      simpa only [wrap64_succ n (by omega)] using ih (n + 1) (by omega)
    · refine Ev.ifF hc ?_
      rw [if_neg hc]; exact Ev.now _
theorem turned_ev (x : Txt) (h : x.length ≤ 16) : Ev (fun k => spec_l8Turned.f k (B x)) (qTurnsBack x) := by
  simpa [spec_l8Turned.f, qTurnsBack] using turned_loop x h x.length 0 (by omega)
theorem back_loop (x : Txt) (h : x.length ≤ 16) : ∀ d n, n + d = x.length → Ev (fun k => impl_TurnsBack_1.l0 k (B x) (x.length : Int) (n : Int)) (backFrom x n d) := by
  intro d
  induction d with
  | zero => intro n hn; exact Ev.step (fun k => impl_TurnsBack_1.l0.eq_2 ..) (Ev.ifF (by omega) (Ev.now _))
  | succ d ih =>
    intro n hn
    refine Ev.step (fun k => impl_TurnsBack_1.l0.eq_2 ..) ?_
    simp only [size_B, other x n h (by omega)]
    refine Ev.ifT (by omega) (Ev.ifT (by omega) (Ev.ifT (by omega) (Ev.ifT (by omega) (Ev.ifT (by omega) ?_))))
    simp only [bt_B x n (by omega), bt_B x (x.length - 1 - n) (by omega)]
    rw [backFrom]
    by_cases hc : ((x.getD n 0).toNat : Int) = ((x.getD (x.length - 1 - n) 0).toNat : Int)
    · refine Ev.ifT hc ?_
      rw [if_pos hc]
      simpa only [wrap64_succ n (by omega)] using ih (n + 1) (by omega)
    · refine Ev.ifF hc ?_
      rw [if_neg hc]; exact Ev.now _
theorem back_ev (x : Txt) (h : x.length ≤ 16) : Ev (fun k => impl_TurnsBack_1.f k (B x)) (qTurnsBack x) := by
  simpa [impl_TurnsBack_1.f, qTurnsBack] using back_loop x h x.length 0 (by omega)
theorem spec_TurnsBack_loop (l : List Txt) (hl : l.length ≤ 1000000) (hx : ∀ x ∈ l, x.length ≤ 16) : ∀ d n (acc : List Txt), n + d = l.length → acc.length ≤ n → Ev (fun k => spec_TurnsBack.l0 k (acc.map B) (l.map B) (n : Int)) ((acc ++ (l.drop n).filter qTurnsBack).map B, true) := by
  intro d
  induction d with
  | zero =>
    intro n acc h ha
    refine Ev.step (fun k => spec_TurnsBack.l0.eq_2 ..) (Ev.ifF (by simp; omega) ?_)
    rw [List.drop_of_length_le (by omega)]; simpa using Ev.now _
  | succ d ih =>
    intro n acc h ha
    have h1 : n < l.length := by omega
    have h2 : (l.getD n []).length ≤ 16 := hx _ (by rw [getD_lt [] h1]; exact List.getElem_mem _)
    refine Ev.step (fun k => spec_TurnsBack.l0.eq_2 ..) ?_
    simp only [rdB l n h1]
    refine Ev.ifT (by simp; omega) (Ev.ifT (by omega) (Ev.bind (turned_ev _ h2) ?_))
    rw [drop_cons_getD [] h1, List.filter_cons]
    generalize l.getD n [] = x at h2
    by_cases hq : qTurnsBack x = true
    · refine Ev.ifT hq (Ev.ifT (by simp; omega) ?_)
      rw [if_pos hq]
      have := ih (n + 1) (acc ++ [x]) (by omega) (by simp; omega)
      simpa only [wrap64_succ n (by omega), List.map_append, List.map_cons, List.map_nil, List.append_assoc, List.cons_append, List.nil_append] using this
    · refine Ev.ifF hq ?_
      rw [if_neg hq]
      simpa only [wrap64_succ n (by omega)] using ih (n + 1) acc (by omega) (by omega)
theorem FnExactTurnsBack : laws_FnExactTurnsBack.Pure := by
  intro a _
  obtain ⟨s, rfl⟩ := exB a
  by_cases hb : ((B s).size : Int) > 1048576
  · exact ⟨0, by unfold laws_FnExactTurnsBack.f; rw [if_pos hb]⟩
  have hs : s.length ≤ 1048576 := by simp at hb; omega
  have both : ∃ r : List ByteArray × Bool, r.1.length ≤ 1000000 ∧ Ev (fun k => spec_TurnsBack.f k (B s)) r ∧ Ev (fun k => impl_TurnsBack.f k (B s)) r := by
    have e1 := l8Text_ev s (by omega)
    cases h1 : text8 s with
    | false =>
      rw [h1] at e1
      unfold spec_TurnsBack.f impl_TurnsBack.f ChosenOf.list
      simp only [isText_eq]
      exact ⟨([], false), by simp, Ev.some_bind (Ev.bind e1 (Ev.ifF (by simp) (Ev.now _))), by rw [h1]; exact Ev.some_bind (Ev.ifF (by simp) (Ev.now _))⟩
    | true =>
      rw [h1] at e1
      have h16 : s.length ≤ 16 := by unfold text8 at h1; simp at h1; exact h1.2
      have h256 := partsL_length s h16
      have hx : ∀ x ∈ partsL s, x.length ≤ 16 := fun x hx => by have := (mem_partsL hx).1; omega
      refine ⟨(((partsL s).filter qTurnsBack).map B, true), ?_, ?_, ?_⟩
      · have := List.length_filter_le qTurnsBack (partsL s)
        simp; omega
      · unfold spec_TurnsBack.f
        refine Ev.some_bind (Ev.bind e1 (Ev.ifT rfl (Ev.bind (l8Parts_ev s h16) ?_)))
        simpa using spec_TurnsBack_loop (partsL s) (by omega) hx (partsL s).length 0 [] (by omega) (by simp)
      · unfold impl_TurnsBack.f
        exact chosen_ev s h1 h16 _ qTurnsBack (fun x hx' => back_ev x (hx x hx'))
  obtain ⟨r, hr, h1, h2⟩ := both
  refine Ev.rounds ?_
  unfold laws_FnExactTurnsBack.f
  refine Ev.ifF hb (Ev.bind h1 (Ev.bind h2 (Ev.bind (eqStringS_ev r.1 (by omega)) (Ev.ifT rfl ?_))))
  refine Ev.step (fun k => laws_FnExactTurnsBack.j0.eq_2 ..) (Ev.ifF (by simp) (Ev.bind (markStringS_ev r.1 (by omega)) (Ev.bind (heldStringS_ev r.1 (by omega)) (Ev.ifF (by omega) (Ev.ifT rfl (Ev.bind h2 (Ev.bind (eqStringS_ev r.1 (by omega)) (Ev.ifT rfl ?_))))))))
  exact Ev.step (fun k => laws_FnExactTurnsBack.j1.eq_2 ..) (Ev.ifF (by simp) (Ev.bind (heldStringS_ev r.1 (by omega)) (Ev.ifF (by omega) (Ev.ifT rfl (Ev.now _)))))

end Go.Proofs.YtjoflkeiaoellaaDoor.Pure

namespace Go.Proofs.YtjoflkeiaoellaaDoor.fnExactTurnsBack
open Go.ChangeShapes Go.WideShapes Go.ChangeAt Go.RowKit
open Go.ChangeMaps (open_string shut_string)
set_option linter.unusedVariables false
def laidL : List (String × DataW Unit) := [("unicode/utf8.acceptRanges", Rows.laid_unicode_utf8_acceptRanges), ("unicode/utf8.first", Rows.laid_unicode_utf8_first)]
theorem own : ownKnob Tryd.prog.godebug = none := by kernel_rfl
set_option maxRecDepth 100000 in
theorem lifted (os : Os) (started : os.Started) (H : Type) (enc : TypeId × Value → H) :
    ReturnsInHanded {} Tryd.checked os 14 .any (fun w args => (Rows.fnExactTurnsBackSpec.pre enc Tryd.prog Tryd.f14 [] false w args ∧ laidMetH Tryd.prog laidL w) ∧ sizedMet enc Tryd.prog Tryd.f14 (OpenSpec.ofChange Rows.fnExactTurnsBackSpec) false w args) (Rows.fnExactTurnsBackSpec.post enc Tryd.prog Tryd.f14 false true false false) := by
  refine returnsInHanded_of_change_and (C := Tryd.checked) (X := fun w _ => laidMetH Tryd.prog laidL w) (fun _ _ _ hh h => h.of_heap hh) own started (by kernel_rfl) Tryd.func14
    (ChangeSpec.witness_shaped (enc := enc) (C := Tryd.checked) (os := os) (X := fun w _ => laidMetH Tryd.prog laidL w) false (World.laidAll Tryd.prog os laidL) #[.string ByteArray.empty] 8 (World.laidAll_os _ _ _) (World.shaped_of_ZipB (by kernel_rfl) (by kernel_rfl)) (by kernel_rfl) (by kernel_rfl) (by kernel_rfl)
      (by rw [MakeChecks.laidMetH_plain _ _ _ (by kernel_rfl)]; exact laidMet_laidAll _ (by kernel_rfl) (by kernel_rfl))) ?_
  intro W base args ds gs before hval0 hW hcnd hsz0 hL_ _
  have hsz : (DataW.weightsEach Tryd.prog (Tryd.f14.params.toList ++ Rows.fnExactTurnsBackSpec.plain.varTypes Tryd.prog) (ds ++ gs)).all (· ≤ reachBytes) = true := hsz0
  have hval : ∀ (j : Nat) t v, Tryd.f14.params[j]? = some t → args[j]? = some v → Value.okWide Tryd.prog W .any base t v := hval0
  have hW' := hW
  obtain ⟨p, q, hA0, hV, rfl, hfz, hnd⟩ := hW
  have hA : DataW.TrodAll enc Tryd.prog W 0 (fun _ => true) true Tryd.f14.params.toList args.toList ds p := hA0
  rw [Tryd.params14] at hA hval hsz
  obtain ⟨v0, vs0, d0, ds0, p0, q0, hargs, rfl, rfl, h0, r0⟩ := trodAll_cons hA
  obtain ⟨rfl, rfl, rfl⟩ := trodAll_nil r0
  obtain rfl : args = #[v0] := by cases args; simp_all
  obtain ⟨rfl, rfl⟩ := trodVars_none hV
  obtain ⟨a0, rfl, rfl, rfl, y0⟩ := open_string Tryd.underlying9 (hval 0 9 v0 rfl rfl) h0
  have w0 : a0.size ≤ 140737488351232 := by
    have z := sized_string hsz (j := 0) (t := 9) rfl rfl
    rw [Array.length_toList] at z
    exact z
  clear hA0 hval0 hsz0 hsz
  refine (P.laws_FnExactTurnsBack.walk Pure.FnExactTurnsBack a0 W w0).mono fun e W' ⟨he, bel⟩ => ?_
  subst he
  exact ⟨_, rfl, _, _, _, [], _, [], hW', trodAll_mk1 (shut_bool Tryd.underlying4 _), (trodAll_cons_mk (shut_string Tryd.underlying9 y0) trodAll_mk0), rfl, bel.frame _, fun h => by cases h⟩
theorem over : Rows.fnExactTurnsBackRow.holds Tryd.pinned (OpenSpec.ofChange Rows.fnExactTurnsBackSpec) :=
  OpenClaim.holds_of_wide 14 Tryd.f14 rfl rfl rfl rfl rfl rfl rfl ⟨rfl, rfl, rfl, rfl, rfl⟩ rfl rfl rfl rfl rfl (by kernel_rfl) Tryd.func14 (by kernel_rfl)
    (of_decide_eq_true (by kernel_rfl)) (by unfold Func.isWrapper; first | (rw [if_pos (by decide +kernel)]; kernel_rfl) | (rw [if_neg (by decide +kernel)]; exact ⟨rfl, rfl⟩))
    (fun os started H enc _ => lifted os started H enc)
theorem proved : Rows.FnExactTurnsBackSaid := over
end Go.Proofs.YtjoflkeiaoellaaDoor.fnExactTurnsBack
namespace Go.Proofs.YtjoflkeiaoellaaDoor
/-- The row, under a short name, for the claim. -/
theorem fnExactTurnsBack_holds : Rows.FnExactTurnsBackSaid := fnExactTurnsBack.proved
/-- The tied card. -/
theorem fnExactTurnsBack_card : Rows.FnExactTurnsBackCardSaid :=
  Claim7.holds_tied_plain_at .later [] [.data, .pinned] true (true, "4c712bdf3fc11f60ce056c4cea36d3085b06d6f32e50bfd925e90d7580ae0c2a") false
    fnExactTurnsBack_holds (fun _ h => by cases h) (by kernel_rfl) (fun _ h => by cases h) fnExactTurnsBack_row_tie rfl ⟨rfl, rfl⟩ (by kernel_rfl) rfl
    (fun f fn hf hfn => by
      obtain rfl : f = 14 := Option.some.inj ((show Tryd.prog.funcNamed "loop.example/g01243/laws.FnExactTurnsBack" = some 14 by kernel_rfl).symm.trans hf) |>.symm
      obtain rfl : fn = Tryd.f14 := (Option.some.inj (Tryd.func14.symm.trans hfn)).symm
      exact ⟨by kernel_rfl, fun j t ht => by
        rw [Tryd.params14] at ht
        have hm : t ∈ [9] := by simpa using Array.mem_of_getElem? ht
        have hall : ([9].all fun u => !Tryd.prog.wantsStandIn u) = true := by kernel_rfl
        exact (show Tryd.prog.wantsStandIn t = false by simpa using List.all_eq_true.1 hall t hm)⟩)
    (by kernel_rfl)
end Go.Proofs.YtjoflkeiaoellaaDoor
