/-
  Part 1 of the proof that FnExactDoesFit returns true for every input: the functions that it reaches, each with its contract, and the law.
  Conditions: those of the given statement, no others.
-/
import Derived.Test.YtjpepfdpihojfaaDoorCFnExactDoesFitW0
import Derived.Test.YtjpepfdpihojfaaDoorProg
import Derived.Below
import Derived.Deep.Draws
import Derived.Deep.AppendLies
import Derived.Maps.AppendAt
import Derived.OwnWalk
import Derived.Laws.BytesArg
import Derived.Laws.MakeOwn
import Derived.Laws.OwnMore
import Derived.Deep.OwnRows
import Derived.Tactics
import Derived.Lib.ConvBytes
import Derived.Laws.Slices
import Derived.WalkKit
import Derived.KernelRfl
import Derived.RowKit3
import Derived.Deep.LoopGhost
import Derived.Deep.QuietTactic
import Derived.BigQuiet
import Derived.WideLaws
import Derived.Deep.DeepCutAuto
import Derived.Deep.CutBlock
import Derived.Deep.RegionHeld3
import Derived.Laws.Rows
import Derived.Lib.AppendStr
import Derived.ArgAppend
import Derived.Laws.IdiomCopy
import Derived.OrdersHeld
import Derived.Laws.BitsLemmas
import Derived.RowKit
import Derived.Ground.NamesProg
import Derived.Shelf.Strings.SlTrimAscii
import Derived.Shelf.Abstract
import Derived.Defers
import Derived.Laws.Pointers
import Derived.Laws.LoneSync
import Derived.RegionCalls
import Derived.Laws.NewBlocks
import Derived.WalkSpells
import Derived.Laws.IdiomStrings
set_option linter.unusedVariables false
set_option linter.unusedSimpArgs false
namespace Go.Proofs.YtjpepfdpihojfaaDoor.P
open Go.RowKit Go.Proofs.YtjpepfdpihojfaaDoorW.PrintWords Go.Proofs.YtjpepfdpihojfaaDoorW.PrintLast Go.Proofs.YtjpepfdpihojfaaDoorW.PrintMore
attribute [local go_sem] max2_int min2_int max_two min_two max_three min_three max_four min_four
set_option linter.unusedVariables false
set_option linter.unusedSimpArgs false
def errW : Option Int → Value
  | none => .nilIface
  | some c => .iface 0 (.int .i64 c)
theorem errW_none : errW none = .nilIface := rfl
theorem errW_some (c : Int) : errW (some c) = .iface 0 (.int .i64 c) := rfl
theorem info4 : (Tryd.prog.info? 4).map (fun i => (i.zero, i.size, i.bytes)) = some (some (.bool false), 1, 1) := by kernel_rfl
mutual
def spec_l2Word.l0 : Nat → ByteArray → Int → Option (Bool)
 | 0, _, _ => none
 | k + 1, x0, x3 => if x3 < (x0.size : Int) then (spec_l2Word.j1 k x0 x3 (decide (x3 ≤ 12))) else (spec_l2Word.j1 k x0 x3 false)
def spec_l2Word.j1 : Nat → ByteArray → Int → Bool → Option (Bool)
 | 0, _, _, _ => none
 | k + 1, x0, x3, x11 => if x11 = true then (if 0 ≤ x3 then (if x3 < (x0.size : Int) then (if (bt x0 x3) < 97 then (some false) else (if (bt x0 x3) > 122 then (some false) else (spec_l2Word.l0 k x0 (wrap64 (x3 + 1))))) else (none)) else (none)) else (some (decide ((x0.size : Int) ≤ 12)))
end
def spec_l2Word.f (k : Nat) (a0 : ByteArray) : Option (Bool) := spec_l2Word.l0 k a0 0
theorem spec_l2Word.mono_l : ∀ k, (∀ y0 y1, LeO (spec_l2Word.l0 k y0 y1) (spec_l2Word.l0 (k + 1) y0 y1)) ∧ (∀ y0 y1 y2, LeO (spec_l2Word.j1 k y0 y1 y2) (spec_l2Word.j1 (k + 1) y0 y1 y2))
 | 0 => ⟨fun _ _ r h => by simp [spec_l2Word.l0] at h, fun _ _ _ r h => by simp [spec_l2Word.j1] at h⟩
 | k + 1 => by
  obtain ⟨ih0, ih1⟩ := spec_l2Word.mono_l k
  refine ⟨?_, ?_⟩
  ·
   intro y0 y1
   unfold spec_l2Word.l0
   repeat' first
   | (with_reducible exact ih0 _ _)
   | (with_reducible exact ih1 _ _ _)
   | (with_reducible exact LeO.refl _)
   | (with_reducible exact LeO.none _)
   | (with_reducible refine LeO.ite ?_ ?_)
   | (with_reducible refine LeO.bind ?_ (fun _ => ?_))
   | exact ih0 _ _
   | exact ih1 _ _ _
   | exact LeO.none _
   | refine LeO.ite ?_ ?_
   | refine LeO.bind ?_ (fun _ => ?_)
  ·
   intro y0 y1 y2
   unfold spec_l2Word.j1
   repeat' first
   | (with_reducible exact ih0 _ _)
   | (with_reducible exact ih1 _ _ _)
   | (with_reducible exact LeO.refl _)
   | (with_reducible exact LeO.none _)
   | (with_reducible refine LeO.ite ?_ ?_)
   | (with_reducible refine LeO.bind ?_ (fun _ => ?_))
   | exact ih0 _ _
   | exact ih1 _ _ _
   | exact LeO.none _
   | refine LeO.ite ?_ ?_
   | refine LeO.bind ?_ (fun _ => ?_)
theorem spec_l2Word.mono : ∀ a0 k, LeO (spec_l2Word.f k a0) (spec_l2Word.f (k + 1) a0) := by
 intro a0 k
 obtain ⟨ih0, ih1⟩ := spec_l2Word.mono_l k
 unfold spec_l2Word.f
 repeat' first
   | (with_reducible exact ih0 _ _)
   | (with_reducible exact ih1 _ _ _)
   | (with_reducible exact LeO.refl _)
   | (with_reducible exact LeO.none _)
   | (with_reducible refine LeO.ite ?_ ?_)
   | (with_reducible refine LeO.bind ?_ (fun _ => ?_))
   | exact ih0 _ _
   | exact ih1 _ _ _
   | exact LeO.none _
   | refine LeO.ite ?_ ?_
   | refine LeO.bind ?_ (fun _ => ?_)
set_option maxHeartbeats 8000000 in
set_option maxRecDepth 100000 in
theorem spec_l2Word.calls (k : Nat) (a0 : ByteArray) (r : Bool) (w : World) (h : spec_l2Word.f k a0 = some r) :
  Calls Tryd.prog 11 #[.string a0] w fun e w' => e = .returned (.bool r) ∧ Drawn0 w w' := by
 have H : (spec_l2Word.l0 k a0 0) = some r := h
 clear h
 have H' := Aside0.mk H
 clear H
 go_enter Tryd.func11, Tryd.ntmps11
 go_wp2
 go_loopg [3] k (fun kq v3 w' => ∃ (x3_1 : Int), v3 = .int .i64 x3_1 ∧ Aside0 (spec_l2Word.l0 kq a0 x3_1 = some r) ∧ Aside0 (kq ≤ k) ∧ Drawn0 w w')
 case atStart => exact ⟨(0), (by first | rfl | (simp; done) | (simp [*]; done)), H', ⟨Nat.le_refl _⟩, by repeat (first | exact Drawn0.refl _ | apply Drawn0.step)⟩
 case round =>
  clear H'
  try clear c1
  obtain ⟨x3_1, rfl, HA, HK1, ⟨m1, rfl⟩⟩ := hrel
  cases gk with
  | zero => exact absurd HA.out (by simp [spec_l2Word.l0])
  | succ k1 =>
   have H := HA.out
   clear HA
   simp only [spec_l2Word.l0] at H
   have HC2 := Aside0.mk H
   clear H
   go_upto_region 2 with (fail)
   go_cut [11] (fun v11 wc => ∃ (kq : Nat) (x11_1 : Bool), v11 = .bool x11_1 ∧ Aside0 (spec_l2Word.j1 kq a0 x3_1 x11_1 = some r) ∧ Aside0 (kq ≤ k1) ∧ Drawn0 w wc)
   case first =>
    have H := HC2.out
    clear HC2
    by_cases c3 : x3_1 < (a0.size : Int)
    ·
     rw [if_pos c3] at H
     have c3b0 : decide (x3_1 < (a0.size : Int)) = true := decide_eq_true c3
     clear c3
     (first | rw [c3b0] | (simp only [i64_w, i32_w]; rw [c3b0]) | skip)
     have H' := Aside0.mk H
     clear H
     go_wp2
     go_meet
     case rel => exact ⟨_, (decide (x3_1 ≤ 12)), (by first | rfl | (simp; done) | (simp [*]; done)), H', ⟨by have := HK1.out; first | omega | exact Nat.le_refl _⟩, by repeat (first | exact Drawn0.refl _ | apply Drawn0.step)⟩
    ·
     rw [if_neg c3] at H
     have c3b0 : decide (x3_1 < (a0.size : Int)) = false := decide_eq_false c3
     clear c3
     (first | rw [c3b0] | (simp only [i64_w, i32_w]; rw [c3b0]) | skip)
     have H' := Aside0.mk H
     clear H
     go_wp2
     go_meet
     case rel => exact ⟨_, (false), (by first | rfl | (simp; done) | (simp [*]; done)), H', ⟨by have := HK1.out; first | omega | exact Nat.le_refl _⟩, by repeat (first | exact Drawn0.refl _ | apply Drawn0.step)⟩
   case rest =>
    clear HC2
    try clear c1
    try clear p2
    try clear c3
    try clear c3b0
    obtain ⟨kq, x11_1, rfl, HA, HJ1, ⟨mc1, rfl⟩⟩ := hcut
    cases kq with
    | zero => exact absurd HA.out (by simp [spec_l2Word.j1])
    | succ kj1 =>
     have H := HA.out
     clear HA
     simp only [spec_l2Word.j1] at H
     by_cases c4 : x11_1 = true
     ·
      subst c4
      have H1 : (if 0 ≤ x3_1 then (if x3_1 < (a0.size : Int) then (if (bt a0 x3_1) < 97 then (some false) else (if (bt a0 x3_1) > 122 then (some false) else (spec_l2Word.l0 kj1 a0 (wrap64 (x3_1 + 1))))) else (none)) else (none)) = some r := by rw [if_pos rfl] at H; exact H
      clear H
      have H := H1
      clear H1
      by_cases c5 : 0 ≤ x3_1
      ·
       rw [if_pos c5] at H
       have c5b0 : decide (0 ≤ x3_1) = true := decide_eq_true c5
       clear c5
       by_cases c6 : x3_1 < (a0.size : Int)
       ·
        rw [if_pos c6] at H
        have c6b0 : decide (x3_1 < (a0.size : Int)) = true := decide_eq_true c6
        clear c6
        by_cases c8 : (bt a0 x3_1) < 97
        ·
         rw [if_pos c8] at H
         have c8b0 : decide ((bt a0 x3_1) < 97) = true := decide_eq_true c8
         clear c8
         obtain rfl := Option.some.inj H
         have p7 : 0 ≤ (x3_1 : Int) := of_decide_eq_true (by first | (with_reducible assumption) | assumption)
         have q7 : x3_1 < (a0.size : Int) := of_decide_eq_true (by first | (with_reducible assumption) | assumption)
         have hx7 := bt_at a0 x3_1
         replace p7 := eq_true p7
         replace q7 := eq_true q7
         go_wp2
         go_ret
         exact ⟨by first | rfl | (simp; done) | (simp [*]; done), by repeat (first | exact Drawn0.refl _ | apply Drawn0.step)⟩
        ·
         rw [if_neg c8] at H
         have c8b0 : decide ((bt a0 x3_1) < 97) = false := decide_eq_false c8
         clear c8
         by_cases c10 : (bt a0 x3_1) > 122
         ·
          rw [if_pos c10] at H
          have c10b0 : decide (122 < (bt a0 x3_1)) = true := decide_eq_true c10
          clear c10
          obtain rfl := Option.some.inj H
          have p7 : 0 ≤ (x3_1 : Int) := of_decide_eq_true (by first | (with_reducible assumption) | assumption)
          have q7 : x3_1 < (a0.size : Int) := of_decide_eq_true (by first | (with_reducible assumption) | assumption)
          have hx7 := bt_at a0 x3_1
          replace p7 := eq_true p7
          replace q7 := eq_true q7
          have p9 : 0 ≤ (x3_1 : Int) := of_decide_eq_true (by first | (with_reducible assumption) | assumption)
          have q9 : x3_1 < (a0.size : Int) := of_decide_eq_true (by first | (with_reducible assumption) | assumption)
          have hx9 := bt_at a0 x3_1
          replace p9 := eq_true p9
          replace q9 := eq_true q9
          go_wp2
          go_ret
          exact ⟨by first | rfl | (simp; done) | (simp [*]; done), by repeat (first | exact Drawn0.refl _ | apply Drawn0.step)⟩
         ·
          rw [if_neg c10] at H
          have c10b0 : decide (122 < (bt a0 x3_1)) = false := decide_eq_false c10
          clear c10
          have H' := Aside0.mk H
          clear H
          have p7 : 0 ≤ (x3_1 : Int) := of_decide_eq_true (by first | (with_reducible assumption) | assumption)
          have q7 : x3_1 < (a0.size : Int) := of_decide_eq_true (by first | (with_reducible assumption) | assumption)
          have hx7 := bt_at a0 x3_1
          replace p7 := eq_true p7
          replace q7 := eq_true q7
          have p9 : 0 ≤ (x3_1 : Int) := of_decide_eq_true (by first | (with_reducible assumption) | assumption)
          have q9 : x3_1 < (a0.size : Int) := of_decide_eq_true (by first | (with_reducible assumption) | assumption)
          have hx9 := bt_at a0 x3_1
          replace p9 := eq_true p9
          replace q9 := eq_true q9
          go_wp2
          go_roundg kj1
          case measure => have := HK1.out; have := HJ1.out; omega
          case rel => exact ⟨(wrap64 (x3_1 + 1)), (by first | rfl | (simp; done) | (simp [*]; done)), H', ⟨by have := HK1.out; have := HJ1.out; omega⟩, by repeat (first | exact Drawn0.refl _ | apply Drawn0.step)⟩
       ·
        rw [if_neg c6] at H
        exact absurd H (by simp)
      ·
       rw [if_neg c5] at H
       exact absurd H (by simp)
     ·
      replace c4 := Bool.eq_false_iff.mpr c4
      subst c4
      have H1 : (some (decide ((a0.size : Int) ≤ 12))) = some r := by rw [if_neg (show ¬ (false = true) by decide)] at H; exact H
      clear H
      have H := H1
      clear H1
      obtain rfl := Option.some.inj H
      go_wp2
      go_ret
      exact ⟨by first | rfl | (simp; done) | (simp [*]; done), by repeat (first | exact Drawn0.refl _ | apply Drawn0.step)⟩
mutual
def spec_l6Fits.l0 : Nat → ByteArray → ByteArray → List Bool → Int → Option (Bool)
 | 0, _, _, _, _ => none
 | k + 1, x0, x1, x5, x6 => if x6 < (x0.size : Int) then (if 0 ≤ (wrap64 ((x1.size : Int) + 1)) then (if (wrap64 ((x1.size : Int) + 1) : Int).toNat ≤ 281474976710656 then (spec_l6Fits.l1 k x0 x1 x5 x6 (List.replicate (wrap64 ((x1.size : Int) + 1) : Int).toNat false) 0) else (none)) else (none)) else (if 0 ≤ (x1.size : Int) then (if (x1.size : Int) < (x5.length : Int) then (some (rdOf false x5 (x1.size : Int))) else (none)) else (none))
def spec_l6Fits.l1 : Nat → ByteArray → ByteArray → List Bool → Int → List Bool → Int → Option (Bool)
 | 0, _, _, _, _, _, _ => none
 | k + 1, x0, x1, x5, x6, x7, x8 => if x8 ≤ (x1.size : Int) then (if 0 ≤ x6 then (if x6 < (x0.size : Int) then (if (bt x0 x6) = 42 then (if 0 ≤ x8 then (if x8 < (x5.length : Int) then (if rdOf false x5 x8 = true then (if x8 < (x7.length : Int) then (spec_l6Fits.l1 k x0 x1 x5 x6 (x7.set (x8 : Int).toNat true) (wrap64 (x8 + 1))) else (none)) else (if x8 > 0 then (if 0 ≤ (wrap64 (x8 - 1)) then (if (wrap64 (x8 - 1)) < (x7.length : Int) then (if x8 < (x7.length : Int) then (spec_l6Fits.l1 k x0 x1 x5 x6 (x7.set (x8 : Int).toNat (rdOf false x7 (wrap64 (x8 - 1)))) (wrap64 (x8 + 1))) else (none)) else (none)) else (none)) else (if x8 < (x7.length : Int) then (spec_l6Fits.l1 k x0 x1 x5 x6 (x7.set (x8 : Int).toNat false) (wrap64 (x8 + 1))) else (none)))) else (none)) else (none)) else (if x8 > 0 then (if 0 ≤ (wrap64 (x8 - 1)) then (if (wrap64 (x8 - 1)) < (x5.length : Int) then (if rdOf false x5 (wrap64 (x8 - 1)) = true then (if (bt x0 x6) = 63 then (if 0 ≤ x8 then (if x8 < (x7.length : Int) then (spec_l6Fits.l1 k x0 x1 x5 x6 (x7.set (x8 : Int).toNat true) (wrap64 (x8 + 1))) else (none)) else (none)) else (if (wrap64 (x8 - 1)) < (x1.size : Int) then (if 0 ≤ x8 then (if x8 < (x7.length : Int) then (spec_l6Fits.l1 k x0 x1 x5 x6 (x7.set (x8 : Int).toNat ((bt x0 x6) == (bt x1 (wrap64 (x8 - 1))))) (wrap64 (x8 + 1))) else (none)) else (none)) else (none))) else (if 0 ≤ x8 then (if x8 < (x7.length : Int) then (spec_l6Fits.l1 k x0 x1 x5 x6 (x7.set (x8 : Int).toNat false) (wrap64 (x8 + 1))) else (none)) else (none))) else (none)) else (none)) else (spec_l6Fits.l1 k x0 x1 x5 x6 x7 (wrap64 (x8 + 1))))) else (none)) else (none)) else (spec_l6Fits.l0 k x0 x1 x7 (wrap64 (x6 + 1)))
end
def spec_l6Fits.f (k : Nat) (a0 : ByteArray) (a1 : ByteArray) : Option (Bool) := if 0 ≤ (wrap64 ((a1.size : Int) + 1)) then (if (wrap64 ((a1.size : Int) + 1) : Int).toNat ≤ 281474976710656 then ((some (List.replicate (wrap64 ((a1.size : Int) + 1) : Int).toNat false : List Bool)).bind fun y107 => (if 0 < (y107.length : Int) then (spec_l6Fits.l0 k a0 a1 (y107.set (0 : Int).toNat true) 0) else (none))) else (none)) else (none)
theorem spec_l6Fits.mono_l : ∀ k, (∀ y0 y1 y2 y3, LeO (spec_l6Fits.l0 k y0 y1 y2 y3) (spec_l6Fits.l0 (k + 1) y0 y1 y2 y3)) ∧ (∀ y0 y1 y2 y3 y4 y5, LeO (spec_l6Fits.l1 k y0 y1 y2 y3 y4 y5) (spec_l6Fits.l1 (k + 1) y0 y1 y2 y3 y4 y5))
 | 0 => ⟨fun _ _ _ _ r h => by simp [spec_l6Fits.l0] at h, fun _ _ _ _ _ _ r h => by simp [spec_l6Fits.l1] at h⟩
 | k + 1 => by
  obtain ⟨ih0, ih1⟩ := spec_l6Fits.mono_l k
  refine ⟨?_, ?_⟩
  ·
   intro y0 y1 y2 y3
   unfold spec_l6Fits.l0
   repeat' first
   | (with_reducible exact ih0 _ _ _ _)
   | (with_reducible exact ih1 _ _ _ _ _ _)
   | (with_reducible exact LeO.refl _)
   | (with_reducible exact LeO.none _)
   | (with_reducible refine LeO.ite ?_ ?_)
   | (with_reducible refine LeO.bind ?_ (fun _ => ?_))
   | exact ih0 _ _ _ _
   | exact ih1 _ _ _ _ _ _
   | exact LeO.none _
   | refine LeO.ite ?_ ?_
   | refine LeO.bind ?_ (fun _ => ?_)
  ·
   intro y0 y1 y2 y3 y4 y5
   unfold spec_l6Fits.l1
   repeat' first
   | (with_reducible exact ih0 _ _ _ _)
   | (with_reducible exact ih1 _ _ _ _ _ _)
   | (with_reducible exact LeO.refl _)
   | (with_reducible exact LeO.none _)
   | (with_reducible refine LeO.ite ?_ ?_)
   | (with_reducible refine LeO.bind ?_ (fun _ => ?_))
   | exact ih0 _ _ _ _
   | exact ih1 _ _ _ _ _ _
   | exact LeO.none _
   | refine LeO.ite ?_ ?_
   | refine LeO.bind ?_ (fun _ => ?_)
theorem spec_l6Fits.mono : ∀ a0 a1 k, LeO (spec_l6Fits.f k a0 a1) (spec_l6Fits.f (k + 1) a0 a1) := by
 intro a0 a1 k
 obtain ⟨ih0, ih1⟩ := spec_l6Fits.mono_l k
 unfold spec_l6Fits.f
 repeat' first
   | (with_reducible exact ih0 _ _ _ _)
   | (with_reducible exact ih1 _ _ _ _ _ _)
   | (with_reducible exact LeO.refl _)
   | (with_reducible exact LeO.none _)
   | (with_reducible refine LeO.ite ?_ ?_)
   | (with_reducible refine LeO.bind ?_ (fun _ => ?_))
   | exact ih0 _ _ _ _
   | exact ih1 _ _ _ _ _ _
   | exact LeO.none _
   | refine LeO.ite ?_ ?_
   | refine LeO.bind ?_ (fun _ => ?_)
def spec_l6Fits.T13 : Bool × List (List Nat × List Nat) := (true, [([], []), ([], []), ([], []), ([], []), ([3], [3]), ([2, 4], [2, 4]), ([5], [5]), ([6], [6]), ([7], [7]), ([7], [7]), ([8, 9, 7], [7, 8, 9]), ([10, 7], [7, 10]), ([11, 7, 7], [7, 11]), ([12], [12]), ([12], [12]), ([13, 14, 12], [12, 13, 14]), ([12], [12]), ([12], [12]), ([17, 12], [12, 17]), ([16, 18, 12], [12, 16, 18]), ([15, 19, 12], [12, 15, 19]), ([12, 20, 7], [7, 12, 20]), ([7, 21], [7, 21]), ([0, 1, 0, 1, 2, 3, 4, 5, 6, 7, 8, 9, 10, 11, 12, 13, 14, 15, 16, 17, 18, 19, 20, 21, 22], [0, 1]), ([23, 22, 12, 0, 1, 2, 3, 4, 5, 6, 7, 8, 9, 10, 11, 12, 13, 14, 15, 16, 17, 18, 19, 20, 21, 22], [22, 23])])
def spec_l6Fits.B13 : List Nat := [0, 0, 0, 0, 8, 28, 60, 124, 252, 252, 1020, 2044, 4092, 8188, 8188, 32764, 8188, 8188, 139260, 466940, 1048572, 2097148, 4194300, 8388607, 16777215]
theorem spec_l6Fits.tab13 : rtab .any (opsOf Tryd.f12 13) = spec_l6Fits.T13 := by kernel_rfl
theorem spec_l6Fits.bits13 : waitsOk spec_l6Fits.T13.2 spec_l6Fits.B13 = true := by kernel_rfl
set_option maxHeartbeats 8000000 in
set_option maxRecDepth 100000 in
theorem spec_l6Fits.calls (k : Nat) (a0 : ByteArray) (a1 : ByteArray) (r : Bool) (w : World) (h : spec_l6Fits.f k a0 a1 = some r) :
  Calls Tryd.prog 12 #[.string a0, .string a1] w fun e w' => e = .returned (.bool r) ∧ Below w.heap.size w w' := by
 have HB := Aside0.mk (Below.refl w.heap.size w)
 have H : (if 0 ≤ (wrap64 ((a1.size : Int) + 1)) then (if (wrap64 ((a1.size : Int) + 1) : Int).toNat ≤ 281474976710656 then ((some (List.replicate (wrap64 ((a1.size : Int) + 1) : Int).toNat false : List Bool)).bind fun y107 => (if 0 < (y107.length : Int) then (spec_l6Fits.l0 k a0 a1 (y107.set (0 : Int).toNat true) 0) else (none))) else (none)) else (none)) = some r := h
 clear h
 obtain ⟨ji3, hji3⟩ : ∃ j_ : Int, (wrap64 ((a1.size : Int) + 1)) = j_ := ⟨_, rfl⟩
 replace H : (if 0 ≤ (ji3) then (if (ji3 : Int).toNat ≤ 281474976710656 then ((some (List.replicate (ji3 : Int).toNat false : List Bool)).bind fun y107 => (if 0 < (y107.length : Int) then (spec_l6Fits.l0 k a0 a1 (y107.set (0 : Int).toNat true) 0) else (none))) else (none)) else (none)) = some r := by first | (rw [hji3] at H; exact H) | (simp only [hji3] at H ⊢; exact H)
 have hji3w : (IntKind.i64.wrap ((a1.size : Int) + 1)) = ji3 := (i64_w _).trans hji3
 by_cases c4 : 0 ≤ (ji3)
 ·
  rw [if_pos c4] at H
  have c4b0 := eq_true c4
  have c4b1 : decide (0 ≤ (ji3)) = true := decide_eq_true c4
  clear c4
  by_cases c5 : (ji3 : Int).toNat ≤ 281474976710656
  ·
   rw [if_pos c5] at H
   have c5b0 := eq_true c5
   have c5b1 : decide ((ji3 : Int).toNat ≤ 281474976710656) = true := decide_eq_true c5
   clear c5
   obtain ⟨y107, hy107⟩ : ∃ y_ : List Bool, y_ = (List.replicate (ji3 : Int).toNat false) := ⟨_, rfl⟩
   replace H : (if 0 < (y107.length : Int) then (spec_l6Fits.l0 k a0 a1 (y107.set (0 : Int).toNat true) 0) else (none)) = some r := by first | (rw [hy107]; with_reducible exact H) | (have H2_ := (Option.bind_some _ _).symm.trans H; rw [hy107]; with_reducible exact H2_) | (have H2_ := (Option.bind_some _ _).symm.trans H; with_reducible exact H2_) | with_reducible exact H | (rw [hy107]; exact H) | exact H
   have Ny107 := Aside0.mk hy107
   clear hy107
   by_cases c6 : 0 < (y107.length : Int)
   ·
    rw [if_pos c6] at H
    have c6b0 : decide (0 < (y107.length : Int)) = true := decide_eq_true c6
    have c6b1 : decide (0 < y107.length) = true := decide_eq_true (by omega)
    clear c6
    obtain ⟨y110, hy110⟩ : ∃ y_ : List Bool, y_ = (y107.set (0 : Int).toNat true) := ⟨_, rfl⟩
    replace H : (spec_l6Fits.l0 k a0 a1 y110 0) = some r := by first | (rw [hy110]; with_reducible exact H) | (have H2_ := (Option.bind_some _ _).symm.trans H; rw [hy110]; with_reducible exact H2_) | (have H2_ := (Option.bind_some _ _).symm.trans H; with_reducible exact H2_) | with_reducible exact H | (rw [hy110]; exact H) | exact H
    have Ny110 := Aside0.mk hy110
    clear hy110
    have H' := Aside0.mk H
    clear H
    go_enter Tryd.func12, Tryd.ntmps12
    go_wp2_with (first | ((with_reducible refine gate_dst (N := 12) rfl ?_); refine Kd.R_make Kd.bool _ 4 rfl (N := 12) rfl 31 _ _ rfl ji3 rfl rfl Tryd.underlying31 (.bool false) 1 info4 rfl (by decide) (by omega) false (ok := fun _ => True) (okp := fun _ => True) rfl (fun _ hk => hk) trivial (of_decide_eq_true (by first | (with_reducible assumption) | assumption)) (Nat.le_trans (Nat.mul_le_mul_right _ (of_decide_eq_true (by first | (with_reducible assumption) | assumption) : ji3.toNat ≤ 281474976710656)) (by omega)) (Below.refl _ _) (Nat.le_refl _) ?_; intro v108 w8 ho9 hb hg_ hnew_; clear hg_ hnew_; (first | rw [← Ny107.out] at ho9 | (simp only [Int.reduceToNat] at ho9; rw [← Ny107.out] at ho9)); have n0_ := Aside0.mk (Kd.R_lower ho9 (below_size (by repeat (first | (with_reducible first | exact HB.out | apply below_alloc | apply pw_below_drewN | apply below_drew1) | exact HB.out)))); have n1_ := Aside0.mk (below_step (by repeat (first | (with_reducible first | exact HB.out | apply below_alloc | apply pw_below_drewN | apply below_drew1) | exact HB.out)) hb); clear HB; have HO109 := n0_; have HB := n1_; clear n0_ n1_; clear hb ho9; have p7 : 0 ≤ (0 : Int) := (by omega); have q7 : (0 : Int) < ((y107.length : Int) : Int) := of_decide_eq_true (by first | (with_reducible assumption) | assumption); have qi7 : (0 < y107.length) = True := eq_true (by omega); obtain ⟨go7, co7, eo7, gb7, gl7, cl7, HG7⟩ := Kd.R_form HO109.out (by omega); (first | cases eo7 | (injection eo7 with ea_ en_ ec_; (first | subst ea_ | (injection ea_ with ea_; subst ea_)); subst ec_; clear en_)); have GB7 := Aside0.mk gb7; have GG7 := Aside0.mk HG7; clear gb7 gl7 HG7; obtain ⟨hx7_0, hf7_0⟩ := Kd.R_celln false HO109.out (0 : Int) p7 q7; (try rw [show ((0 : Int)).toNat = 0 from rfl] at hx7_0); (try simp only [Nat.reduceMul, Nat.zero_mul, Nat.zero_add, Nat.reduceAdd] at hx7_0); (try rw [show ((0 : Int)).toNat = 0 from rfl] at hf7_0); (try simp only [Nat.reduceMul, Nat.zero_mul, Nat.zero_add, Nat.reduceAdd] at hf7_0); replace p7 := eq_true p7; replace q7 := eq_true q7; obtain ⟨hy10_, hz10_⟩ := Kd.R_celln false HO109.out (0 : Int) (by omega) (of_decide_eq_true (by first | (with_reducible assumption) | assumption)); (try simp only [Int.reduceToNat, Int.toNat_zero, Int.toNat_ofNat, Nat.reduceMul, Nat.zero_mul, Nat.zero_add] at hy10_ hz10_); (try rw [show ((0 : Int)).toNat = 0 from rfl] at hy10_); (try rw [show ((0 : Int)).toNat = 0 from rfl] at hz10_); have HP10 := Kd.R_putg HO109.out (0 : Int) true) | ((with_reducible refine gate_store (t := 4) (p := 14) rfl ?_); refine store_event (t := 4) (p := 14) (v := ?vo_w11) (w1 := (w8.setCell ⟨go7, (0 : Int).toNat, none⟩ (.bool true))) ?hg ?ho ?hn ?hr ?_; (case ho => rfl); (case hg => rfl); (case hn => rfl); (case hr => first | (go_simp; done) | (go_simp; rfl)); intro w11 hw; have hg : w8.grownBy w11 (some go7) := (by rw [hw]; exact HP10.2); have hp_ : Kd.R Kd.bool 4 w11 w.heap.size (fun _ => True) (.slice (some ⟨go7, 0, none⟩) y107.length co7) y110 := (by rw [hw, Ny110.out]; exact HP10.1); clear HP10; have n0_ := Aside0.mk (hp_); have n1_ := Aside0.mk ((by rw [hw]; exact below_set (HB.out) GB7.out : Below w.heap.size w w11)); clear HO109; clear HB; have HO109 := n0_; have HB := n1_; clear n0_ n1_; clear hg hw hp_))
    go_loopg [5, 6] k (fun kq v5 v6 w' => ∃ (x5_1 : List Bool) (x6_1 : Int), v6 = .int .i64 x6_1 ∧ Aside0 (spec_l6Fits.l0 kq a0 a1 x5_1 x6_1 = some r) ∧ Aside0 (kq ≤ k) ∧ Aside0 (Kd.R Kd.bool 4 w' w.heap.size (fun _ => True) v5 x5_1) ∧ Aside0 (Below w.heap.size w w'))
    case atStart => exact ⟨(y110), (0), (by first | rfl | (simp; done) | (simp [*]; done)), H', ⟨Nat.le_refl _⟩, ⟨by (with_reducible repeat (first | apply Kd.R_alloc | apply Kd.R_drewN | apply Kd.R_drew)); exact HO109.out⟩, ⟨by repeat (first | (with_reducible first | exact HB.out | apply below_alloc | apply pw_below_drewN | apply below_drew1) | exact HB.out)⟩⟩
    case round =>
     clear H'
     try clear c1
     try clear p2
     try clear c4
     try clear c4b0
     try clear c4b1
     try clear c5
     try clear c5b0
     try clear c5b1
     try clear c6
     try clear c6b0
     try clear c6b1
     try clear p6
     try clear p7
     try clear q7
     try clear hx7
     try clear qi7
     try clear hf7
     try clear hx7_0
     try clear p7
     try clear q7
     obtain ⟨x5_1, x6_1, rfl, HA, HK1, HO_5, HB⟩ := hrel
     cases gk with
     | zero => exact absurd HA.out (by simp [spec_l6Fits.l0])
     | succ k1 =>
      have H := HA.out
      clear HA
      simp only [spec_l6Fits.l0] at H
      by_cases c12 : x6_1 < (a0.size : Int)
      ·
       rw [if_pos c12] at H
       have c12b0 : decide (x6_1 < (a0.size : Int)) = true := decide_eq_true c12
       clear c12
       replace H : (if 0 ≤ (ji3) then (if (ji3 : Int).toNat ≤ 281474976710656 then (spec_l6Fits.l1 k1 a0 a1 x5_1 x6_1 (List.replicate (ji3 : Int).toNat false) 0) else (none)) else (none)) = some r := by first | (rw [hji3] at H; exact H) | (simp only [hji3] at H ⊢; exact H)
       have hji3w : (IntKind.i64.wrap ((a1.size : Int) + 1)) = ji3 := (i64_w _).trans hji3
       by_cases c14 : 0 ≤ (ji3)
       ·
        rw [if_pos c14] at H
        have c14b0 := eq_true c14
        have c14b1 : decide (0 ≤ (ji3)) = true := decide_eq_true c14
        clear c14
        by_cases c15 : (ji3 : Int).toNat ≤ 281474976710656
        ·
         rw [if_pos c15] at H
         have c15b0 := eq_true c15
         have c15b1 : decide ((ji3 : Int).toNat ≤ 281474976710656) = true := decide_eq_true c15
         clear c15
         obtain ⟨y112, hy112⟩ : ∃ y_ : List Bool, y_ = (List.replicate (ji3 : Int).toNat false) := ⟨_, rfl⟩
         replace H : (spec_l6Fits.l1 k1 a0 a1 x5_1 x6_1 y112 0) = some r := by first | (rw [hy112]; with_reducible exact H) | (have H2_ := (Option.bind_some _ _).symm.trans H; rw [hy112]; with_reducible exact H2_) | (have H2_ := (Option.bind_some _ _).symm.trans H; with_reducible exact H2_) | with_reducible exact H | (rw [hy112]; exact H) | exact H
         have Ny112 := Aside0.mk hy112
         clear hy112
         have H' := Aside0.mk H
         clear H
         go_wp2_with (first | ((with_reducible refine gate_dst (N := 24) rfl ?_); refine Kd.R_make Kd.bool _ 4 rfl (N := 24) rfl 31 _ _ rfl ji3 rfl rfl Tryd.underlying31 (.bool false) 1 info4 rfl (by decide) (by omega) false (ok := fun _ => True) (okp := fun _ => True) rfl (fun _ hk => hk) trivial (of_decide_eq_true (by first | (with_reducible assumption) | assumption)) (Nat.le_trans (Nat.mul_le_mul_right _ (of_decide_eq_true (by first | (with_reducible assumption) | assumption) : ji3.toNat ≤ 281474976710656)) (by omega)) (Below.refl _ _) (Nat.le_refl _) ?_; intro v113 w16 ho17 hb hg_ hnew_; clear hg_ hnew_; (first | rw [← Ny112.out] at ho17 | (simp only [Int.reduceToNat] at ho17; rw [← Ny112.out] at ho17)); have n0_ := Aside0.mk (Kd.R_elder' (by (with_reducible repeat (first | apply Kd.R_alloc | apply Kd.R_drewN | apply Kd.R_drew)); exact HO_5.out) (Kd.R_base ho17) hb); have n1_ := Aside0.mk (Kd.R_lower (Kd.R_new' ho17 (Kd.R_lt (by (with_reducible repeat (first | apply Kd.R_alloc | apply Kd.R_drewN | apply Kd.R_drew)); exact HO_5.out))) (below_size (by repeat (first | (with_reducible first | exact HB.out | apply below_alloc | apply pw_below_drewN | apply below_drew1) | exact HB.out)))); have n2_ := Aside0.mk (below_step (by repeat (first | (with_reducible first | exact HB.out | apply below_alloc | apply pw_below_drewN | apply below_drew1) | exact HB.out)) hb); clear HO_5; clear HB; have HO_5 := n0_; have HO114 := n1_; have HB := n2_; clear n0_ n1_ n2_; clear hb ho17))
         go_loopg [8] k1 (fun kq v8 w' => ∃ (x7_2 : List Bool) (x8_2 : Int), v8 = .int .i64 x8_2 ∧ Aside0 (spec_l6Fits.l1 kq a0 a1 x5_1 x6_1 x7_2 x8_2 = some r) ∧ Aside0 (kq ≤ k1) ∧ Aside0 (Kd.R Kd.bool 4 w' w.heap.size (fun k_ => some k_ ≠ (v113 : Value).ownBlock) u5 x5_1) ∧ Aside0 (Kd.R Kd.bool 4 w' w.heap.size (fun k_ => some k_ ≠ (u5 : Value).ownBlock) v113 x7_2) ∧ Aside0 (Below w.heap.size w w'))
         case atStart => exact ⟨(y112), (0), (by first | rfl | (simp; done) | (simp [*]; done)), H', ⟨Nat.le_refl _⟩, ⟨by (with_reducible repeat (first | apply Kd.R_alloc | apply Kd.R_drewN | apply Kd.R_drew)); exact Kd.R_mono HO_5.out (fun _ hk => hk.2)⟩, ⟨by (with_reducible repeat (first | apply Kd.R_alloc | apply Kd.R_drewN | apply Kd.R_drew)); exact Kd.R_mono HO114.out (fun _ hk => hk.2)⟩, ⟨by repeat (first | (with_reducible first | exact HB.out | apply below_alloc | apply pw_below_drewN | apply below_drew1) | exact HB.out)⟩⟩
         case round =>
          clear H'
          try clear c1
          try clear p2
          try clear c4
          try clear c4b0
          try clear c4b1
          try clear c5
          try clear c5b0
          try clear c5b1
          try clear c6
          try clear c6b0
          try clear c6b1
          try clear p6
          try clear p7
          try clear q7
          try clear hx7
          try clear qi7
          try clear hf7
          try clear c12
          try clear c12b0
          try clear c14
          try clear c14b0
          try clear c14b1
          try clear c15
          try clear c15b0
          try clear c15b1
          try clear hx7_0
          try clear p2
          try clear p6
          try clear p7
          try clear q7
          obtain ⟨x7_2, x8_2, rfl, HA, HK2, HO_5, HO_7, HB⟩ := hrel
          cases gk with
          | zero => exact absurd HA.out (by simp [spec_l6Fits.l1])
          | succ k2 =>
           have H := HA.out
           clear HA
           simp only [spec_l6Fits.l1] at H
           by_cases c18 : x8_2 ≤ (a1.size : Int)
           ·
            rw [if_pos c18] at H
            have c18b0 : decide (x8_2 ≤ (a1.size : Int)) = true := decide_eq_true c18
            clear c18
            by_cases c19 : 0 ≤ x6_1
            ·
             rw [if_pos c19] at H
             have c19b0 : decide (0 ≤ x6_1) = true := decide_eq_true c19
             clear c19
             by_cases c20 : x6_1 < (a0.size : Int)
             ·
              rw [if_pos c20] at H
              have c20b0 : decide (x6_1 < (a0.size : Int)) = true := decide_eq_true c20
              clear c20
              by_cases c22 : (bt a0 x6_1) = 42
              ·
               rw [if_pos c22] at H
               have c22b0 : ((bt a0 x6_1) == 42) = true := beq_iff_eq.mpr c22
               have c22b1 : ((bt a0 x6_1) != 42) = false := bne_eq_false_iff_eq.mpr c22
               clear c22
               by_cases c23 : 0 ≤ x8_2
               ·
                rw [if_pos c23] at H
                have c23b0 : decide (0 ≤ x8_2) = true := decide_eq_true c23
                clear c23
                by_cases c24 : x8_2 < (x5_1.length : Int)
                ·
                 rw [if_pos c24] at H
                 have c24b0 : decide (x8_2 < (x5_1.length : Int)) = true := decide_eq_true c24
                 clear c24
                 obtain ⟨bq25, hbq25⟩ : ∃ b_ : Bool, b_ = (rdOf false x5_1 x8_2) := ⟨_, rfl⟩
                 replace H : (if bq25 = true then (if x8_2 < (x7_2.length : Int) then (spec_l6Fits.l1 k2 a0 a1 x5_1 x6_1 (x7_2.set (x8_2 : Int).toNat true) (wrap64 (x8_2 + 1))) else (none)) else (if x8_2 > 0 then (if 0 ≤ (wrap64 (x8_2 - 1)) then (if (wrap64 (x8_2 - 1)) < (x7_2.length : Int) then (if x8_2 < (x7_2.length : Int) then (spec_l6Fits.l1 k2 a0 a1 x5_1 x6_1 (x7_2.set (x8_2 : Int).toNat (rdOf false x7_2 (wrap64 (x8_2 - 1)))) (wrap64 (x8_2 + 1))) else (none)) else (none)) else (none)) else (if x8_2 < (x7_2.length : Int) then (spec_l6Fits.l1 k2 a0 a1 x5_1 x6_1 (x7_2.set (x8_2 : Int).toNat false) (wrap64 (x8_2 + 1))) else (none)))) = some r := by rw [← hbq25] at H; exact H
                 have Nbq25 := Aside0.mk hbq25
                 clear hbq25
                 by_cases c26 : bq25 = true
                 ·
                  subst c26
                  have H1 : (if x8_2 < (x7_2.length : Int) then (spec_l6Fits.l1 k2 a0 a1 x5_1 x6_1 (x7_2.set (x8_2 : Int).toNat true) (wrap64 (x8_2 + 1))) else (none)) = some r := by rw [if_pos rfl] at H; exact H
                  clear H
                  have H := H1
                  clear H1
                  by_cases c27 : x8_2 < (x7_2.length : Int)
                  ·
                   rw [if_pos c27] at H
                   have c27b0 : decide (x8_2 < (x7_2.length : Int)) = true := decide_eq_true c27
                   clear c27
                   obtain ⟨y116, hy116⟩ : ∃ y_ : List Bool, y_ = (x7_2.set (x8_2 : Int).toNat true) := ⟨_, rfl⟩
                   replace H : (spec_l6Fits.l1 k2 a0 a1 x5_1 x6_1 y116 (wrap64 (x8_2 + 1))) = some r := by first | (rw [hy116]; with_reducible exact H) | (have H2_ := (Option.bind_some _ _).symm.trans H; rw [hy116]; with_reducible exact H2_) | (have H2_ := (Option.bind_some _ _).symm.trans H; with_reducible exact H2_) | with_reducible exact H | (rw [hy116]; exact H) | exact H
                   have Ny116 := Aside0.mk hy116
                   clear hy116
                   have H' := Aside0.mk H
                   clear H
                   have p21 : 0 ≤ (x6_1 : Int) := of_decide_eq_true (by first | (with_reducible assumption) | assumption)
                   have q21 : x6_1 < (a0.size : Int) := of_decide_eq_true (by first | (with_reducible assumption) | assumption)
                   have hx21 := bt_at a0 x6_1
                   replace p21 := eq_true p21
                   replace q21 := eq_true q21
                   obtain ⟨Ao29, co29, eo29⟩ := Kd.R_slice HO_5.out
                   subst eo29
                   have p115 : 0 ≤ (x8_2 : Int) := of_decide_eq_true (by first | (with_reducible assumption) | assumption)
                   have q115 : x8_2 < (x5_1.length : Int) := of_decide_eq_true (by first | (with_reducible assumption) | assumption)
                   obtain ⟨ad115, e115, hx115_0⟩ := Kd.at_bool (Kd.R_reads' HO_5.out).2.2 x8_2 p115 q115
                   (try rw [← Nbq25.out] at hx115_0)
                   cases e115
                   replace p115 := eq_true p115
                   replace q115 := eq_true q115
                   have p28 : 0 ≤ (x8_2 : Int) := of_decide_eq_true (by first | (with_reducible assumption) | assumption)
                   have q28 : (x8_2 : Int) < ((x7_2.length : Int) : Int) := of_decide_eq_true (by first | (with_reducible assumption) | assumption)
                   obtain ⟨go28, co28, eo28, gb28, gl28, cl28, HG28⟩ := Kd.R_form HO_7.out (by omega)
                   (first | cases eo28 | (injection eo28 with ea_ en_ ec_; (first | subst ea_ | (injection ea_ with ea_; subst ea_)); subst ec_; clear en_))
                   have GB28 := Aside0.mk gb28
                   have GG28 := Aside0.mk HG28
                   clear gb28 gl28 HG28
                   obtain ⟨hx28_0, hf28_0⟩ := Kd.R_celln false HO_7.out (x8_2 : Int) p28 q28
                   (try simp only [Int.toNat_natCast] at hx28_0 hf28_0)
                   replace p28 := eq_true p28
                   replace q28 := eq_true q28
                   have HP30 := Kd.R_putg HO_7.out (x8_2 : Int) true
                   go_wp2_with (first | ((with_reducible refine gate_store (t := 4) (p := 53) rfl ?_); refine store_event (t := 4) (p := 53) (v := ?vo_w31) (w1 := (wr.setCell ⟨go28, (x8_2 : Int).toNat, none⟩ (.bool true))) ?hg ?ho ?hn ?hr ?_; (case ho => rfl); (case hg => rfl); (case hn => rfl); (case hr => first | (go_simp; done) | (go_simp; rfl)); intro w31 hw; have hg : wr.grownBy w31 (some go28) := (by rw [hw]; exact HP30.2); have hp_ : Kd.R Kd.bool 4 w31 w.heap.size (fun k_ => some k_ ≠ (.slice (some ad115) x5_1.length co29 : Value).ownBlock) (.slice (some ⟨go28, 0, none⟩) x7_2.length co28) y116 := (by rw [hw, Ny116.out]; exact HP30.1); clear HP30; have n0_ := Aside0.mk (Kd.R_after (v := (.slice (some ⟨go28, 0, none⟩) x7_2.length co28)) (v1 := (.slice (some ⟨go28, 0, none⟩) x7_2.length co28)) (ok := (fun _ => True)) (by (with_reducible repeat (first | apply Kd.R_alloc | apply Kd.R_drewN | apply Kd.R_drew)); exact Kd.R_mono HO_5.out (fun _ hk => ⟨trivial, hk⟩)) hg (.inl rfl)); have n1_ := Aside0.mk (hp_); have n2_ := Aside0.mk ((by rw [hw]; exact below_set (HB.out) GB28.out : Below w.heap.size w w31)); clear HO_5; clear HO_7; clear HB; have HO_5 := n0_; have HO_7 := n1_; have HB := n2_; clear n0_ n1_ n2_; clear hg hw hp_))
                   go_roundg k2
                   case measure => have := HK1.out; have := HK2.out; omega
                   case rel => exact ⟨(y116), (wrap64 (x8_2 + 1)), (by first | rfl | (simp; done) | (simp [*]; done)), H', ⟨by have := HK1.out; have := HK2.out; omega⟩, ⟨by (with_reducible repeat (first | apply Kd.R_alloc | apply Kd.R_drewN | apply Kd.R_drew)); exact Kd.R_mono HO_5.out (fun _ hk => hk.2)⟩, ⟨by (with_reducible repeat (first | apply Kd.R_alloc | apply Kd.R_drewN | apply Kd.R_drew)); exact HO_7.out⟩, ⟨by repeat (first | (with_reducible first | exact HB.out | apply below_alloc | apply pw_below_drewN | apply below_drew1) | exact HB.out)⟩⟩
                  ·
                   rw [if_neg c27] at H
                   exact absurd H (by simp)
                 ·
                  replace c26 := Bool.eq_false_iff.mpr c26
                  subst c26
                  have H1 : (if x8_2 > 0 then (if 0 ≤ (wrap64 (x8_2 - 1)) then (if (wrap64 (x8_2 - 1)) < (x7_2.length : Int) then (if x8_2 < (x7_2.length : Int) then (spec_l6Fits.l1 k2 a0 a1 x5_1 x6_1 (x7_2.set (x8_2 : Int).toNat (rdOf false x7_2 (wrap64 (x8_2 - 1)))) (wrap64 (x8_2 + 1))) else (none)) else (none)) else (none)) else (if x8_2 < (x7_2.length : Int) then (spec_l6Fits.l1 k2 a0 a1 x5_1 x6_1 (x7_2.set (x8_2 : Int).toNat false) (wrap64 (x8_2 + 1))) else (none))) = some r := by rw [if_neg (show ¬ (false = true) by decide)] at H; exact H
                  clear H
                  have H := H1
                  clear H1
                  by_cases c32 : x8_2 > 0
                  ·
                   rw [if_pos c32] at H
                   have c32b0 : decide (0 < x8_2) = true := decide_eq_true c32
                   clear c32
                   obtain ⟨ji33, hji33⟩ : ∃ j_ : Int, (wrap64 (x8_2 - 1)) = j_ := ⟨_, rfl⟩
                   replace H : (if 0 ≤ (ji33) then (if (ji33) < (x7_2.length : Int) then (if x8_2 < (x7_2.length : Int) then (spec_l6Fits.l1 k2 a0 a1 x5_1 x6_1 (x7_2.set (x8_2 : Int).toNat (rdOf false x7_2 (ji33))) (wrap64 (x8_2 + 1))) else (none)) else (none)) else (none)) = some r := by first | (rw [hji33] at H; exact H) | (simp only [hji33] at H ⊢; exact H)
                   have hji33w : (IntKind.i64.wrap (x8_2 - 1)) = ji33 := (i64_w _).trans hji33
                   by_cases c34 : 0 ≤ (ji33)
                   ·
                    rw [if_pos c34] at H
                    have c34b0 : decide (0 ≤ (ji33)) = true := decide_eq_true c34
                    clear c34
                    by_cases c35 : (ji33) < (x7_2.length : Int)
                    ·
                     rw [if_pos c35] at H
                     have c35b0 : decide ((ji33) < (x7_2.length : Int)) = true := decide_eq_true c35
                     clear c35
                     by_cases c36 : x8_2 < (x7_2.length : Int)
                     ·
                      rw [if_pos c36] at H
                      have c36b0 : decide (x8_2 < (x7_2.length : Int)) = true := decide_eq_true c36
                      clear c36
                      obtain ⟨y118, hy118⟩ : ∃ y_ : List Bool, y_ = (x7_2.set (x8_2 : Int).toNat (rdOf false x7_2 (ji33))) := ⟨_, rfl⟩
                      replace H : (spec_l6Fits.l1 k2 a0 a1 x5_1 x6_1 y118 (wrap64 (x8_2 + 1))) = some r := by first | (rw [hy118]; with_reducible exact H) | (have H2_ := (Option.bind_some _ _).symm.trans H; rw [hy118]; with_reducible exact H2_) | (have H2_ := (Option.bind_some _ _).symm.trans H; with_reducible exact H2_) | with_reducible exact H | (rw [hy118]; exact H) | exact H
                      have Ny118 := Aside0.mk hy118
                      clear hy118
                      have H' := Aside0.mk H
                      clear H
                      have p21 : 0 ≤ (x6_1 : Int) := of_decide_eq_true (by first | (with_reducible assumption) | assumption)
                      have q21 : x6_1 < (a0.size : Int) := of_decide_eq_true (by first | (with_reducible assumption) | assumption)
                      have hx21 := bt_at a0 x6_1
                      replace p21 := eq_true p21
                      replace q21 := eq_true q21
                      obtain ⟨Ao38, co38, eo38⟩ := Kd.R_slice HO_5.out
                      subst eo38
                      have p115 : 0 ≤ (x8_2 : Int) := of_decide_eq_true (by first | (with_reducible assumption) | assumption)
                      have q115 : x8_2 < (x5_1.length : Int) := of_decide_eq_true (by first | (with_reducible assumption) | assumption)
                      obtain ⟨ad115, e115, hx115_0⟩ := Kd.at_bool (Kd.R_reads' HO_5.out).2.2 x8_2 p115 q115
                      (try rw [← Nbq25.out] at hx115_0)
                      cases e115
                      replace p115 := eq_true p115
                      replace q115 := eq_true q115
                      obtain ⟨Ao39, co39, eo39⟩ := Kd.R_slice HO_7.out
                      subst eo39
                      have p117 : 0 ≤ ((ji33) : Int) := of_decide_eq_true (by first | (with_reducible assumption) | assumption)
                      have q117 : (ji33) < (x7_2.length : Int) := of_decide_eq_true (by first | (with_reducible assumption) | assumption)
                      obtain ⟨ad117, e117, hx117_0⟩ := Kd.at_bool (Kd.R_reads' HO_7.out).2.2 (ji33) p117 q117
                      (try rw [← Nbq25.out] at hx117_0)
                      cases e117
                      replace p117 := eq_true p117
                      replace q117 := eq_true q117
                      have p37 : 0 ≤ (x8_2 : Int) := of_decide_eq_true (by first | (with_reducible assumption) | assumption)
                      have q37 : (x8_2 : Int) < ((x7_2.length : Int) : Int) := of_decide_eq_true (by first | (with_reducible assumption) | assumption)
                      obtain ⟨go37, co37, eo37, gb37, gl37, cl37, HG37⟩ := Kd.R_form HO_7.out (by omega)
                      (first | cases eo37 | (injection eo37 with ea_ en_ ec_; (first | subst ea_ | (injection ea_ with ea_; subst ea_)); subst ec_; clear en_))
                      have GB37 := Aside0.mk gb37
                      have GG37 := Aside0.mk HG37
                      clear gb37 gl37 HG37
                      (first | simp only [add_plain] at hx117_0 | skip)
                      (try simp only [Int.toNat_natCast] at hx117_0)
                      obtain ⟨hx37_0, hf37_0⟩ := Kd.R_celln false HO_7.out (x8_2 : Int) p37 q37
                      (try simp only [Int.toNat_natCast] at hx37_0 hf37_0)
                      replace p37 := eq_true p37
                      replace q37 := eq_true q37
                      have HP40 := Kd.R_putg HO_7.out (x8_2 : Int) (rdOf false x7_2 (ji33))
                      go_wp2_with (first | ((with_reducible refine gate_store (t := 4) (p := 53) rfl ?_); refine store_event (t := 4) (p := 53) (v := ?vo_w41) (w1 := (wr.setCell ⟨go37, (x8_2 : Int).toNat, none⟩ (.bool (rdOf false x7_2 (ji33))))) ?hg ?ho ?hn ?hr ?_; (case ho => rfl); (case hg => rfl); (case hn => rfl); (case hr => first | (go_simp; done) | (go_simp; rfl)); intro w41 hw; have hg : wr.grownBy w41 (some go37) := (by rw [hw]; exact HP40.2); have hp_ : Kd.R Kd.bool 4 w41 w.heap.size (fun k_ => some k_ ≠ (.slice (some ad115) x5_1.length co38 : Value).ownBlock) (.slice (some ⟨go37, 0, none⟩) x7_2.length co39) y118 := (by rw [hw, Ny118.out]; exact HP40.1); clear HP40; have n0_ := Aside0.mk (Kd.R_after (v := (.slice (some ⟨go37, 0, none⟩) x7_2.length co39)) (v1 := (.slice (some ⟨go37, 0, none⟩) x7_2.length co39)) (ok := (fun _ => True)) (by (with_reducible repeat (first | apply Kd.R_alloc | apply Kd.R_drewN | apply Kd.R_drew)); exact Kd.R_mono HO_5.out (fun _ hk => ⟨trivial, hk⟩)) hg (.inl rfl)); have n1_ := Aside0.mk (hp_); have n2_ := Aside0.mk ((by rw [hw]; exact below_set (HB.out) GB37.out : Below w.heap.size w w41)); clear HO_5; clear HO_7; clear HB; have HO_5 := n0_; have HO_7 := n1_; have HB := n2_; clear n0_ n1_ n2_; clear hg hw hp_))
                      go_roundg k2
                      case measure => have := HK1.out; have := HK2.out; omega
                      case rel => exact ⟨(y118), (wrap64 (x8_2 + 1)), (by first | rfl | (simp; done) | (simp [*]; done)), H', ⟨by have := HK1.out; have := HK2.out; omega⟩, ⟨by (with_reducible repeat (first | apply Kd.R_alloc | apply Kd.R_drewN | apply Kd.R_drew)); exact Kd.R_mono HO_5.out (fun _ hk => hk.2)⟩, ⟨by (with_reducible repeat (first | apply Kd.R_alloc | apply Kd.R_drewN | apply Kd.R_drew)); exact HO_7.out⟩, ⟨by repeat (first | (with_reducible first | exact HB.out | apply below_alloc | apply pw_below_drewN | apply below_drew1) | exact HB.out)⟩⟩
                     ·
                      rw [if_neg c36] at H
                      exact absurd H (by simp)
                    ·
                     rw [if_neg c35] at H
                     exact absurd H (by simp)
                   ·
                    rw [if_neg c34] at H
                    exact absurd H (by simp)
                  ·
                   rw [if_neg c32] at H
                   have c32b0 : decide (0 < x8_2) = false := decide_eq_false c32
                   clear c32
                   by_cases c42 : x8_2 < (x7_2.length : Int)
                   ·
                    rw [if_pos c42] at H
                    have c42b0 : decide (x8_2 < (x7_2.length : Int)) = true := decide_eq_true c42
                    clear c42
                    obtain ⟨y119, hy119⟩ : ∃ y_ : List Bool, y_ = (x7_2.set (x8_2 : Int).toNat false) := ⟨_, rfl⟩
                    replace H : (spec_l6Fits.l1 k2 a0 a1 x5_1 x6_1 y119 (wrap64 (x8_2 + 1))) = some r := by first | (rw [hy119]; with_reducible exact H) | (have H2_ := (Option.bind_some _ _).symm.trans H; rw [hy119]; with_reducible exact H2_) | (have H2_ := (Option.bind_some _ _).symm.trans H; with_reducible exact H2_) | with_reducible exact H | (rw [hy119]; exact H) | exact H
                    have Ny119 := Aside0.mk hy119
                    clear hy119
                    have H' := Aside0.mk H
                    clear H
                    have p21 : 0 ≤ (x6_1 : Int) := of_decide_eq_true (by first | (with_reducible assumption) | assumption)
                    have q21 : x6_1 < (a0.size : Int) := of_decide_eq_true (by first | (with_reducible assumption) | assumption)
                    have hx21 := bt_at a0 x6_1
                    replace p21 := eq_true p21
                    replace q21 := eq_true q21
                    obtain ⟨Ao44, co44, eo44⟩ := Kd.R_slice HO_5.out
                    subst eo44
                    have p115 : 0 ≤ (x8_2 : Int) := of_decide_eq_true (by first | (with_reducible assumption) | assumption)
                    have q115 : x8_2 < (x5_1.length : Int) := of_decide_eq_true (by first | (with_reducible assumption) | assumption)
                    obtain ⟨ad115, e115, hx115_0⟩ := Kd.at_bool (Kd.R_reads' HO_5.out).2.2 x8_2 p115 q115
                    (try rw [← Nbq25.out] at hx115_0)
                    cases e115
                    replace p115 := eq_true p115
                    replace q115 := eq_true q115
                    have p43 : 0 ≤ (x8_2 : Int) := of_decide_eq_true (by first | (with_reducible assumption) | assumption)
                    have q43 : (x8_2 : Int) < ((x7_2.length : Int) : Int) := of_decide_eq_true (by first | (with_reducible assumption) | assumption)
                    obtain ⟨go43, co43, eo43, gb43, gl43, cl43, HG43⟩ := Kd.R_form HO_7.out (by omega)
                    (first | cases eo43 | (injection eo43 with ea_ en_ ec_; (first | subst ea_ | (injection ea_ with ea_; subst ea_)); subst ec_; clear en_))
                    have GB43 := Aside0.mk gb43
                    have GG43 := Aside0.mk HG43
                    clear gb43 gl43 HG43
                    obtain ⟨hx43_0, hf43_0⟩ := Kd.R_celln false HO_7.out (x8_2 : Int) p43 q43
                    (try simp only [Int.toNat_natCast] at hx43_0 hf43_0)
                    replace p43 := eq_true p43
                    replace q43 := eq_true q43
                    have HP45 := Kd.R_putg HO_7.out (x8_2 : Int) false
                    go_wp2_with (first | ((with_reducible refine gate_store (t := 4) (p := 53) rfl ?_); refine store_event (t := 4) (p := 53) (v := ?vo_w46) (w1 := (wr.setCell ⟨go43, (x8_2 : Int).toNat, none⟩ (.bool false))) ?hg ?ho ?hn ?hr ?_; (case ho => rfl); (case hg => rfl); (case hn => rfl); (case hr => first | (go_simp; done) | (go_simp; rfl)); intro w46 hw; have hg : wr.grownBy w46 (some go43) := (by rw [hw]; exact HP45.2); have hp_ : Kd.R Kd.bool 4 w46 w.heap.size (fun k_ => some k_ ≠ (.slice (some ad115) x5_1.length co44 : Value).ownBlock) (.slice (some ⟨go43, 0, none⟩) x7_2.length co43) y119 := (by rw [hw, Ny119.out]; exact HP45.1); clear HP45; have n0_ := Aside0.mk (Kd.R_after (v := (.slice (some ⟨go43, 0, none⟩) x7_2.length co43)) (v1 := (.slice (some ⟨go43, 0, none⟩) x7_2.length co43)) (ok := (fun _ => True)) (by (with_reducible repeat (first | apply Kd.R_alloc | apply Kd.R_drewN | apply Kd.R_drew)); exact Kd.R_mono HO_5.out (fun _ hk => ⟨trivial, hk⟩)) hg (.inl rfl)); have n1_ := Aside0.mk (hp_); have n2_ := Aside0.mk ((by rw [hw]; exact below_set (HB.out) GB43.out : Below w.heap.size w w46)); clear HO_5; clear HO_7; clear HB; have HO_5 := n0_; have HO_7 := n1_; have HB := n2_; clear n0_ n1_ n2_; clear hg hw hp_))
                    go_roundg k2
                    case measure => have := HK1.out; have := HK2.out; omega
                    case rel => exact ⟨(y119), (wrap64 (x8_2 + 1)), (by first | rfl | (simp; done) | (simp [*]; done)), H', ⟨by have := HK1.out; have := HK2.out; omega⟩, ⟨by (with_reducible repeat (first | apply Kd.R_alloc | apply Kd.R_drewN | apply Kd.R_drew)); exact Kd.R_mono HO_5.out (fun _ hk => hk.2)⟩, ⟨by (with_reducible repeat (first | apply Kd.R_alloc | apply Kd.R_drewN | apply Kd.R_drew)); exact HO_7.out⟩, ⟨by repeat (first | (with_reducible first | exact HB.out | apply below_alloc | apply pw_below_drewN | apply below_drew1) | exact HB.out)⟩⟩
                   ·
                    rw [if_neg c42] at H
                    exact absurd H (by simp)
                ·
                 rw [if_neg c24] at H
                 exact absurd H (by simp)
               ·
                rw [if_neg c23] at H
                exact absurd H (by simp)
              ·
               rw [if_neg c22] at H
               have c22b0 : ((bt a0 x6_1) == 42) = false := beq_eq_false_iff_ne.mpr c22
               have c22b1 : ((bt a0 x6_1) != 42) = true := bne_iff_ne.mpr c22
               by_cases c47 : x8_2 > 0
               ·
                rw [if_pos c47] at H
                have c47b0 : decide (0 < x8_2) = true := decide_eq_true c47
                clear c47
                obtain ⟨ji48, hji48⟩ : ∃ j_ : Int, (wrap64 (x8_2 - 1)) = j_ := ⟨_, rfl⟩
                replace H : (if 0 ≤ (ji48) then (if (ji48) < (x5_1.length : Int) then (if rdOf false x5_1 (ji48) = true then (if (bt a0 x6_1) = 63 then (if 0 ≤ x8_2 then (if x8_2 < (x7_2.length : Int) then (spec_l6Fits.l1 k2 a0 a1 x5_1 x6_1 (x7_2.set (x8_2 : Int).toNat true) (wrap64 (x8_2 + 1))) else (none)) else (none)) else (if (ji48) < (a1.size : Int) then (if 0 ≤ x8_2 then (if x8_2 < (x7_2.length : Int) then (spec_l6Fits.l1 k2 a0 a1 x5_1 x6_1 (x7_2.set (x8_2 : Int).toNat ((bt a0 x6_1) == (bt a1 (ji48)))) (wrap64 (x8_2 + 1))) else (none)) else (none)) else (none))) else (if 0 ≤ x8_2 then (if x8_2 < (x7_2.length : Int) then (spec_l6Fits.l1 k2 a0 a1 x5_1 x6_1 (x7_2.set (x8_2 : Int).toNat false) (wrap64 (x8_2 + 1))) else (none)) else (none))) else (none)) else (none)) = some r := by first | (rw [hji48] at H; exact H) | (simp only [hji48] at H ⊢; exact H)
                have hji48w : (IntKind.i64.wrap (x8_2 - 1)) = ji48 := (i64_w _).trans hji48
                by_cases c49 : 0 ≤ (ji48)
                ·
                 rw [if_pos c49] at H
                 have c49b0 : decide (0 ≤ (ji48)) = true := decide_eq_true c49
                 clear c49
                 by_cases c50 : (ji48) < (x5_1.length : Int)
                 ·
                  rw [if_pos c50] at H
                  have c50b0 : decide ((ji48) < (x5_1.length : Int)) = true := decide_eq_true c50
                  clear c50
                  obtain ⟨bq51, hbq51⟩ : ∃ b_ : Bool, b_ = (rdOf false x5_1 (ji48)) := ⟨_, rfl⟩
                  replace H : (if bq51 = true then (if (bt a0 x6_1) = 63 then (if 0 ≤ x8_2 then (if x8_2 < (x7_2.length : Int) then (spec_l6Fits.l1 k2 a0 a1 x5_1 x6_1 (x7_2.set (x8_2 : Int).toNat true) (wrap64 (x8_2 + 1))) else (none)) else (none)) else (if (ji48) < (a1.size : Int) then (if 0 ≤ x8_2 then (if x8_2 < (x7_2.length : Int) then (spec_l6Fits.l1 k2 a0 a1 x5_1 x6_1 (x7_2.set (x8_2 : Int).toNat ((bt a0 x6_1) == (bt a1 (ji48)))) (wrap64 (x8_2 + 1))) else (none)) else (none)) else (none))) else (if 0 ≤ x8_2 then (if x8_2 < (x7_2.length : Int) then (spec_l6Fits.l1 k2 a0 a1 x5_1 x6_1 (x7_2.set (x8_2 : Int).toNat false) (wrap64 (x8_2 + 1))) else (none)) else (none))) = some r := by rw [← hbq51] at H; exact H
                  have Nbq51 := Aside0.mk hbq51
                  clear hbq51
                  by_cases c52 : bq51 = true
                  ·
                   subst c52
                   have H1 : (if (bt a0 x6_1) = 63 then (if 0 ≤ x8_2 then (if x8_2 < (x7_2.length : Int) then (spec_l6Fits.l1 k2 a0 a1 x5_1 x6_1 (x7_2.set (x8_2 : Int).toNat true) (wrap64 (x8_2 + 1))) else (none)) else (none)) else (if (ji48) < (a1.size : Int) then (if 0 ≤ x8_2 then (if x8_2 < (x7_2.length : Int) then (spec_l6Fits.l1 k2 a0 a1 x5_1 x6_1 (x7_2.set (x8_2 : Int).toNat ((bt a0 x6_1) == (bt a1 (ji48)))) (wrap64 (x8_2 + 1))) else (none)) else (none)) else (none))) = some r := by rw [if_pos rfl] at H; exact H
                   clear H
                   have H := H1
                   clear H1
                   by_cases c54 : (bt a0 x6_1) = 63
                   ·
                    rw [if_pos c54] at H
                    have c54b0 : ((bt a0 x6_1) == 63) = true := beq_iff_eq.mpr c54
                    have c54b1 : ((bt a0 x6_1) != 63) = false := bne_eq_false_iff_eq.mpr c54
                    clear c54
                    by_cases c55 : 0 ≤ x8_2
                    ·
                     rw [if_pos c55] at H
                     have c55b0 : decide (0 ≤ x8_2) = true := decide_eq_true c55
                     clear c55
                     by_cases c56 : x8_2 < (x7_2.length : Int)
                     ·
                      rw [if_pos c56] at H
                      have c56b0 : decide (x8_2 < (x7_2.length : Int)) = true := decide_eq_true c56
                      clear c56
                      obtain ⟨y121, hy121⟩ : ∃ y_ : List Bool, y_ = (x7_2.set (x8_2 : Int).toNat true) := ⟨_, rfl⟩
                      replace H : (spec_l6Fits.l1 k2 a0 a1 x5_1 x6_1 y121 (wrap64 (x8_2 + 1))) = some r := by first | (rw [hy121]; with_reducible exact H) | (have H2_ := (Option.bind_some _ _).symm.trans H; rw [hy121]; with_reducible exact H2_) | (have H2_ := (Option.bind_some _ _).symm.trans H; with_reducible exact H2_) | with_reducible exact H | (rw [hy121]; exact H) | exact H
                      have Ny121 := Aside0.mk hy121
                      clear hy121
                      have H' := Aside0.mk H
                      clear H
                      have p21 : 0 ≤ (x6_1 : Int) := of_decide_eq_true (by first | (with_reducible assumption) | assumption)
                      have q21 : x6_1 < (a0.size : Int) := of_decide_eq_true (by first | (with_reducible assumption) | assumption)
                      have hx21 := bt_at a0 x6_1
                      replace p21 := eq_true p21
                      replace q21 := eq_true q21
                      try go_wp2
                      have n0_ := Aside0.mk (Kd.R_drew HO_5.out)
                      have n1_ := Aside0.mk (Kd.R_drew HO_7.out)
                      have n2_ := Aside0.mk (below_drew1 HB.out)
                      clear HO_5
                      clear HO_7
                      clear HB
                      have HO_5 := n0_
                      have HO_7 := n1_
                      have HB := n2_
                      clear n0_ n1_ n2_
                      obtain ⟨Ao59, co59, eo59⟩ := Kd.R_slice HO_5.out
                      (first | subst eo59 | (injection eo59 with f1_ f2_ f3_; have f4_ := f1_.symm; have f5_ := f3_.symm; clear f1_ f2_ f3_; subst f4_; subst f5_))
                      have p120 : 0 ≤ ((ji48) : Int) := of_decide_eq_true (by first | (with_reducible assumption) | assumption)
                      have q120 : (ji48) < (x5_1.length : Int) := of_decide_eq_true (by first | (with_reducible assumption) | assumption)
                      obtain ⟨ad120, e120, hx120_0⟩ := Kd.at_bool (Kd.R_reads' HO_5.out).2.2 (ji48) p120 q120
                      (try rw [← Nbq51.out] at hx120_0)
                      cases e120
                      replace p120 := eq_true p120
                      replace q120 := eq_true q120
                      have p53 : 0 ≤ (x6_1 : Int) := of_decide_eq_true (by first | (with_reducible assumption) | assumption)
                      have q53 : x6_1 < (a0.size : Int) := of_decide_eq_true (by first | (with_reducible assumption) | assumption)
                      have hx53 := bt_at a0 x6_1
                      replace p53 := eq_true p53
                      replace q53 := eq_true q53
                      have p57 : 0 ≤ (x8_2 : Int) := of_decide_eq_true (by first | (with_reducible assumption) | assumption)
                      have q57 : (x8_2 : Int) < ((x7_2.length : Int) : Int) := of_decide_eq_true (by first | (with_reducible assumption) | assumption)
                      obtain ⟨go57, co57, eo57, gb57, gl57, cl57, HG57⟩ := Kd.R_form HO_7.out (by omega)
                      (first | cases eo57 | (injection eo57 with ea_ en_ ec_; (first | subst ea_ | (injection ea_ with ea_; subst ea_)); subst ec_; clear en_))
                      have GB57 := Aside0.mk gb57
                      have GG57 := Aside0.mk HG57
                      clear gb57 gl57 HG57
                      obtain ⟨hx57_0, hf57_0⟩ := Kd.R_celln false HO_7.out (x8_2 : Int) p57 q57
                      (try simp only [Int.toNat_natCast] at hx57_0 hf57_0)
                      replace p57 := eq_true p57
                      replace q57 := eq_true q57
                      have HP60 := Kd.R_putn HO_7.out (x8_2 : Int) true
                      rw [← Ny121.out] at HP60
                      have HQ60 := Aside0.mk HP60
                      clear HP60
                      refine start_ (n := 25) (S := fun w' => w'.cell? (ad120.add ((ji48)).toNat) = some (.bool true)) (ds := [24]) #[false, false, false, false, false, false, false, false, false, false, false, false, false, false, false, false, false, false, false, false, false, false, false, false, false] (by kernel_rfl) rfl rfl (hx120_0) (fun hHeld => ?_); refine with_tabW spec_l6Fits.tab13 spec_l6Fits.bits13 (fun HT_ HW_ => ?_)
                      generalize wr.drew = w58 at HO_5 HO_7 HB GG57 HQ60 hf57_0 hx120_0 hx57_0 hHeld ⊢
                      refine pure_ (i := 0) (N := some 57) (v := ?_) (a' := ?_) #[true, false, false, false, false, false, false, false, false, false, false, false, false, false, false, false, false, false, false, false, false, false, false, false, false] rfl rfl (any_of HT_.out (by kernel_rfl)) (fun _ _ _ h => h) (Or.inl ⟨by rfl, ?_⟩) ?_ ?_
                      rotate_left
                      ·
                       intro w'
                       go_simp
                       with_reducible rfl
                      rotate_left
                      ·
                       simp only [Act.put, List.setIfInBounds_toArray, List.set_cons_zero, List.set_cons_succ, i64_w, i32_w]
                       rfl
                      refine pure_ (i := 1) (N := some 58) (v := ?_) (a' := ?_) #[true, true, false, false, false, false, false, false, false, false, false, false, false, false, false, false, false, false, false, false, false, false, false, false, false] rfl rfl (any_of HT_.out (by kernel_rfl)) (fun _ _ _ h => h) (Or.inl ⟨by rfl, ?_⟩) ?_ ?_
                      rotate_left
                      ·
                       intro w'
                       go_simp
                       with_reducible rfl
                      rotate_left
                      ·
                       simp only [Act.put, List.setIfInBounds_toArray, List.set_cons_zero, List.set_cons_succ, i64_w, i32_w]
                       rfl
                      refine pure_ (i := 2) (N := some 59) (v := ?_) (a' := ?_) #[true, true, true, false, false, false, false, false, false, false, false, false, false, false, false, false, false, false, false, false, false, false, false, false, false] rfl rfl (any_of HT_.out (by kernel_rfl)) (fun _ _ _ h => h) (Or.inl ⟨by rfl, ?_⟩) ?_ ?_
                      rotate_left
                      ·
                       intro w'
                       go_simp
                       with_reducible rfl
                      rotate_left
                      ·
                       simp only [Act.put, List.setIfInBounds_toArray, List.set_cons_zero, List.set_cons_succ, i64_w, i32_w]
                       rfl
                      refine pure_ (i := 3) (N := some 60) (v := ?_) (a' := ?_) #[true, true, true, true, false, false, false, false, false, false, false, false, false, false, false, false, false, false, false, false, false, false, false, false, false] rfl rfl (any_of HT_.out (by kernel_rfl)) (fun _ _ _ h => h) (Or.inl ⟨by rfl, ?_⟩) ?_ ?_
                      rotate_left
                      ·
                       intro w'
                       go_simp
                       with_reducible rfl
                      rotate_left
                      ·
                       simp only [Act.put, List.setIfInBounds_toArray, List.set_cons_zero, List.set_cons_succ, i64_w, i32_w]
                       rfl
                      refine pure_ (i := 4) (N := some 61) (v := ?_) (a' := ?_) #[true, true, true, true, true, false, false, false, false, false, false, false, false, false, false, false, false, false, false, false, false, false, false, false, false] rfl rfl (any_of HT_.out (by kernel_rfl)) (fun _ _ _ h => h) (Or.inl ⟨by rfl, ?_⟩) ?_ ?_
                      rotate_left
                      ·
                       intro w'
                       go_simp
                       with_reducible rfl
                      rotate_left
                      ·
                       simp only [Act.put, List.setIfInBounds_toArray, List.set_cons_zero, List.set_cons_succ, i64_w, i32_w]
                       rfl
                      refine pure_ (i := 5) (N := some 62) (v := ?_) (a' := ?_) #[true, true, true, true, true, true, false, false, false, false, false, false, false, false, false, false, false, false, false, false, false, false, false, false, false] rfl rfl (any_of HT_.out (by kernel_rfl)) (fun _ _ _ h => h) (Or.inl ⟨by rfl, ?_⟩) ?_ ?_
                      rotate_left
                      ·
                       intro w'
                       go_simp
                       with_reducible rfl
                      rotate_left
                      ·
                       simp only [Act.put, List.setIfInBounds_toArray, List.set_cons_zero, List.set_cons_succ, i64_w, i32_w]
                       rfl
                      refine take_ (i := 6) (N := some 63) (v := ?_) (a' := ?_) #[true, true, true, true, true, true, true, false, false, false, false, false, false, false, false, false, false, false, false, false, false, false, false, false, false] rfl rfl (take_ofW HT_.out HW_.out (by kernel_rfl)) (fun _ _ _ h => h) (Or.inl ⟨by rfl, ?_⟩) hHeld ?_ ?_
                      rotate_left
                      ·
                       intro w' s0
                       go_simp
                       with_reducible rfl
                      rotate_left
                      ·
                       simp only [Act.put, List.setIfInBounds_toArray, List.set_cons_zero, List.set_cons_succ, i64_w, i32_w]
                       rfl
                      refine pure_ (i := 7) (N := some 64) (v := ?_) (a' := ?_) #[true, true, true, true, true, true, true, true, false, false, false, false, false, false, false, false, false, false, false, false, false, false, false, false, false] rfl rfl (any_of HT_.out (by kernel_rfl)) (fun _ _ _ h => h) (Or.inl ⟨by rfl, ?_⟩) ?_ ?_
                      rotate_left
                      ·
                       intro w'
                       go_simp
                       with_reducible rfl
                      rotate_left
                      ·
                       simp only [Act.put, List.setIfInBounds_toArray, List.set_cons_zero, List.set_cons_succ, i64_w, i32_w]
                       rfl
                      refine pure_ (i := 8) (N := some 65) (v := ?_) (a' := ?_) #[true, true, true, true, true, true, true, true, true, false, false, false, false, false, false, false, false, false, false, false, false, false, false, false, false] rfl rfl (any_of HT_.out (by kernel_rfl)) (fun _ _ _ h => h) (Or.inl ⟨by rfl, ?_⟩) ?_ ?_
                      rotate_left
                      ·
                       intro w'
                       go_simp
                       with_reducible rfl
                      rotate_left
                      ·
                       simp only [Act.put, List.setIfInBounds_toArray, List.set_cons_zero, List.set_cons_succ, i64_w, i32_w]
                       rfl
                      refine pure_ (i := 9) (N := some 66) (v := ?_) (a' := ?_) #[true, true, true, true, true, true, true, true, true, true, false, false, false, false, false, false, false, false, false, false, false, false, false, false, false] rfl rfl (any_of HT_.out (by kernel_rfl)) (fun _ _ _ h => h) (Or.inl ⟨by rfl, ?_⟩) ?_ ?_
                      rotate_left
                      ·
                       intro w'
                       go_simp
                       with_reducible rfl
                      rotate_left
                      ·
                       simp only [Act.put, List.setIfInBounds_toArray, List.set_cons_zero, List.set_cons_succ, i64_w, i32_w]
                       rfl
                      refine take_ (i := 10) (N := some 67) (v := ?_) (a' := ?_) #[true, true, true, true, true, true, true, true, true, true, true, false, false, false, false, false, false, false, false, false, false, false, false, false, false] rfl rfl (take_ofW HT_.out HW_.out (by kernel_rfl)) (fun _ _ _ h => h) (Or.inl ⟨by rfl, ?_⟩) hHeld ?_ ?_
                      rotate_left
                      ·
                       intro w' s0
                       go_simp
                       with_reducible rfl
                      rotate_left
                      ·
                       simp only [Act.put, List.setIfInBounds_toArray, List.set_cons_zero, List.set_cons_succ, i64_w, i32_w]
                       rfl
                      refine pure_ (i := 11) (N := some 68) (v := ?_) (a' := ?_) #[true, true, true, true, true, true, true, true, true, true, true, true, false, false, false, false, false, false, false, false, false, false, false, false, false] rfl rfl (any_of HT_.out (by kernel_rfl)) (fun _ _ _ h => h) (Or.inl ⟨by rfl, ?_⟩) ?_ ?_
                      rotate_left
                      ·
                       intro w'
                       go_simp
                       with_reducible rfl
                      rotate_left
                      ·
                       simp only [Act.put, List.setIfInBounds_toArray, List.set_cons_zero, List.set_cons_succ, i64_w, i32_w]
                       rfl
                      refine pure_ (i := 12) (N := some 69) (v := ?_) (a' := ?_) #[true, true, true, true, true, true, true, true, true, true, true, true, true, false, false, false, false, false, false, false, false, false, false, false, false] rfl rfl (any_of HT_.out (by kernel_rfl)) (fun _ _ _ h => h) (Or.inl ⟨by rfl, ?_⟩) ?_ ?_
                      rotate_left
                      ·
                       intro w'
                       go_simp
                       with_reducible rfl
                      rotate_left
                      ·
                       simp only [Act.put, List.setIfInBounds_toArray, List.set_cons_zero, List.set_cons_succ, i64_w, i32_w]
                       rfl
                      refine pure_ (i := 13) (N := some 70) (v := undef) (a' := ?_) #[true, true, true, true, true, true, true, true, true, true, true, true, true, true, false, false, false, false, false, false, false, false, false, false, false] rfl rfl (any_of HT_.out (by kernel_rfl)) (fun _ _ _ h => h) (Or.inr ⟨by rfl, rfl⟩) ?_ ?_
                      rotate_left
                      ·
                       simp only [Act.put, List.setIfInBounds_toArray, List.set_cons_zero, List.set_cons_succ, i64_w, i32_w]
                       rfl
                      refine pure_ (i := 14) (N := some 71) (v := undef) (a' := ?_) #[true, true, true, true, true, true, true, true, true, true, true, true, true, true, true, false, false, false, false, false, false, false, false, false, false] rfl rfl (any_of HT_.out (by kernel_rfl)) (fun _ _ _ h => h) (Or.inr ⟨by rfl, rfl⟩) ?_ ?_
                      rotate_left
                      ·
                       simp only [Act.put, List.setIfInBounds_toArray, List.set_cons_zero, List.set_cons_succ, i64_w, i32_w]
                       rfl
                      refine pure_ (i := 15) (N := some 72) (v := undef) (a' := ?_) #[true, true, true, true, true, true, true, true, true, true, true, true, true, true, true, true, false, false, false, false, false, false, false, false, false] rfl rfl (any_of HT_.out (by kernel_rfl)) (fun _ _ _ h => h) (Or.inr ⟨by rfl, rfl⟩) ?_ ?_
                      rotate_left
                      ·
                       simp only [Act.put, List.setIfInBounds_toArray, List.set_cons_zero, List.set_cons_succ, i64_w, i32_w]
                       rfl
                      refine pure_ (i := 16) (N := some 73) (v := undef) (a' := ?_) #[true, true, true, true, true, true, true, true, true, true, true, true, true, true, true, true, true, false, false, false, false, false, false, false, false] rfl rfl (any_of HT_.out (by kernel_rfl)) (fun _ _ _ h => h) (Or.inr ⟨by rfl, rfl⟩) ?_ ?_
                      rotate_left
                      ·
                       simp only [Act.put, List.setIfInBounds_toArray, List.set_cons_zero, List.set_cons_succ, i64_w, i32_w]
                       rfl
                      refine pure_ (i := 17) (N := some 74) (v := undef) (a' := ?_) #[true, true, true, true, true, true, true, true, true, true, true, true, true, true, true, true, true, true, false, false, false, false, false, false, false] rfl rfl (any_of HT_.out (by kernel_rfl)) (fun _ _ _ h => h) (Or.inr ⟨by rfl, rfl⟩) ?_ ?_
                      rotate_left
                      ·
                       simp only [Act.put, List.setIfInBounds_toArray, List.set_cons_zero, List.set_cons_succ, i64_w, i32_w]
                       rfl
                      refine pure_ (i := 18) (N := some 75) (v := undef) (a' := ?_) #[true, true, true, true, true, true, true, true, true, true, true, true, true, true, true, true, true, true, true, false, false, false, false, false, false] rfl rfl (any_of HT_.out (by kernel_rfl)) (fun _ _ _ h => h) (Or.inr ⟨by rfl, rfl⟩) ?_ ?_
                      rotate_left
                      ·
                       simp only [Act.put, List.setIfInBounds_toArray, List.set_cons_zero, List.set_cons_succ, i64_w, i32_w]
                       rfl
                      refine pure_ (i := 19) (N := some 76) (v := undef) (a' := ?_) #[true, true, true, true, true, true, true, true, true, true, true, true, true, true, true, true, true, true, true, true, false, false, false, false, false] rfl rfl (any_of HT_.out (by kernel_rfl)) (fun _ _ _ h => h) (Or.inr ⟨by rfl, rfl⟩) ?_ ?_
                      rotate_left
                      ·
                       simp only [Act.put, List.setIfInBounds_toArray, List.set_cons_zero, List.set_cons_succ, i64_w, i32_w]
                       rfl
                      refine pure_ (i := 20) (N := some 77) (v := undef) (a' := ?_) #[true, true, true, true, true, true, true, true, true, true, true, true, true, true, true, true, true, true, true, true, true, false, false, false, false] rfl rfl (any_of HT_.out (by kernel_rfl)) (fun _ _ _ h => h) (Or.inr ⟨by rfl, rfl⟩) ?_ ?_
                      rotate_left
                      ·
                       simp only [Act.put, List.setIfInBounds_toArray, List.set_cons_zero, List.set_cons_succ, i64_w, i32_w]
                       rfl
                      refine pure_ (i := 21) (N := some 78) (v := ?_) (a' := ?_) #[true, true, true, true, true, true, true, true, true, true, true, true, true, true, true, true, true, true, true, true, true, true, false, false, false] rfl rfl (any_of HT_.out (by kernel_rfl)) (fun _ _ _ h => h) (Or.inl ⟨by rfl, ?_⟩) ?_ ?_
                      rotate_left
                      ·
                       intro w'
                       go_simp
                       with_reducible rfl
                      rotate_left
                      ·
                       simp only [Act.put, List.setIfInBounds_toArray, List.set_cons_zero, List.set_cons_succ, i64_w, i32_w]
                       rfl
                      refine pure_ (i := 22) (N := some 79) (v := ?_) (a' := ?_) #[true, true, true, true, true, true, true, true, true, true, true, true, true, true, true, true, true, true, true, true, true, true, true, false, false] rfl rfl (any_of HT_.out (by kernel_rfl)) (fun _ _ _ h => h) (Or.inl ⟨by rfl, ?_⟩) ?_ ?_
                      rotate_left
                      ·
                       intro w'
                       go_simp
                       with_reducible rfl
                      rotate_left
                      ·
                       simp only [Act.put, List.setIfInBounds_toArray, List.set_cons_zero, List.set_cons_succ, i64_w, i32_w]
                       rfl
                      refine pure_ (i := 23) (N := some 80) (v := ?_) (a' := ?_) #[true, true, true, true, true, true, true, true, true, true, true, true, true, true, true, true, true, true, true, true, true, true, true, true, false] rfl rfl (any_of HT_.out (by kernel_rfl)) (fun _ _ _ h => h) (Or.inl ⟨by rfl, ?_⟩) ?_ ?_
                      rotate_left
                      ·
                       intro w'
                       go_simp
                       with_reducible rfl
                      rotate_left
                      ·
                       simp only [Act.put, List.setIfInBounds_toArray, List.set_cons_zero, List.set_cons_succ, i64_w, i32_w]
                       rfl
                      refine last_ (i := 24) (N := none) #[true, true, true, true, true, true, true, true, true, true, true, true, true, true, true, true, true, true, true, true, true, true, true, true, true] rfl rfl (one_of HT_.out (by kernel_rfl)) (by decide) (fun K hK => ?_)
                      refine skip_ (w1 := ?_) (by rfl) rfl ?_ ?_
                      rotate_left
                      ·
                       go_simp
                       rfl
                      refine hK.out _ _ ?_
                      clear hK K
                      refine done_ (done_of HT_.out (by kernel_rfl)) ?_
                      try go_wp2
                      go_roundg k2
                      case measure => have := HK1.out; have := HK2.out; omega
                      case rel => exact ⟨(y121), (wrap64 (x8_2 + 1)), (by first | rfl | (simp; done) | (simp [*]; done)), H', ⟨by have := HK1.out; have := HK2.out; omega⟩, ⟨by (with_reducible repeat (first | apply Kd.R_alloc | apply Kd.R_drewN | apply Kd.R_drew)); exact Kd.R_mono (Kd.R_far (p := ⟨go57, (x8_2 : Int).toNat, none⟩) (Kd.R_mono HO_5.out (fun k_ hk => (⟨hk, fun e_ => hk (by rw [e_]; rfl)⟩ : _ ∧ k_ ≠ go57))) (fun _ hk => hk.2) (.bool true)) (fun _ hk => hk.1)⟩, ⟨by (with_reducible repeat (first | apply Kd.R_alloc | apply Kd.R_drewN | apply Kd.R_drew)); exact HQ60.out⟩, ⟨by repeat (first | (with_reducible first | exact HB.out | apply below_alloc | apply pw_below_drewN | apply below_drew1 | refine below_set ?_ GB57.out) | exact HB.out)⟩⟩
                     ·
                      rw [if_neg c56] at H
                      exact absurd H (by simp)
                    ·
                     rw [if_neg c55] at H
                     exact absurd H (by simp)
                   ·
                    rw [if_neg c54] at H
                    have c54b0 : ((bt a0 x6_1) == 63) = false := beq_eq_false_iff_ne.mpr c54
                    have c54b1 : ((bt a0 x6_1) != 63) = true := bne_iff_ne.mpr c54
                    by_cases c62 : (ji48) < (a1.size : Int)
                    ·
                     rw [if_pos c62] at H
                     have c62b0 : decide ((ji48) < (a1.size : Int)) = true := decide_eq_true c62
                     clear c62
                     by_cases c64 : 0 ≤ x8_2
                     ·
                      rw [if_pos c64] at H
                      have c64b0 : decide (0 ≤ x8_2) = true := decide_eq_true c64
                      clear c64
                      by_cases c65 : x8_2 < (x7_2.length : Int)
                      ·
                       rw [if_pos c65] at H
                       have c65b0 : decide (x8_2 < (x7_2.length : Int)) = true := decide_eq_true c65
                       clear c65
                       obtain ⟨y122, hy122⟩ : ∃ y_ : List Bool, y_ = (x7_2.set (x8_2 : Int).toNat ((bt a0 x6_1) == (bt a1 (ji48)))) := ⟨_, rfl⟩
                       replace H : (spec_l6Fits.l1 k2 a0 a1 x5_1 x6_1 y122 (wrap64 (x8_2 + 1))) = some r := by first | (rw [hy122]; with_reducible exact H) | (have H2_ := (Option.bind_some _ _).symm.trans H; rw [hy122]; with_reducible exact H2_) | (have H2_ := (Option.bind_some _ _).symm.trans H; with_reducible exact H2_) | with_reducible exact H | (rw [hy122]; exact H) | exact H
                       have Ny122 := Aside0.mk hy122
                       clear hy122
                       have H' := Aside0.mk H
                       clear H
                       have p21 : 0 ≤ (x6_1 : Int) := of_decide_eq_true (by first | (with_reducible assumption) | assumption)
                       have q21 : x6_1 < (a0.size : Int) := of_decide_eq_true (by first | (with_reducible assumption) | assumption)
                       have hx21 := bt_at a0 x6_1
                       replace p21 := eq_true p21
                       replace q21 := eq_true q21
                       try go_wp2
                       have n0_ := Aside0.mk (Kd.R_drew HO_5.out)
                       have n1_ := Aside0.mk (Kd.R_drew HO_7.out)
                       have n2_ := Aside0.mk (below_drew1 HB.out)
                       clear HO_5
                       clear HO_7
                       clear HB
                       have HO_5 := n0_
                       have HO_7 := n1_
                       have HB := n2_
                       clear n0_ n1_ n2_
                       obtain ⟨Ao68, co68, eo68⟩ := Kd.R_slice HO_5.out
                       (first | subst eo68 | (injection eo68 with f1_ f2_ f3_; have f4_ := f1_.symm; have f5_ := f3_.symm; clear f1_ f2_ f3_; subst f4_; subst f5_))
                       have p120 : 0 ≤ ((ji48) : Int) := of_decide_eq_true (by first | (with_reducible assumption) | assumption)
                       have q120 : (ji48) < (x5_1.length : Int) := of_decide_eq_true (by first | (with_reducible assumption) | assumption)
                       obtain ⟨ad120, e120, hx120_0⟩ := Kd.at_bool (Kd.R_reads' HO_5.out).2.2 (ji48) p120 q120
                       (try rw [← Nbq51.out] at hx120_0)
                       cases e120
                       replace p120 := eq_true p120
                       replace q120 := eq_true q120
                       have p53 : 0 ≤ (x6_1 : Int) := of_decide_eq_true (by first | (with_reducible assumption) | assumption)
                       have q53 : x6_1 < (a0.size : Int) := of_decide_eq_true (by first | (with_reducible assumption) | assumption)
                       have hx53 := bt_at a0 x6_1
                       replace p53 := eq_true p53
                       replace q53 := eq_true q53
                       have p61 : 0 ≤ (x6_1 : Int) := of_decide_eq_true (by first | (with_reducible assumption) | assumption)
                       have q61 : x6_1 < (a0.size : Int) := of_decide_eq_true (by first | (with_reducible assumption) | assumption)
                       have hx61 := bt_at a0 x6_1
                       replace p61 := eq_true p61
                       replace q61 := eq_true q61
                       have p63 : 0 ≤ ((ji48) : Int) := of_decide_eq_true (by first | (with_reducible assumption) | assumption)
                       have q63 : (ji48) < (a1.size : Int) := of_decide_eq_true (by first | (with_reducible assumption) | assumption)
                       have hx63 := bt_at a1 (ji48)
                       replace p63 := eq_true p63
                       replace q63 := eq_true q63
                       have p66 : 0 ≤ (x8_2 : Int) := of_decide_eq_true (by first | (with_reducible assumption) | assumption)
                       have q66 : (x8_2 : Int) < ((x7_2.length : Int) : Int) := of_decide_eq_true (by first | (with_reducible assumption) | assumption)
                       obtain ⟨go66, co66, eo66, gb66, gl66, cl66, HG66⟩ := Kd.R_form HO_7.out (by omega)
                       (first | cases eo66 | (injection eo66 with ea_ en_ ec_; (first | subst ea_ | (injection ea_ with ea_; subst ea_)); subst ec_; clear en_))
                       have GB66 := Aside0.mk gb66
                       have GG66 := Aside0.mk HG66
                       clear gb66 gl66 HG66
                       obtain ⟨hx66_0, hf66_0⟩ := Kd.R_celln false HO_7.out (x8_2 : Int) p66 q66
                       (try simp only [Int.toNat_natCast] at hx66_0 hf66_0)
                       replace p66 := eq_true p66
                       replace q66 := eq_true q66
                       have HP69 := Kd.R_putn HO_7.out (x8_2 : Int) ((bt a0 x6_1) == (bt a1 (ji48)))
                       rw [← Ny122.out] at HP69
                       have HQ69 := Aside0.mk HP69
                       clear HP69
                       refine start_ (n := 25) (S := fun w' => w'.cell? (ad120.add ((ji48)).toNat) = some (.bool true)) (ds := [24]) #[false, false, false, false, false, false, false, false, false, false, false, false, false, false, false, false, false, false, false, false, false, false, false, false, false] (by kernel_rfl) rfl rfl (hx120_0) (fun hHeld => ?_); refine with_tabW spec_l6Fits.tab13 spec_l6Fits.bits13 (fun HT_ HW_ => ?_)
                       generalize wr.drew = w67 at HO_5 HO_7 HB GG66 HQ69 hf66_0 hx120_0 hx66_0 hHeld ⊢
                       refine pure_ (i := 0) (N := some 57) (v := ?_) (a' := ?_) #[true, false, false, false, false, false, false, false, false, false, false, false, false, false, false, false, false, false, false, false, false, false, false, false, false] rfl rfl (any_of HT_.out (by kernel_rfl)) (fun _ _ _ h => h) (Or.inl ⟨by rfl, ?_⟩) ?_ ?_
                       rotate_left
                       ·
                        intro w'
                        go_simp
                        with_reducible rfl
                       rotate_left
                       ·
                        simp only [Act.put, List.setIfInBounds_toArray, List.set_cons_zero, List.set_cons_succ, i64_w, i32_w]
                        rfl
                       refine pure_ (i := 1) (N := some 58) (v := ?_) (a' := ?_) #[true, true, false, false, false, false, false, false, false, false, false, false, false, false, false, false, false, false, false, false, false, false, false, false, false] rfl rfl (any_of HT_.out (by kernel_rfl)) (fun _ _ _ h => h) (Or.inl ⟨by rfl, ?_⟩) ?_ ?_
                       rotate_left
                       ·
                        intro w'
                        go_simp
                        with_reducible rfl
                       rotate_left
                       ·
                        simp only [Act.put, List.setIfInBounds_toArray, List.set_cons_zero, List.set_cons_succ, i64_w, i32_w]
                        rfl
                       refine pure_ (i := 2) (N := some 59) (v := ?_) (a' := ?_) #[true, true, true, false, false, false, false, false, false, false, false, false, false, false, false, false, false, false, false, false, false, false, false, false, false] rfl rfl (any_of HT_.out (by kernel_rfl)) (fun _ _ _ h => h) (Or.inl ⟨by rfl, ?_⟩) ?_ ?_
                       rotate_left
                       ·
                        intro w'
                        go_simp
                        with_reducible rfl
                       rotate_left
                       ·
                        simp only [Act.put, List.setIfInBounds_toArray, List.set_cons_zero, List.set_cons_succ, i64_w, i32_w]
                        rfl
                       refine pure_ (i := 3) (N := some 60) (v := ?_) (a' := ?_) #[true, true, true, true, false, false, false, false, false, false, false, false, false, false, false, false, false, false, false, false, false, false, false, false, false] rfl rfl (any_of HT_.out (by kernel_rfl)) (fun _ _ _ h => h) (Or.inl ⟨by rfl, ?_⟩) ?_ ?_
                       rotate_left
                       ·
                        intro w'
                        go_simp
                        with_reducible rfl
                       rotate_left
                       ·
                        simp only [Act.put, List.setIfInBounds_toArray, List.set_cons_zero, List.set_cons_succ, i64_w, i32_w]
                        rfl
                       refine pure_ (i := 4) (N := some 61) (v := ?_) (a' := ?_) #[true, true, true, true, true, false, false, false, false, false, false, false, false, false, false, false, false, false, false, false, false, false, false, false, false] rfl rfl (any_of HT_.out (by kernel_rfl)) (fun _ _ _ h => h) (Or.inl ⟨by rfl, ?_⟩) ?_ ?_
                       rotate_left
                       ·
                        intro w'
                        go_simp
                        with_reducible rfl
                       rotate_left
                       ·
                        simp only [Act.put, List.setIfInBounds_toArray, List.set_cons_zero, List.set_cons_succ, i64_w, i32_w]
                        rfl
                       refine pure_ (i := 5) (N := some 62) (v := ?_) (a' := ?_) #[true, true, true, true, true, true, false, false, false, false, false, false, false, false, false, false, false, false, false, false, false, false, false, false, false] rfl rfl (any_of HT_.out (by kernel_rfl)) (fun _ _ _ h => h) (Or.inl ⟨by rfl, ?_⟩) ?_ ?_
                       rotate_left
                       ·
                        intro w'
                        go_simp
                        with_reducible rfl
                       rotate_left
                       ·
                        simp only [Act.put, List.setIfInBounds_toArray, List.set_cons_zero, List.set_cons_succ, i64_w, i32_w]
                        rfl
                       refine take_ (i := 6) (N := some 63) (v := ?_) (a' := ?_) #[true, true, true, true, true, true, true, false, false, false, false, false, false, false, false, false, false, false, false, false, false, false, false, false, false] rfl rfl (take_ofW HT_.out HW_.out (by kernel_rfl)) (fun _ _ _ h => h) (Or.inl ⟨by rfl, ?_⟩) hHeld ?_ ?_
                       rotate_left
                       ·
                        intro w' s0
                        go_simp
                        with_reducible rfl
                       rotate_left
                       ·
                        simp only [Act.put, List.setIfInBounds_toArray, List.set_cons_zero, List.set_cons_succ, i64_w, i32_w]
                        rfl
                       refine pure_ (i := 7) (N := some 64) (v := ?_) (a' := ?_) #[true, true, true, true, true, true, true, true, false, false, false, false, false, false, false, false, false, false, false, false, false, false, false, false, false] rfl rfl (any_of HT_.out (by kernel_rfl)) (fun _ _ _ h => h) (Or.inl ⟨by rfl, ?_⟩) ?_ ?_
                       rotate_left
                       ·
                        intro w'
                        go_simp
                        with_reducible rfl
                       rotate_left
                       ·
                        simp only [Act.put, List.setIfInBounds_toArray, List.set_cons_zero, List.set_cons_succ, i64_w, i32_w]
                        rfl
                       refine pure_ (i := 8) (N := some 65) (v := ?_) (a' := ?_) #[true, true, true, true, true, true, true, true, true, false, false, false, false, false, false, false, false, false, false, false, false, false, false, false, false] rfl rfl (any_of HT_.out (by kernel_rfl)) (fun _ _ _ h => h) (Or.inl ⟨by rfl, ?_⟩) ?_ ?_
                       rotate_left
                       ·
                        intro w'
                        go_simp
                        with_reducible rfl
                       rotate_left
                       ·
                        simp only [Act.put, List.setIfInBounds_toArray, List.set_cons_zero, List.set_cons_succ, i64_w, i32_w]
                        rfl
                       refine pure_ (i := 9) (N := some 66) (v := ?_) (a' := ?_) #[true, true, true, true, true, true, true, true, true, true, false, false, false, false, false, false, false, false, false, false, false, false, false, false, false] rfl rfl (any_of HT_.out (by kernel_rfl)) (fun _ _ _ h => h) (Or.inl ⟨by rfl, ?_⟩) ?_ ?_
                       rotate_left
                       ·
                        intro w'
                        go_simp
                        with_reducible rfl
                       rotate_left
                       ·
                        simp only [Act.put, List.setIfInBounds_toArray, List.set_cons_zero, List.set_cons_succ, i64_w, i32_w]
                        rfl
                       refine take_ (i := 10) (N := some 67) (v := ?_) (a' := ?_) #[true, true, true, true, true, true, true, true, true, true, true, false, false, false, false, false, false, false, false, false, false, false, false, false, false] rfl rfl (take_ofW HT_.out HW_.out (by kernel_rfl)) (fun _ _ _ h => h) (Or.inl ⟨by rfl, ?_⟩) hHeld ?_ ?_
                       rotate_left
                       ·
                        intro w' s0
                        go_simp
                        with_reducible rfl
                       rotate_left
                       ·
                        simp only [Act.put, List.setIfInBounds_toArray, List.set_cons_zero, List.set_cons_succ, i64_w, i32_w]
                        rfl
                       refine pure_ (i := 11) (N := some 68) (v := ?_) (a' := ?_) #[true, true, true, true, true, true, true, true, true, true, true, true, false, false, false, false, false, false, false, false, false, false, false, false, false] rfl rfl (any_of HT_.out (by kernel_rfl)) (fun _ _ _ h => h) (Or.inl ⟨by rfl, ?_⟩) ?_ ?_
                       rotate_left
                       ·
                        intro w'
                        go_simp
                        with_reducible rfl
                       rotate_left
                       ·
                        simp only [Act.put, List.setIfInBounds_toArray, List.set_cons_zero, List.set_cons_succ, i64_w, i32_w]
                        rfl
                       refine pure_ (i := 12) (N := some 69) (v := ?_) (a' := ?_) #[true, true, true, true, true, true, true, true, true, true, true, true, true, false, false, false, false, false, false, false, false, false, false, false, false] rfl rfl (any_of HT_.out (by kernel_rfl)) (fun _ _ _ h => h) (Or.inl ⟨by rfl, ?_⟩) ?_ ?_
                       rotate_left
                       ·
                        intro w'
                        go_simp
                        with_reducible rfl
                       rotate_left
                       ·
                        simp only [Act.put, List.setIfInBounds_toArray, List.set_cons_zero, List.set_cons_succ, i64_w, i32_w]
                        rfl
                       refine pure_ (i := 13) (N := some 70) (v := ?_) (a' := ?_) #[true, true, true, true, true, true, true, true, true, true, true, true, true, true, false, false, false, false, false, false, false, false, false, false, false] rfl rfl (any_of HT_.out (by kernel_rfl)) (fun _ _ _ h => h) (Or.inl ⟨by rfl, ?_⟩) ?_ ?_
                       rotate_left
                       ·
                        intro w'
                        go_simp
                        with_reducible rfl
                       rotate_left
                       ·
                        simp only [Act.put, List.setIfInBounds_toArray, List.set_cons_zero, List.set_cons_succ, i64_w, i32_w]
                        rfl
                       refine pure_ (i := 14) (N := some 71) (v := ?_) (a' := ?_) #[true, true, true, true, true, true, true, true, true, true, true, true, true, true, true, false, false, false, false, false, false, false, false, false, false] rfl rfl (any_of HT_.out (by kernel_rfl)) (fun _ _ _ h => h) (Or.inl ⟨by rfl, ?_⟩) ?_ ?_
                       rotate_left
                       ·
                        intro w'
                        go_simp
                        with_reducible rfl
                       rotate_left
                       ·
                        simp only [Act.put, List.setIfInBounds_toArray, List.set_cons_zero, List.set_cons_succ, i64_w, i32_w]
                        rfl
                       refine pure_ (i := 16) (N := some 73) (v := ?_) (a' := ?_) #[true, true, true, true, true, true, true, true, true, true, true, true, true, true, true, false, true, false, false, false, false, false, false, false, false] rfl rfl (any_of HT_.out (by kernel_rfl)) (fun _ _ _ h => h) (Or.inl ⟨by rfl, ?_⟩) ?_ ?_
                       rotate_left
                       ·
                        intro w'
                        go_simp
                        with_reducible rfl
                       rotate_left
                       ·
                        simp only [Act.put, List.setIfInBounds_toArray, List.set_cons_zero, List.set_cons_succ, i64_w, i32_w]
                        rfl
                       refine pure_ (i := 17) (N := some 74) (v := ?_) (a' := ?_) #[true, true, true, true, true, true, true, true, true, true, true, true, true, true, true, false, true, true, false, false, false, false, false, false, false] rfl rfl (any_of HT_.out (by kernel_rfl)) (fun _ _ _ h => h) (Or.inl ⟨by rfl, ?_⟩) ?_ ?_
                       rotate_left
                       ·
                        intro w'
                        go_simp
                        with_reducible rfl
                       rotate_left
                       ·
                        simp only [Act.put, List.setIfInBounds_toArray, List.set_cons_zero, List.set_cons_succ, i64_w, i32_w]
                        rfl
                       refine pure_ (i := 18) (N := some 75) (v := ?_) (a' := ?_) #[true, true, true, true, true, true, true, true, true, true, true, true, true, true, true, false, true, true, true, false, false, false, false, false, false] rfl rfl (any_of HT_.out (by kernel_rfl)) (fun _ _ _ h => h) (Or.inl ⟨by rfl, ?_⟩) ?_ ?_
                       rotate_left
                       ·
                        intro w'
                        go_simp
                        with_reducible rfl
                       rotate_left
                       ·
                        simp only [Act.put, List.setIfInBounds_toArray, List.set_cons_zero, List.set_cons_succ, i64_w, i32_w]
                        rfl
                       refine take_ (i := 15) (N := some 72) (v := ?_) (a' := ?_) #[true, true, true, true, true, true, true, true, true, true, true, true, true, true, true, true, true, true, true, false, false, false, false, false, false] rfl rfl (take_ofW HT_.out HW_.out (by kernel_rfl)) (fun _ _ _ h => h) (Or.inl ⟨by rfl, ?_⟩) hHeld ?_ ?_
                       rotate_left
                       ·
                        intro w' s0
                        go_simp
                        with_reducible rfl
                       rotate_left
                       ·
                        simp only [Act.put, List.setIfInBounds_toArray, List.set_cons_zero, List.set_cons_succ, i64_w, i32_w]
                        rfl
                       refine take_ (i := 19) (N := some 76) (v := ?_) (a' := ?_) #[true, true, true, true, true, true, true, true, true, true, true, true, true, true, true, true, true, true, true, true, false, false, false, false, false] rfl rfl (take_ofW HT_.out HW_.out (by kernel_rfl)) (fun _ _ _ h => h) (Or.inl ⟨by rfl, ?_⟩) hHeld ?_ ?_
                       rotate_left
                       ·
                        intro w' s0
                        go_simp
                        with_reducible rfl
                       rotate_left
                       ·
                        simp only [Act.put, List.setIfInBounds_toArray, List.set_cons_zero, List.set_cons_succ, i64_w, i32_w]
                        rfl
                       refine pure_ (i := 20) (N := some 77) (v := ?_) (a' := ?_) #[true, true, true, true, true, true, true, true, true, true, true, true, true, true, true, true, true, true, true, true, true, false, false, false, false] rfl rfl (any_of HT_.out (by kernel_rfl)) (fun _ _ _ h => h) (Or.inl ⟨by rfl, ?_⟩) ?_ ?_
                       rotate_left
                       ·
                        intro w'
                        go_simp
                        with_reducible rfl
                       rotate_left
                       ·
                        simp only [Act.put, List.setIfInBounds_toArray, List.set_cons_zero, List.set_cons_succ, i64_w, i32_w]
                        rfl
                       refine pure_ (i := 21) (N := some 78) (v := ?_) (a' := ?_) #[true, true, true, true, true, true, true, true, true, true, true, true, true, true, true, true, true, true, true, true, true, true, false, false, false] rfl rfl (any_of HT_.out (by kernel_rfl)) (fun _ _ _ h => h) (Or.inl ⟨by rfl, ?_⟩) ?_ ?_
                       rotate_left
                       ·
                        intro w'
                        go_simp
                        with_reducible rfl
                       rotate_left
                       ·
                        simp only [Act.put, List.setIfInBounds_toArray, List.set_cons_zero, List.set_cons_succ, i64_w, i32_w]
                        rfl
                       refine pure_ (i := 22) (N := some 79) (v := ?_) (a' := ?_) #[true, true, true, true, true, true, true, true, true, true, true, true, true, true, true, true, true, true, true, true, true, true, true, false, false] rfl rfl (any_of HT_.out (by kernel_rfl)) (fun _ _ _ h => h) (Or.inl ⟨by rfl, ?_⟩) ?_ ?_
                       rotate_left
                       ·
                        intro w'
                        go_simp
                        with_reducible rfl
                       rotate_left
                       ·
                        simp only [Act.put, List.setIfInBounds_toArray, List.set_cons_zero, List.set_cons_succ, i64_w, i32_w]
                        rfl
                       refine pure_ (i := 23) (N := some 80) (v := ?_) (a' := ?_) #[true, true, true, true, true, true, true, true, true, true, true, true, true, true, true, true, true, true, true, true, true, true, true, true, false] rfl rfl (any_of HT_.out (by kernel_rfl)) (fun _ _ _ h => h) (Or.inl ⟨by rfl, ?_⟩) ?_ ?_
                       rotate_left
                       ·
                        intro w'
                        go_simp
                        with_reducible rfl
                       rotate_left
                       ·
                        simp only [Act.put, List.setIfInBounds_toArray, List.set_cons_zero, List.set_cons_succ, i64_w, i32_w]
                        rfl
                       refine last_ (i := 24) (N := none) #[true, true, true, true, true, true, true, true, true, true, true, true, true, true, true, true, true, true, true, true, true, true, true, true, true] rfl rfl (one_of HT_.out (by kernel_rfl)) (by decide) (fun K hK => ?_)
                       refine skip_ (w1 := ?_) (by rfl) rfl ?_ ?_
                       rotate_left
                       ·
                        go_simp
                        rfl
                       refine hK.out _ _ ?_
                       clear hK K
                       refine done_ (done_of HT_.out (by kernel_rfl)) ?_
                       try go_wp2
                       go_roundg k2
                       case measure => have := HK1.out; have := HK2.out; omega
                       case rel => exact ⟨(y122), (wrap64 (x8_2 + 1)), (by first | rfl | (simp; done) | (simp [*]; done)), H', ⟨by have := HK1.out; have := HK2.out; omega⟩, ⟨by (with_reducible repeat (first | apply Kd.R_alloc | apply Kd.R_drewN | apply Kd.R_drew)); exact Kd.R_mono (Kd.R_far (p := ⟨go66, (x8_2 : Int).toNat, none⟩) (Kd.R_mono HO_5.out (fun k_ hk => (⟨hk, fun e_ => hk (by rw [e_]; rfl)⟩ : _ ∧ k_ ≠ go66))) (fun _ hk => hk.2) (.bool ((bt a0 x6_1) == (bt a1 (ji48))))) (fun _ hk => hk.1)⟩, ⟨by (with_reducible repeat (first | apply Kd.R_alloc | apply Kd.R_drewN | apply Kd.R_drew)); exact HQ69.out⟩, ⟨by repeat (first | (with_reducible first | exact HB.out | apply below_alloc | apply pw_below_drewN | apply below_drew1 | refine below_set ?_ GB66.out) | exact HB.out)⟩⟩
                      ·
                       rw [if_neg c65] at H
                       exact absurd H (by simp)
                     ·
                      rw [if_neg c64] at H
                      exact absurd H (by simp)
                    ·
                     rw [if_neg c62] at H
                     exact absurd H (by simp)
                  ·
                   replace c52 := Bool.eq_false_iff.mpr c52
                   subst c52
                   have H1 : (if 0 ≤ x8_2 then (if x8_2 < (x7_2.length : Int) then (spec_l6Fits.l1 k2 a0 a1 x5_1 x6_1 (x7_2.set (x8_2 : Int).toNat false) (wrap64 (x8_2 + 1))) else (none)) else (none)) = some r := by rw [if_neg (show ¬ (false = true) by decide)] at H; exact H
                   clear H
                   have H := H1
                   clear H1
                   by_cases c70 : 0 ≤ x8_2
                   ·
                    rw [if_pos c70] at H
                    have c70b0 : decide (0 ≤ x8_2) = true := decide_eq_true c70
                    clear c70
                    by_cases c71 : x8_2 < (x7_2.length : Int)
                    ·
                     rw [if_pos c71] at H
                     have c71b0 : decide (x8_2 < (x7_2.length : Int)) = true := decide_eq_true c71
                     clear c71
                     obtain ⟨y123, hy123⟩ : ∃ y_ : List Bool, y_ = (x7_2.set (x8_2 : Int).toNat false) := ⟨_, rfl⟩
                     replace H : (spec_l6Fits.l1 k2 a0 a1 x5_1 x6_1 y123 (wrap64 (x8_2 + 1))) = some r := by first | (rw [hy123]; with_reducible exact H) | (have H2_ := (Option.bind_some _ _).symm.trans H; rw [hy123]; with_reducible exact H2_) | (have H2_ := (Option.bind_some _ _).symm.trans H; with_reducible exact H2_) | with_reducible exact H | (rw [hy123]; exact H) | exact H
                     have Ny123 := Aside0.mk hy123
                     clear hy123
                     have H' := Aside0.mk H
                     clear H
                     have p21 : 0 ≤ (x6_1 : Int) := of_decide_eq_true (by first | (with_reducible assumption) | assumption)
                     have q21 : x6_1 < (a0.size : Int) := of_decide_eq_true (by first | (with_reducible assumption) | assumption)
                     have hx21 := bt_at a0 x6_1
                     replace p21 := eq_true p21
                     replace q21 := eq_true q21
                     try go_wp2
                     have n0_ := Aside0.mk (Kd.R_drew HO_5.out)
                     have n1_ := Aside0.mk (Kd.R_drew HO_7.out)
                     have n2_ := Aside0.mk (below_drew1 HB.out)
                     clear HO_5
                     clear HO_7
                     clear HB
                     have HO_5 := n0_
                     have HO_7 := n1_
                     have HB := n2_
                     clear n0_ n1_ n2_
                     obtain ⟨Ao74, co74, eo74⟩ := Kd.R_slice HO_5.out
                     (first | subst eo74 | (injection eo74 with f1_ f2_ f3_; have f4_ := f1_.symm; have f5_ := f3_.symm; clear f1_ f2_ f3_; subst f4_; subst f5_))
                     have p120 : 0 ≤ ((ji48) : Int) := of_decide_eq_true (by first | (with_reducible assumption) | assumption)
                     have q120 : (ji48) < (x5_1.length : Int) := of_decide_eq_true (by first | (with_reducible assumption) | assumption)
                     obtain ⟨ad120, e120, hx120_0⟩ := Kd.at_bool (Kd.R_reads' HO_5.out).2.2 (ji48) p120 q120
                     (try rw [← Nbq51.out] at hx120_0)
                     cases e120
                     replace p120 := eq_true p120
                     replace q120 := eq_true q120
                     have p72 : 0 ≤ (x8_2 : Int) := of_decide_eq_true (by first | (with_reducible assumption) | assumption)
                     have q72 : (x8_2 : Int) < ((x7_2.length : Int) : Int) := of_decide_eq_true (by first | (with_reducible assumption) | assumption)
                     obtain ⟨go72, co72, eo72, gb72, gl72, cl72, HG72⟩ := Kd.R_form HO_7.out (by omega)
                     (first | cases eo72 | (injection eo72 with ea_ en_ ec_; (first | subst ea_ | (injection ea_ with ea_; subst ea_)); subst ec_; clear en_))
                     have GB72 := Aside0.mk gb72
                     have GG72 := Aside0.mk HG72
                     clear gb72 gl72 HG72
                     obtain ⟨hx72_0, hf72_0⟩ := Kd.R_celln false HO_7.out (x8_2 : Int) p72 q72
                     (try simp only [Int.toNat_natCast] at hx72_0 hf72_0)
                     replace p72 := eq_true p72
                     replace q72 := eq_true q72
                     have HP75 := Kd.R_putn HO_7.out (x8_2 : Int) false
                     rw [← Ny123.out] at HP75
                     have HQ75 := Aside0.mk HP75
                     clear HP75
                     refine start_ (n := 25) (S := fun w' => w'.cell? (ad120.add ((ji48)).toNat) = some (.bool false)) (ds := [24]) #[false, false, false, false, false, false, false, false, false, false, false, false, false, false, false, false, false, false, false, false, false, false, false, false, false] (by kernel_rfl) rfl rfl (hx120_0) (fun hHeld => ?_); refine with_tabW spec_l6Fits.tab13 spec_l6Fits.bits13 (fun HT_ HW_ => ?_)
                     generalize wr.drew = w73 at HO_5 HO_7 HB GG72 HQ75 hf72_0 hx120_0 hx72_0 hHeld ⊢
                     refine pure_ (i := 0) (N := some 57) (v := ?_) (a' := ?_) #[true, false, false, false, false, false, false, false, false, false, false, false, false, false, false, false, false, false, false, false, false, false, false, false, false] rfl rfl (any_of HT_.out (by kernel_rfl)) (fun _ _ _ h => h) (Or.inl ⟨by rfl, ?_⟩) ?_ ?_
                     rotate_left
                     ·
                      intro w'
                      go_simp
                      with_reducible rfl
                     rotate_left
                     ·
                      simp only [Act.put, List.setIfInBounds_toArray, List.set_cons_zero, List.set_cons_succ, i64_w, i32_w]
                      rfl
                     refine pure_ (i := 1) (N := some 58) (v := ?_) (a' := ?_) #[true, true, false, false, false, false, false, false, false, false, false, false, false, false, false, false, false, false, false, false, false, false, false, false, false] rfl rfl (any_of HT_.out (by kernel_rfl)) (fun _ _ _ h => h) (Or.inl ⟨by rfl, ?_⟩) ?_ ?_
                     rotate_left
                     ·
                      intro w'
                      go_simp
                      with_reducible rfl
                     rotate_left
                     ·
                      simp only [Act.put, List.setIfInBounds_toArray, List.set_cons_zero, List.set_cons_succ, i64_w, i32_w]
                      rfl
                     refine pure_ (i := 2) (N := some 59) (v := ?_) (a' := ?_) #[true, true, true, false, false, false, false, false, false, false, false, false, false, false, false, false, false, false, false, false, false, false, false, false, false] rfl rfl (any_of HT_.out (by kernel_rfl)) (fun _ _ _ h => h) (Or.inl ⟨by rfl, ?_⟩) ?_ ?_
                     rotate_left
                     ·
                      intro w'
                      go_simp
                      with_reducible rfl
                     rotate_left
                     ·
                      simp only [Act.put, List.setIfInBounds_toArray, List.set_cons_zero, List.set_cons_succ, i64_w, i32_w]
                      rfl
                     refine pure_ (i := 3) (N := some 60) (v := ?_) (a' := ?_) #[true, true, true, true, false, false, false, false, false, false, false, false, false, false, false, false, false, false, false, false, false, false, false, false, false] rfl rfl (any_of HT_.out (by kernel_rfl)) (fun _ _ _ h => h) (Or.inl ⟨by rfl, ?_⟩) ?_ ?_
                     rotate_left
                     ·
                      intro w'
                      go_simp
                      with_reducible rfl
                     rotate_left
                     ·
                      simp only [Act.put, List.setIfInBounds_toArray, List.set_cons_zero, List.set_cons_succ, i64_w, i32_w]
                      rfl
                     refine pure_ (i := 4) (N := some 61) (v := ?_) (a' := ?_) #[true, true, true, true, true, false, false, false, false, false, false, false, false, false, false, false, false, false, false, false, false, false, false, false, false] rfl rfl (any_of HT_.out (by kernel_rfl)) (fun _ _ _ h => h) (Or.inl ⟨by rfl, ?_⟩) ?_ ?_
                     rotate_left
                     ·
                      intro w'
                      go_simp
                      with_reducible rfl
                     rotate_left
                     ·
                      simp only [Act.put, List.setIfInBounds_toArray, List.set_cons_zero, List.set_cons_succ, i64_w, i32_w]
                      rfl
                     refine pure_ (i := 5) (N := some 62) (v := ?_) (a' := ?_) #[true, true, true, true, true, true, false, false, false, false, false, false, false, false, false, false, false, false, false, false, false, false, false, false, false] rfl rfl (any_of HT_.out (by kernel_rfl)) (fun _ _ _ h => h) (Or.inl ⟨by rfl, ?_⟩) ?_ ?_
                     rotate_left
                     ·
                      intro w'
                      go_simp
                      with_reducible rfl
                     rotate_left
                     ·
                      simp only [Act.put, List.setIfInBounds_toArray, List.set_cons_zero, List.set_cons_succ, i64_w, i32_w]
                      rfl
                     refine take_ (i := 6) (N := some 63) (v := ?_) (a' := ?_) #[true, true, true, true, true, true, true, false, false, false, false, false, false, false, false, false, false, false, false, false, false, false, false, false, false] rfl rfl (take_ofW HT_.out HW_.out (by kernel_rfl)) (fun _ _ _ h => h) (Or.inl ⟨by rfl, ?_⟩) hHeld ?_ ?_
                     rotate_left
                     ·
                      intro w' s0
                      go_simp
                      with_reducible rfl
                     rotate_left
                     ·
                      simp only [Act.put, List.setIfInBounds_toArray, List.set_cons_zero, List.set_cons_succ, i64_w, i32_w]
                      rfl
                     refine pure_ (i := 7) (N := some 64) (v := ?_) (a' := ?_) #[true, true, true, true, true, true, true, true, false, false, false, false, false, false, false, false, false, false, false, false, false, false, false, false, false] rfl rfl (any_of HT_.out (by kernel_rfl)) (fun _ _ _ h => h) (Or.inl ⟨by rfl, ?_⟩) ?_ ?_
                     rotate_left
                     ·
                      intro w'
                      go_simp
                      with_reducible rfl
                     rotate_left
                     ·
                      simp only [Act.put, List.setIfInBounds_toArray, List.set_cons_zero, List.set_cons_succ, i64_w, i32_w]
                      rfl
                     refine pure_ (i := 8) (N := some 65) (v := undef) (a' := ?_) #[true, true, true, true, true, true, true, true, true, false, false, false, false, false, false, false, false, false, false, false, false, false, false, false, false] rfl rfl (any_of HT_.out (by kernel_rfl)) (fun _ _ _ h => h) (Or.inr ⟨by rfl, rfl⟩) ?_ ?_
                     rotate_left
                     ·
                      simp only [Act.put, List.setIfInBounds_toArray, List.set_cons_zero, List.set_cons_succ, i64_w, i32_w]
                      rfl
                     refine pure_ (i := 9) (N := some 66) (v := undef) (a' := ?_) #[true, true, true, true, true, true, true, true, true, true, false, false, false, false, false, false, false, false, false, false, false, false, false, false, false] rfl rfl (any_of HT_.out (by kernel_rfl)) (fun _ _ _ h => h) (Or.inr ⟨by rfl, rfl⟩) ?_ ?_
                     rotate_left
                     ·
                      simp only [Act.put, List.setIfInBounds_toArray, List.set_cons_zero, List.set_cons_succ, i64_w, i32_w]
                      rfl
                     refine pure_ (i := 10) (N := some 67) (v := undef) (a' := ?_) #[true, true, true, true, true, true, true, true, true, true, true, false, false, false, false, false, false, false, false, false, false, false, false, false, false] rfl rfl (any_of HT_.out (by kernel_rfl)) (fun _ _ _ h => h) (Or.inr ⟨by rfl, rfl⟩) ?_ ?_
                     rotate_left
                     ·
                      simp only [Act.put, List.setIfInBounds_toArray, List.set_cons_zero, List.set_cons_succ, i64_w, i32_w]
                      rfl
                     refine pure_ (i := 11) (N := some 68) (v := undef) (a' := ?_) #[true, true, true, true, true, true, true, true, true, true, true, true, false, false, false, false, false, false, false, false, false, false, false, false, false] rfl rfl (any_of HT_.out (by kernel_rfl)) (fun _ _ _ h => h) (Or.inr ⟨by rfl, rfl⟩) ?_ ?_
                     rotate_left
                     ·
                      simp only [Act.put, List.setIfInBounds_toArray, List.set_cons_zero, List.set_cons_succ, i64_w, i32_w]
                      rfl
                     refine pure_ (i := 12) (N := some 69) (v := undef) (a' := ?_) #[true, true, true, true, true, true, true, true, true, true, true, true, true, false, false, false, false, false, false, false, false, false, false, false, false] rfl rfl (any_of HT_.out (by kernel_rfl)) (fun _ _ _ h => h) (Or.inr ⟨by rfl, rfl⟩) ?_ ?_
                     rotate_left
                     ·
                      simp only [Act.put, List.setIfInBounds_toArray, List.set_cons_zero, List.set_cons_succ, i64_w, i32_w]
                      rfl
                     refine pure_ (i := 13) (N := some 70) (v := undef) (a' := ?_) #[true, true, true, true, true, true, true, true, true, true, true, true, true, true, false, false, false, false, false, false, false, false, false, false, false] rfl rfl (any_of HT_.out (by kernel_rfl)) (fun _ _ _ h => h) (Or.inr ⟨by rfl, rfl⟩) ?_ ?_
                     rotate_left
                     ·
                      simp only [Act.put, List.setIfInBounds_toArray, List.set_cons_zero, List.set_cons_succ, i64_w, i32_w]
                      rfl
                     refine pure_ (i := 14) (N := some 71) (v := undef) (a' := ?_) #[true, true, true, true, true, true, true, true, true, true, true, true, true, true, true, false, false, false, false, false, false, false, false, false, false] rfl rfl (any_of HT_.out (by kernel_rfl)) (fun _ _ _ h => h) (Or.inr ⟨by rfl, rfl⟩) ?_ ?_
                     rotate_left
                     ·
                      simp only [Act.put, List.setIfInBounds_toArray, List.set_cons_zero, List.set_cons_succ, i64_w, i32_w]
                      rfl
                     refine pure_ (i := 15) (N := some 72) (v := undef) (a' := ?_) #[true, true, true, true, true, true, true, true, true, true, true, true, true, true, true, true, false, false, false, false, false, false, false, false, false] rfl rfl (any_of HT_.out (by kernel_rfl)) (fun _ _ _ h => h) (Or.inr ⟨by rfl, rfl⟩) ?_ ?_
                     rotate_left
                     ·
                      simp only [Act.put, List.setIfInBounds_toArray, List.set_cons_zero, List.set_cons_succ, i64_w, i32_w]
                      rfl
                     refine pure_ (i := 16) (N := some 73) (v := undef) (a' := ?_) #[true, true, true, true, true, true, true, true, true, true, true, true, true, true, true, true, true, false, false, false, false, false, false, false, false] rfl rfl (any_of HT_.out (by kernel_rfl)) (fun _ _ _ h => h) (Or.inr ⟨by rfl, rfl⟩) ?_ ?_
                     rotate_left
                     ·
                      simp only [Act.put, List.setIfInBounds_toArray, List.set_cons_zero, List.set_cons_succ, i64_w, i32_w]
                      rfl
                     refine pure_ (i := 17) (N := some 74) (v := undef) (a' := ?_) #[true, true, true, true, true, true, true, true, true, true, true, true, true, true, true, true, true, true, false, false, false, false, false, false, false] rfl rfl (any_of HT_.out (by kernel_rfl)) (fun _ _ _ h => h) (Or.inr ⟨by rfl, rfl⟩) ?_ ?_
                     rotate_left
                     ·
                      simp only [Act.put, List.setIfInBounds_toArray, List.set_cons_zero, List.set_cons_succ, i64_w, i32_w]
                      rfl
                     refine pure_ (i := 18) (N := some 75) (v := undef) (a' := ?_) #[true, true, true, true, true, true, true, true, true, true, true, true, true, true, true, true, true, true, true, false, false, false, false, false, false] rfl rfl (any_of HT_.out (by kernel_rfl)) (fun _ _ _ h => h) (Or.inr ⟨by rfl, rfl⟩) ?_ ?_
                     rotate_left
                     ·
                      simp only [Act.put, List.setIfInBounds_toArray, List.set_cons_zero, List.set_cons_succ, i64_w, i32_w]
                      rfl
                     refine pure_ (i := 19) (N := some 76) (v := undef) (a' := ?_) #[true, true, true, true, true, true, true, true, true, true, true, true, true, true, true, true, true, true, true, true, false, false, false, false, false] rfl rfl (any_of HT_.out (by kernel_rfl)) (fun _ _ _ h => h) (Or.inr ⟨by rfl, rfl⟩) ?_ ?_
                     rotate_left
                     ·
                      simp only [Act.put, List.setIfInBounds_toArray, List.set_cons_zero, List.set_cons_succ, i64_w, i32_w]
                      rfl
                     refine pure_ (i := 20) (N := some 77) (v := undef) (a' := ?_) #[true, true, true, true, true, true, true, true, true, true, true, true, true, true, true, true, true, true, true, true, true, false, false, false, false] rfl rfl (any_of HT_.out (by kernel_rfl)) (fun _ _ _ h => h) (Or.inr ⟨by rfl, rfl⟩) ?_ ?_
                     rotate_left
                     ·
                      simp only [Act.put, List.setIfInBounds_toArray, List.set_cons_zero, List.set_cons_succ, i64_w, i32_w]
                      rfl
                     refine pure_ (i := 21) (N := some 78) (v := undef) (a' := ?_) #[true, true, true, true, true, true, true, true, true, true, true, true, true, true, true, true, true, true, true, true, true, true, false, false, false] rfl rfl (any_of HT_.out (by kernel_rfl)) (fun _ _ _ h => h) (Or.inr ⟨by rfl, rfl⟩) ?_ ?_
                     rotate_left
                     ·
                      simp only [Act.put, List.setIfInBounds_toArray, List.set_cons_zero, List.set_cons_succ, i64_w, i32_w]
                      rfl
                     refine pure_ (i := 22) (N := some 79) (v := ?_) (a' := ?_) #[true, true, true, true, true, true, true, true, true, true, true, true, true, true, true, true, true, true, true, true, true, true, true, false, false] rfl rfl (any_of HT_.out (by kernel_rfl)) (fun _ _ _ h => h) (Or.inl ⟨by rfl, ?_⟩) ?_ ?_
                     rotate_left
                     ·
                      intro w'
                      go_simp
                      with_reducible rfl
                     rotate_left
                     ·
                      simp only [Act.put, List.setIfInBounds_toArray, List.set_cons_zero, List.set_cons_succ, i64_w, i32_w]
                      rfl
                     refine pure_ (i := 23) (N := some 80) (v := ?_) (a' := ?_) #[true, true, true, true, true, true, true, true, true, true, true, true, true, true, true, true, true, true, true, true, true, true, true, true, false] rfl rfl (any_of HT_.out (by kernel_rfl)) (fun _ _ _ h => h) (Or.inl ⟨by rfl, ?_⟩) ?_ ?_
                     rotate_left
                     ·
                      intro w'
                      go_simp
                      with_reducible rfl
                     rotate_left
                     ·
                      simp only [Act.put, List.setIfInBounds_toArray, List.set_cons_zero, List.set_cons_succ, i64_w, i32_w]
                      rfl
                     refine last_ (i := 24) (N := none) #[true, true, true, true, true, true, true, true, true, true, true, true, true, true, true, true, true, true, true, true, true, true, true, true, true] rfl rfl (one_of HT_.out (by kernel_rfl)) (by decide) (fun K hK => ?_)
                     refine skip_ (w1 := ?_) (by rfl) rfl ?_ ?_
                     rotate_left
                     ·
                      go_simp
                      rfl
                     refine hK.out _ _ ?_
                     clear hK K
                     refine done_ (done_of HT_.out (by kernel_rfl)) ?_
                     try go_wp2
                     go_roundg k2
                     case measure => have := HK1.out; have := HK2.out; omega
                     case rel => exact ⟨(y123), (wrap64 (x8_2 + 1)), (by first | rfl | (simp; done) | (simp [*]; done)), H', ⟨by have := HK1.out; have := HK2.out; omega⟩, ⟨by (with_reducible repeat (first | apply Kd.R_alloc | apply Kd.R_drewN | apply Kd.R_drew)); exact Kd.R_mono (Kd.R_far (p := ⟨go72, (x8_2 : Int).toNat, none⟩) (Kd.R_mono HO_5.out (fun k_ hk => (⟨hk, fun e_ => hk (by rw [e_]; rfl)⟩ : _ ∧ k_ ≠ go72))) (fun _ hk => hk.2) (.bool false)) (fun _ hk => hk.1)⟩, ⟨by (with_reducible repeat (first | apply Kd.R_alloc | apply Kd.R_drewN | apply Kd.R_drew)); exact HQ75.out⟩, ⟨by repeat (first | (with_reducible first | exact HB.out | apply below_alloc | apply pw_below_drewN | apply below_drew1 | refine below_set ?_ GB72.out) | exact HB.out)⟩⟩
                    ·
                     rw [if_neg c71] at H
                     exact absurd H (by simp)
                   ·
                    rw [if_neg c70] at H
                    exact absurd H (by simp)
                 ·
                  rw [if_neg c50] at H
                  exact absurd H (by simp)
                ·
                 rw [if_neg c49] at H
                 exact absurd H (by simp)
               ·
                rw [if_neg c47] at H
                have c47b0 : decide (0 < x8_2) = false := decide_eq_false c47
                clear c47
                have H' := Aside0.mk H
                clear H
                have p21 : 0 ≤ (x6_1 : Int) := of_decide_eq_true (by first | (with_reducible assumption) | assumption)
                have q21 : x6_1 < (a0.size : Int) := of_decide_eq_true (by first | (with_reducible assumption) | assumption)
                have hx21 := bt_at a0 x6_1
                replace p21 := eq_true p21
                replace q21 := eq_true q21
                go_wp2
                go_roundg k2
                case measure => have := HK1.out; have := HK2.out; omega
                case rel => exact ⟨(x7_2), (wrap64 (x8_2 + 1)), (by first | rfl | (simp; done) | (simp [*]; done)), H', ⟨by have := HK1.out; have := HK2.out; omega⟩, ⟨by (with_reducible repeat (first | apply Kd.R_alloc | apply Kd.R_drewN | apply Kd.R_drew)); exact HO_5.out⟩, ⟨by (with_reducible repeat (first | apply Kd.R_alloc | apply Kd.R_drewN | apply Kd.R_drew)); exact HO_7.out⟩, ⟨by repeat (first | (with_reducible first | exact HB.out | apply below_alloc | apply pw_below_drewN | apply below_drew1) | exact HB.out)⟩⟩
             ·
              rw [if_neg c20] at H
              exact absurd H (by simp)
            ·
             rw [if_neg c19] at H
             exact absurd H (by simp)
           ·
            rw [if_neg c18] at H
            have c18b0 : decide (x8_2 ≤ (a1.size : Int)) = false := decide_eq_false c18
            clear c18
            have H' := Aside0.mk H
            clear H
            go_wp2
            go_roundg k2
            case measure => have := HK1.out; have := HK2.out; omega
            case rel => exact ⟨(x7_2), (wrap64 (x6_1 + 1)), (by first | rfl | (simp; done) | (simp [*]; done)), H', ⟨by have := HK1.out; have := HK2.out; omega⟩, ⟨by (with_reducible repeat (first | apply Kd.R_alloc | apply Kd.R_drewN | apply Kd.R_drew)); exact Kd.R_mono HO_7.out (fun _ hk => trivial)⟩, ⟨by repeat (first | (with_reducible first | exact HB.out | apply below_alloc | apply pw_below_drewN | apply below_drew1) | exact HB.out)⟩⟩
        ·
         rw [if_neg c15] at H
         exact absurd H (by simp)
       ·
        rw [if_neg c14] at H
        exact absurd H (by simp)
      ·
       rw [if_neg c12] at H
       have c12b0 : decide (x6_1 < (a0.size : Int)) = false := decide_eq_false c12
       clear c12
       by_cases c76 : 0 ≤ (a1.size : Int)
       ·
        rw [if_pos c76] at H
        have c76b0 : decide (0 ≤ (a1.size : Int)) = true := decide_eq_true c76
        have c76b1 : decide (0 ≤ a1.size) = true := decide_eq_true (by omega)
        clear c76
        by_cases c77 : (a1.size : Int) < (x5_1.length : Int)
        ·
         rw [if_pos c77] at H
         have c77b0 : decide ((a1.size : Int) < (x5_1.length : Int)) = true := decide_eq_true c77
         have c77b1 : decide (a1.size < x5_1.length) = true := decide_eq_true (Int.ofNat_lt.mp c77)
         clear c77
         obtain rfl := Option.some.inj H
         obtain ⟨Ao78, co78, eo78⟩ := Kd.R_slice HO_5.out
         subst eo78
         have p111 : 0 ≤ ((a1.size : Int) : Int) := of_decide_eq_true (by first | (with_reducible assumption) | assumption)
         have q111 : (a1.size : Int) < (x5_1.length : Int) := of_decide_eq_true (by first | (with_reducible assumption) | assumption)
         obtain ⟨ad111, e111, hx111_0⟩ := Kd.at_bool (Kd.R_reads' HO_5.out).2.2 (a1.size : Int) p111 q111
         cases e111
         (try simp only [Int.toNat_natCast] at hx111_0)
         replace p111 := eq_true p111
         replace q111 := eq_true q111
         go_wp2
         go_ret
         exact ⟨by first | rfl | (simp [errW_none, errW_some] <;> rfl) | (simp only [← hji3]; first | rfl | (simp [errW_none, errW_some] <;> rfl)) | (simp [*, errW_none, errW_some] <;> rfl), by repeat (first | (with_reducible first | exact HB.out | apply below_alloc | apply pw_below_drewN | apply below_drew1) | exact HB.out)⟩
        ·
         rw [if_neg c77] at H
         exact absurd H (by simp)
       ·
        rw [if_neg c76] at H
        exact absurd H (by simp)
   ·
    rw [if_neg c6] at H
    exact absurd H (by simp)
  ·
   rw [if_neg c5] at H
   exact absurd H (by simp)
 ·
  rw [if_neg c4] at H
  exact absurd H (by simp)
mutual
def spec_l6Pattern.l0 : Nat → ByteArray → Int → Option (Bool)
 | 0, _, _ => none
 | k + 1, x0, x3 => if x3 < (x0.size : Int) then (spec_l6Pattern.j1 k x0 x3 (decide (x3 ≤ 14))) else (spec_l6Pattern.j1 k x0 x3 false)
def spec_l6Pattern.j1 : Nat → ByteArray → Int → Bool → Option (Bool)
 | 0, _, _, _ => none
 | k + 1, x0, x3, x11 => if x11 = true then (if 0 ≤ x3 then (if x3 < (x0.size : Int) then (if (bt x0 x3) = 63 then (spec_l6Pattern.l0 k x0 (wrap64 (x3 + 1))) else (if (bt x0 x3) = 42 then (spec_l6Pattern.l0 k x0 (wrap64 (x3 + 1))) else (if (bt x0 x3) < 97 then (some false) else (if (bt x0 x3) > 122 then (some false) else (spec_l6Pattern.l0 k x0 (wrap64 (x3 + 1))))))) else (none)) else (none)) else (some (decide ((x0.size : Int) ≤ 14)))
end
def spec_l6Pattern.f (k : Nat) (a0 : ByteArray) : Option (Bool) := spec_l6Pattern.l0 k a0 0
theorem spec_l6Pattern.mono_l : ∀ k, (∀ y0 y1, LeO (spec_l6Pattern.l0 k y0 y1) (spec_l6Pattern.l0 (k + 1) y0 y1)) ∧ (∀ y0 y1 y2, LeO (spec_l6Pattern.j1 k y0 y1 y2) (spec_l6Pattern.j1 (k + 1) y0 y1 y2))
 | 0 => ⟨fun _ _ r h => by simp [spec_l6Pattern.l0] at h, fun _ _ _ r h => by simp [spec_l6Pattern.j1] at h⟩
 | k + 1 => by
  obtain ⟨ih0, ih1⟩ := spec_l6Pattern.mono_l k
  refine ⟨?_, ?_⟩
  ·
   intro y0 y1
   unfold spec_l6Pattern.l0
   repeat' first
   | (with_reducible exact ih0 _ _)
   | (with_reducible exact ih1 _ _ _)
   | (with_reducible exact LeO.refl _)
   | (with_reducible exact LeO.none _)
   | (with_reducible refine LeO.ite ?_ ?_)
   | (with_reducible refine LeO.bind ?_ (fun _ => ?_))
   | exact ih0 _ _
   | exact ih1 _ _ _
   | exact LeO.none _
   | refine LeO.ite ?_ ?_
   | refine LeO.bind ?_ (fun _ => ?_)
  ·
   intro y0 y1 y2
   unfold spec_l6Pattern.j1
   repeat' first
   | (with_reducible exact ih0 _ _)
   | (with_reducible exact ih1 _ _ _)
   | (with_reducible exact LeO.refl _)
   | (with_reducible exact LeO.none _)
   | (with_reducible refine LeO.ite ?_ ?_)
   | (with_reducible refine LeO.bind ?_ (fun _ => ?_))
   | exact ih0 _ _
   | exact ih1 _ _ _
   | exact LeO.none _
   | refine LeO.ite ?_ ?_
   | refine LeO.bind ?_ (fun _ => ?_)
theorem spec_l6Pattern.mono : ∀ a0 k, LeO (spec_l6Pattern.f k a0) (spec_l6Pattern.f (k + 1) a0) := by
 intro a0 k
 obtain ⟨ih0, ih1⟩ := spec_l6Pattern.mono_l k
 unfold spec_l6Pattern.f
 repeat' first
   | (with_reducible exact ih0 _ _)
   | (with_reducible exact ih1 _ _ _)
   | (with_reducible exact LeO.refl _)
   | (with_reducible exact LeO.none _)
   | (with_reducible refine LeO.ite ?_ ?_)
   | (with_reducible refine LeO.bind ?_ (fun _ => ?_))
   | exact ih0 _ _
   | exact ih1 _ _ _
   | exact LeO.none _
   | refine LeO.ite ?_ ?_
   | refine LeO.bind ?_ (fun _ => ?_)
set_option maxHeartbeats 8000000 in
set_option maxRecDepth 100000 in
theorem spec_l6Pattern.calls (k : Nat) (a0 : ByteArray) (r : Bool) (w : World) (h : spec_l6Pattern.f k a0 = some r) :
  Calls Tryd.prog 9 #[.string a0] w fun e w' => e = .returned (.bool r) ∧ Drawn0 w w' := by
 have H : (spec_l6Pattern.l0 k a0 0) = some r := h
 clear h
 have H' := Aside0.mk H
 clear H
 go_enter Tryd.func9, Tryd.ntmps9
 go_wp2
 go_loopg [3] k (fun kq v3 w' => ∃ (x3_1 : Int), v3 = .int .i64 x3_1 ∧ Aside0 (spec_l6Pattern.l0 kq a0 x3_1 = some r) ∧ Aside0 (kq ≤ k) ∧ Drawn0 w w')
 case atStart => exact ⟨(0), (by first | rfl | (simp; done) | (simp [*]; done)), H', ⟨Nat.le_refl _⟩, by repeat (first | exact Drawn0.refl _ | apply Drawn0.step)⟩
 case round =>
  clear H'
  obtain ⟨x3_1, rfl, HA, HK1, ⟨m1, rfl⟩⟩ := hrel
  cases gk with
  | zero => exact absurd HA.out (by simp [spec_l6Pattern.l0])
  | succ k1 =>
   have H := HA.out
   clear HA
   simp only [spec_l6Pattern.l0] at H
   have HC2 := Aside0.mk H
   clear H
   go_upto_region 2 with (fail)
   go_cut [11] (fun v11 wc => ∃ (kq : Nat) (x11_1 : Bool), v11 = .bool x11_1 ∧ Aside0 (spec_l6Pattern.j1 kq a0 x3_1 x11_1 = some r) ∧ Aside0 (kq ≤ k1) ∧ Drawn0 w wc)
   case first =>
    have H := HC2.out
    clear HC2
    by_cases c3 : x3_1 < (a0.size : Int)
    ·
     rw [if_pos c3] at H
     have c3b0 : decide (x3_1 < (a0.size : Int)) = true := decide_eq_true c3
     clear c3
     (first | rw [c3b0] | (simp only [i64_w, i32_w]; rw [c3b0]) | skip)
     have H' := Aside0.mk H
     clear H
     go_wp2
     go_meet
     case rel => exact ⟨_, (decide (x3_1 ≤ 14)), (by first | rfl | (simp; done) | (simp [*]; done)), H', ⟨by have := HK1.out; first | omega | exact Nat.le_refl _⟩, by repeat (first | exact Drawn0.refl _ | apply Drawn0.step)⟩
    ·
     rw [if_neg c3] at H
     have c3b0 : decide (x3_1 < (a0.size : Int)) = false := decide_eq_false c3
     clear c3
     (first | rw [c3b0] | (simp only [i64_w, i32_w]; rw [c3b0]) | skip)
     have H' := Aside0.mk H
     clear H
     go_wp2
     go_meet
     case rel => exact ⟨_, (false), (by first | rfl | (simp; done) | (simp [*]; done)), H', ⟨by have := HK1.out; first | omega | exact Nat.le_refl _⟩, by repeat (first | exact Drawn0.refl _ | apply Drawn0.step)⟩
   case rest =>
    clear HC2
    try clear p2
    try clear c3
    try clear c3b0
    obtain ⟨kq, x11_1, rfl, HA, HJ1, ⟨mc1, rfl⟩⟩ := hcut
    cases kq with
    | zero => exact absurd HA.out (by simp [spec_l6Pattern.j1])
    | succ kj1 =>
     have H := HA.out
     clear HA
     simp only [spec_l6Pattern.j1] at H
     by_cases c4 : x11_1 = true
     ·
      subst c4
      have H1 : (if 0 ≤ x3_1 then (if x3_1 < (a0.size : Int) then (if (bt a0 x3_1) = 63 then (spec_l6Pattern.l0 kj1 a0 (wrap64 (x3_1 + 1))) else (if (bt a0 x3_1) = 42 then (spec_l6Pattern.l0 kj1 a0 (wrap64 (x3_1 + 1))) else (if (bt a0 x3_1) < 97 then (some false) else (if (bt a0 x3_1) > 122 then (some false) else (spec_l6Pattern.l0 kj1 a0 (wrap64 (x3_1 + 1))))))) else (none)) else (none)) = some r := by rw [if_pos rfl] at H; exact H
      clear H
      have H := H1
      clear H1
      by_cases c5 : 0 ≤ x3_1
      ·
       rw [if_pos c5] at H
       have c5b0 : decide (0 ≤ x3_1) = true := decide_eq_true c5
       clear c5
       by_cases c6 : x3_1 < (a0.size : Int)
       ·
        rw [if_pos c6] at H
        have c6b0 : decide (x3_1 < (a0.size : Int)) = true := decide_eq_true c6
        clear c6
        by_cases c8 : (bt a0 x3_1) = 63
        ·
         rw [if_pos c8] at H
         have c8b0 : ((bt a0 x3_1) == 63) = true := beq_iff_eq.mpr c8
         have c8b1 : ((bt a0 x3_1) != 63) = false := bne_eq_false_iff_eq.mpr c8
         clear c8
         have H' := Aside0.mk H
         clear H
         have p7 : 0 ≤ (x3_1 : Int) := of_decide_eq_true (by first | (with_reducible assumption) | assumption)
         have q7 : x3_1 < (a0.size : Int) := of_decide_eq_true (by first | (with_reducible assumption) | assumption)
         have hx7 := bt_at a0 x3_1
         replace p7 := eq_true p7
         replace q7 := eq_true q7
         go_wp2
         go_roundg kj1
         case measure => have := HK1.out; have := HJ1.out; omega
         case rel => exact ⟨(wrap64 (x3_1 + 1)), (by first | rfl | (simp; done) | (simp [*]; done)), H', ⟨by have := HK1.out; have := HJ1.out; omega⟩, by repeat (first | exact Drawn0.refl _ | apply Drawn0.step)⟩
        ·
         rw [if_neg c8] at H
         have c8b0 : ((bt a0 x3_1) == 63) = false := beq_eq_false_iff_ne.mpr c8
         have c8b1 : ((bt a0 x3_1) != 63) = true := bne_iff_ne.mpr c8
         by_cases c10 : (bt a0 x3_1) = 42
         ·
          rw [if_pos c10] at H
          have c10b0 : ((bt a0 x3_1) == 42) = true := beq_iff_eq.mpr c10
          have c10b1 : ((bt a0 x3_1) != 42) = false := bne_eq_false_iff_eq.mpr c10
          clear c10
          have H' := Aside0.mk H
          clear H
          have p7 : 0 ≤ (x3_1 : Int) := of_decide_eq_true (by first | (with_reducible assumption) | assumption)
          have q7 : x3_1 < (a0.size : Int) := of_decide_eq_true (by first | (with_reducible assumption) | assumption)
          have hx7 := bt_at a0 x3_1
          replace p7 := eq_true p7
          replace q7 := eq_true q7
          have p9 : 0 ≤ (x3_1 : Int) := of_decide_eq_true (by first | (with_reducible assumption) | assumption)
          have q9 : x3_1 < (a0.size : Int) := of_decide_eq_true (by first | (with_reducible assumption) | assumption)
          have hx9 := bt_at a0 x3_1
          replace p9 := eq_true p9
          replace q9 := eq_true q9
          go_wp2
          go_roundg kj1
          case measure => have := HK1.out; have := HJ1.out; omega
          case rel => exact ⟨(wrap64 (x3_1 + 1)), (by first | rfl | (simp; done) | (simp [*]; done)), H', ⟨by have := HK1.out; have := HJ1.out; omega⟩, by repeat (first | exact Drawn0.refl _ | apply Drawn0.step)⟩
         ·
          rw [if_neg c10] at H
          have c10b0 : ((bt a0 x3_1) == 42) = false := beq_eq_false_iff_ne.mpr c10
          have c10b1 : ((bt a0 x3_1) != 42) = true := bne_iff_ne.mpr c10
          by_cases c12 : (bt a0 x3_1) < 97
          ·
           rw [if_pos c12] at H
           have c12b0 : decide ((bt a0 x3_1) < 97) = true := decide_eq_true c12
           clear c12
           obtain rfl := Option.some.inj H
           have p7 : 0 ≤ (x3_1 : Int) := of_decide_eq_true (by first | (with_reducible assumption) | assumption)
           have q7 : x3_1 < (a0.size : Int) := of_decide_eq_true (by first | (with_reducible assumption) | assumption)
           have hx7 := bt_at a0 x3_1
           replace p7 := eq_true p7
           replace q7 := eq_true q7
           have p9 : 0 ≤ (x3_1 : Int) := of_decide_eq_true (by first | (with_reducible assumption) | assumption)
           have q9 : x3_1 < (a0.size : Int) := of_decide_eq_true (by first | (with_reducible assumption) | assumption)
           have hx9 := bt_at a0 x3_1
           replace p9 := eq_true p9
           replace q9 := eq_true q9
           have p11 : 0 ≤ (x3_1 : Int) := of_decide_eq_true (by first | (with_reducible assumption) | assumption)
           have q11 : x3_1 < (a0.size : Int) := of_decide_eq_true (by first | (with_reducible assumption) | assumption)
           have hx11 := bt_at a0 x3_1
           replace p11 := eq_true p11
           replace q11 := eq_true q11
           go_wp2
           go_ret
           exact ⟨by first | rfl | (simp; done) | (simp [*]; done), by repeat (first | exact Drawn0.refl _ | apply Drawn0.step)⟩
          ·
           rw [if_neg c12] at H
           have c12b0 : decide ((bt a0 x3_1) < 97) = false := decide_eq_false c12
           clear c12
           by_cases c14 : (bt a0 x3_1) > 122
           ·
            rw [if_pos c14] at H
            have c14b0 : decide (122 < (bt a0 x3_1)) = true := decide_eq_true c14
            clear c14
            obtain rfl := Option.some.inj H
            have p7 : 0 ≤ (x3_1 : Int) := of_decide_eq_true (by first | (with_reducible assumption) | assumption)
            have q7 : x3_1 < (a0.size : Int) := of_decide_eq_true (by first | (with_reducible assumption) | assumption)
            have hx7 := bt_at a0 x3_1
            replace p7 := eq_true p7
            replace q7 := eq_true q7
            have p9 : 0 ≤ (x3_1 : Int) := of_decide_eq_true (by first | (with_reducible assumption) | assumption)
            have q9 : x3_1 < (a0.size : Int) := of_decide_eq_true (by first | (with_reducible assumption) | assumption)
            have hx9 := bt_at a0 x3_1
            replace p9 := eq_true p9
            replace q9 := eq_true q9
            have p11 : 0 ≤ (x3_1 : Int) := of_decide_eq_true (by first | (with_reducible assumption) | assumption)
            have q11 : x3_1 < (a0.size : Int) := of_decide_eq_true (by first | (with_reducible assumption) | assumption)
            have hx11 := bt_at a0 x3_1
            replace p11 := eq_true p11
            replace q11 := eq_true q11
            have p13 : 0 ≤ (x3_1 : Int) := of_decide_eq_true (by first | (with_reducible assumption) | assumption)
            have q13 : x3_1 < (a0.size : Int) := of_decide_eq_true (by first | (with_reducible assumption) | assumption)
            have hx13 := bt_at a0 x3_1
            replace p13 := eq_true p13
            replace q13 := eq_true q13
            go_wp2
            go_ret
            exact ⟨by first | rfl | (simp; done) | (simp [*]; done), by repeat (first | exact Drawn0.refl _ | apply Drawn0.step)⟩
           ·
            rw [if_neg c14] at H
            have c14b0 : decide (122 < (bt a0 x3_1)) = false := decide_eq_false c14
            clear c14
            have H' := Aside0.mk H
            clear H
            have p7 : 0 ≤ (x3_1 : Int) := of_decide_eq_true (by first | (with_reducible assumption) | assumption)
            have q7 : x3_1 < (a0.size : Int) := of_decide_eq_true (by first | (with_reducible assumption) | assumption)
            have hx7 := bt_at a0 x3_1
            replace p7 := eq_true p7
            replace q7 := eq_true q7
            have p9 : 0 ≤ (x3_1 : Int) := of_decide_eq_true (by first | (with_reducible assumption) | assumption)
            have q9 : x3_1 < (a0.size : Int) := of_decide_eq_true (by first | (with_reducible assumption) | assumption)
            have hx9 := bt_at a0 x3_1
            replace p9 := eq_true p9
            replace q9 := eq_true q9
            have p11 : 0 ≤ (x3_1 : Int) := of_decide_eq_true (by first | (with_reducible assumption) | assumption)
            have q11 : x3_1 < (a0.size : Int) := of_decide_eq_true (by first | (with_reducible assumption) | assumption)
            have hx11 := bt_at a0 x3_1
            replace p11 := eq_true p11
            replace q11 := eq_true q11
            have p13 : 0 ≤ (x3_1 : Int) := of_decide_eq_true (by first | (with_reducible assumption) | assumption)
            have q13 : x3_1 < (a0.size : Int) := of_decide_eq_true (by first | (with_reducible assumption) | assumption)
            have hx13 := bt_at a0 x3_1
            replace p13 := eq_true p13
            replace q13 := eq_true q13
            go_wp2
            go_roundg kj1
            case measure => have := HK1.out; have := HJ1.out; omega
            case rel => exact ⟨(wrap64 (x3_1 + 1)), (by first | rfl | (simp; done) | (simp [*]; done)), H', ⟨by have := HK1.out; have := HJ1.out; omega⟩, by repeat (first | exact Drawn0.refl _ | apply Drawn0.step)⟩
       ·
        rw [if_neg c6] at H
        exact absurd H (by simp)
      ·
       rw [if_neg c5] at H
       exact absurd H (by simp)
     ·
      replace c4 := Bool.eq_false_iff.mpr c4
      subst c4
      have H1 : (some (decide ((a0.size : Int) ≤ 14))) = some r := by rw [if_neg (show ¬ (false = true) by decide)] at H; exact H
      clear H
      have H := H1
      clear H1
      obtain rfl := Option.some.inj H
      go_wp2
      go_ret
      exact ⟨by first | rfl | (simp; done) | (simp [*]; done), by repeat (first | exact Drawn0.refl _ | apply Drawn0.step)⟩
def spec_DoesFit.f (k : Nat) (a0 : ByteArray) (a1 : ByteArray) : Option (Bool × Bool) := (spec_l6Pattern.f k a0).bind fun t124 => (if t124 = true then ((spec_l2Word.f k a1).bind fun t125 => (if t125 = true then ((spec_l6Fits.f k a0 a1).bind fun t126 => (some (t126, true))) else (some (false, false)))) else (some (false, false)))
theorem spec_DoesFit.mono : ∀ a0 a1 k, LeO (spec_DoesFit.f k a0 a1) (spec_DoesFit.f (k + 1) a0 a1) := by
 intro a0 a1 k
 unfold spec_DoesFit.f
 repeat' first
   | (with_reducible exact spec_l2Word.mono _ _)
   | (with_reducible exact spec_l6Fits.mono _ _ _)
   | (with_reducible exact spec_l6Pattern.mono _ _)
   | (with_reducible exact LeO.refl _)
   | (with_reducible exact LeO.none _)
   | (with_reducible refine LeO.ite ?_ ?_)
   | (with_reducible refine LeO.bind ?_ (fun _ => ?_))
   | exact spec_l2Word.mono _ _
   | exact spec_l6Fits.mono _ _ _
   | exact spec_l6Pattern.mono _ _
   | exact LeO.none _
   | refine LeO.ite ?_ ?_
   | refine LeO.bind ?_ (fun _ => ?_)
set_option maxHeartbeats 8000000 in
set_option maxRecDepth 100000 in
theorem spec_DoesFit.calls (k : Nat) (a0 : ByteArray) (a1 : ByteArray) (r1 : Bool) (r2 : Bool) (w : World) (h : spec_DoesFit.f k a0 a1 = some (r1, r2)) :
  Calls Tryd.prog 7 #[.string a0, .string a1] w fun e w' => e = .returned (.tuple #[.bool r1, .bool r2]) ∧ Below w.heap.size w w' := by
 have HB := Aside0.mk (Below.refl w.heap.size w)
 have H : ((spec_l6Pattern.f k a0).bind fun t124 => (if t124 = true then ((spec_l2Word.f k a1).bind fun t125 => (if t125 = true then ((spec_l6Fits.f k a0 a1).bind fun t126 => (some (t126, true))) else (some (false, false)))) else (some (false, false)))) = some (r1, r2) := h
 clear h
 replace H := Option.bind_eq_some_iff.mp H
 obtain ⟨t124, A30, H⟩ := H
 replace H : (if t124 = true then ((spec_l2Word.f k a1).bind fun t125 => (if t125 = true then ((spec_l6Fits.f k a0 a1).bind fun t126 => (some (t126, true))) else (some (false, false)))) else (some (false, false))) = some (r1, r2) := H
 have A3 := Aside0.mk A30
 clear A30
 by_cases c4 : t124 = true
 ·
  subst c4
  have H1 : ((spec_l2Word.f k a1).bind fun t125 => (if t125 = true then ((spec_l6Fits.f k a0 a1).bind fun t126 => (some (t126, true))) else (some (false, false)))) = some (r1, r2) := by rw [if_pos rfl] at H; exact H
  clear H
  have H := H1
  clear H1
  replace H := Option.bind_eq_some_iff.mp H
  obtain ⟨t125, A50, H⟩ := H
  replace H : (if t125 = true then ((spec_l6Fits.f k a0 a1).bind fun t126 => (some (t126, true))) else (some (false, false))) = some (r1, r2) := H
  have A5 := Aside0.mk A50
  clear A50
  by_cases c6 : t125 = true
  ·
   subst c6
   have H1 : ((spec_l6Fits.f k a0 a1).bind fun t126 => (some (t126, true))) = some (r1, r2) := by rw [if_pos rfl] at H; exact H
   clear H
   have H := H1
   clear H1
   replace H := Option.bind_eq_some_iff.mp H
   obtain ⟨t126, A70, H⟩ := H
   replace H : (some (t126, true)) = some (r1, r2) := H
   have A7 := Aside0.mk A70
   clear A70
   simp only [Option.some.injEq, Prod.mk.injEq] at H
   obtain ⟨rfl, rfl⟩ := H
   go_enter Tryd.func7, Tryd.ntmps7
   go_wp2_with (first | ((with_reducible refine gate_callee (f := 9) rfl ?_); refine goesL_ (some 7) rfl rfl Tryd.func9 (by kernel_rfl) rfl #[.string a0] rfl (by (try simp only [List.map_toArray, List.map_cons, List.map_nil]); first | done | rfl | (simp only [List.length_drop, List.length_take]; rfl)) ?_; (with_reducible refine (spec_l6Pattern.calls k a0 true _ A3.out).mono ?_); rintro e w' ⟨rfl, ⟨nd, rfl⟩⟩; refine ⟨_, rfl, ?_⟩) | (go_at_call 11; (with_reducible refine (spec_l2Word.calls k a1 true _ A5.out).mono ?_); rintro e w' ⟨rfl, ⟨nd, rfl⟩⟩) | ((with_reducible refine gate_callee (f := 12) rfl ?_); refine goesL_ (some 16) rfl rfl Tryd.func12 (by kernel_rfl) rfl #[.string a0, .string a1] rfl (by (try simp only [List.map_toArray, List.map_cons, List.map_nil]); first | done | rfl | (simp only [List.length_drop, List.length_take]; rfl)) ?_; (with_reducible refine (spec_l6Fits.calls k a0 a1 t126 _ A7.out).mono ?_); rintro e w8 ⟨rfl, hb⟩; refine ⟨_, rfl, ?_⟩; have n0_ := Aside0.mk (below_step (by repeat (first | (with_reducible first | exact HB.out | apply below_alloc | apply pw_below_drewN | apply below_drew1) | exact HB.out)) hb); clear HB; have HB := n0_; clear n0_; (try clear hb); (try clear hb2); (try clear hk); (try clear hi)))
   go_ret2
   exact ⟨by first | rfl | (simp [errW_none, errW_some] <;> rfl) | (simp [*, errW_none, errW_some] <;> rfl), by repeat (first | (with_reducible first | exact HB.out | apply below_alloc | apply pw_below_drewN | apply below_drew1) | exact HB.out)⟩
  ·
   replace c6 := Bool.eq_false_iff.mpr c6
   subst c6
   have H1 : (some (false, false)) = some (r1, r2) := by rw [if_neg (show ¬ (false = true) by decide)] at H; exact H
   clear H
   have H := H1
   clear H1
   simp only [Option.some.injEq, Prod.mk.injEq] at H
   obtain ⟨rfl, rfl⟩ := H
   go_enter Tryd.func7, Tryd.ntmps7
   go_wp2_with (first | ((with_reducible refine gate_callee (f := 9) rfl ?_); refine goesL_ (some 7) rfl rfl Tryd.func9 (by kernel_rfl) rfl #[.string a0] rfl (by (try simp only [List.map_toArray, List.map_cons, List.map_nil]); first | done | rfl | (simp only [List.length_drop, List.length_take]; rfl)) ?_; (with_reducible refine (spec_l6Pattern.calls k a0 true _ A3.out).mono ?_); rintro e w' ⟨rfl, ⟨nd, rfl⟩⟩; refine ⟨_, rfl, ?_⟩) | (go_at_call 11; (with_reducible refine (spec_l2Word.calls k a1 false _ A5.out).mono ?_); rintro e w' ⟨rfl, ⟨nd, rfl⟩⟩))
   go_ret2
   exact ⟨by first | rfl | (simp [errW_none, errW_some] <;> rfl) | (simp [*, errW_none, errW_some] <;> rfl), by repeat (first | (with_reducible first | exact HB.out | apply below_alloc | apply pw_below_drewN | apply below_drew1) | exact HB.out)⟩
 ·
  replace c4 := Bool.eq_false_iff.mpr c4
  subst c4
  have H1 : (some (false, false)) = some (r1, r2) := by rw [if_neg (show ¬ (false = true) by decide)] at H; exact H
  clear H
  have H := H1
  clear H1
  simp only [Option.some.injEq, Prod.mk.injEq] at H
  obtain ⟨rfl, rfl⟩ := H
  go_enter Tryd.func7, Tryd.ntmps7
  go_wp2_with (first | ((with_reducible refine gate_callee (f := 9) rfl ?_); refine goesL_ (some 7) rfl rfl Tryd.func9 (by kernel_rfl) rfl #[.string a0] rfl (by (try simp only [List.map_toArray, List.map_cons, List.map_nil]); first | done | rfl | (simp only [List.length_drop, List.length_take]; rfl)) ?_; (with_reducible refine (spec_l6Pattern.calls k a0 false _ A3.out).mono ?_); rintro e w' ⟨rfl, ⟨nd, rfl⟩⟩; refine ⟨_, rfl, ?_⟩))
  go_ret2
  exact ⟨by first | rfl | (simp [errW_none, errW_some] <;> rfl) | (simp [*, errW_none, errW_some] <;> rfl), by repeat (first | (with_reducible first | exact HB.out | apply below_alloc | apply pw_below_drewN | apply below_drew1) | exact HB.out)⟩
end Go.Proofs.YtjpepfdpihojfaaDoor.P
namespace Go.Proofs
open Go.Shelf
def Tryd.lays160_ren : Go.Shelf.Ren := ⟨fun | 160 => 18 | 232 => 22 | 231 => 21 | 227 => 23 | 234 => 25 | 233 => 24 | 236 => 27 | 235 => 26 | 228 => 31 | 271 => 34 | 151 => 33 | 197 => 32 | 120 => 43 | 152 => 42 | 260 => 41 | 137 => 50 | 119 => 51 | 224 => 52 | 225 => 53 | 217 => 64 | 266 => 73 | n => n, fun | 9 => 9 | 4 => 4 | 3 => 3 | 5 => 5 | 117 => 54 | 116 => 53 | 0 => 0 | 124 => 57 | 21 => 21 | 105 => 62 | 46 => 96 | 119 => 73 | 139 => 99 | 138 => 98 | n => n, fun | 3 => 0 | 4 => 1 | n => n⟩
theorem Tryd.lays160 : Go.Proofs.Lays.n160 Tryd.prog Tryd.lays160_ren := {
  mixed := by kernel_rfl
  f119 := Tryd.func51.trans (congrArg some (by kernel_rfl))
  f120 := Tryd.func43.trans (congrArg some (by kernel_rfl))
  f137 := Tryd.func50.trans (congrArg some (by kernel_rfl))
  f151 := Tryd.func33.trans (congrArg some (by kernel_rfl))
  f152 := Tryd.func42.trans (congrArg some (by kernel_rfl))
  f160 := Tryd.func18.trans (congrArg some (by kernel_rfl))
  f197 := Tryd.func32.trans (congrArg some (by kernel_rfl))
  f217 := Tryd.func64.trans (congrArg some (by kernel_rfl))
  f224 := Tryd.func52.trans (congrArg some (by kernel_rfl))
  f225 := Tryd.func53.trans (congrArg some (by kernel_rfl))
  f227 := Tryd.func23.trans (congrArg some (by kernel_rfl))
  f228 := Tryd.func31.trans (congrArg some (by kernel_rfl))
  f231 := Tryd.func21.trans (congrArg some (by kernel_rfl))
  f232 := Tryd.func22.trans (congrArg some (by kernel_rfl))
  f233 := Tryd.func24.trans (congrArg some (by kernel_rfl))
  f234 := Tryd.func25.trans (congrArg some (by kernel_rfl))
  f235 := Tryd.func26.trans (congrArg some (by kernel_rfl))
  f236 := Tryd.func27.trans (congrArg some (by kernel_rfl))
  f260 := Tryd.func41.trans (congrArg some (by kernel_rfl))
  f266 := Tryd.func73.trans (congrArg some (by kernel_rfl))
  f271 := Tryd.func34.trans (congrArg some (by kernel_rfl))
  t0 := Tryd.underlying0
  a0 := Tryd.isAgg0
  z0 := Tryd.sizeOf0
  v0 := Tryd.zeroValue0
  t3 := Tryd.underlying3
  a3 := Tryd.isAgg3
  z3 := Tryd.sizeOf3
  v3 := Tryd.zeroValue3
  t4 := Tryd.underlying4
  a4 := Tryd.isAgg4
  z4 := Tryd.sizeOf4
  v4 := Tryd.zeroValue4
  t5 := Tryd.underlying5
  a5 := Tryd.isAgg5
  z5 := Tryd.sizeOf5
  v5 := Tryd.zeroValue5
  t9 := Tryd.underlying9
  a9 := Tryd.isAgg9
  z9 := Tryd.sizeOf9
  v9 := Tryd.zeroValue9
  t21 := Tryd.underlying21
  a21 := Tryd.isAgg21
  z21 := Tryd.sizeOf21
  v21 := Tryd.zeroValue21
  t46 := Tryd.underlying96
  a46 := Tryd.isAgg96
  z46 := Tryd.sizeOf96
  v46 := Tryd.zeroValue96
  t105 := Tryd.underlying62
  a105 := Tryd.isAgg62
  z105 := Tryd.sizeOf62
  v105 := Tryd.zeroValue62
  t116 := Tryd.underlying53
  a116 := Tryd.isAgg53
  z116 := Tryd.sizeOf53
  t117 := Tryd.underlying54
  a117 := Tryd.isAgg54
  z117 := Tryd.sizeOf54
  v117 := Tryd.zeroValue54
  t119 := Tryd.underlying73
  a119 := Tryd.isAgg73
  z119 := Tryd.sizeOf73
  t124 := Tryd.underlying57
  a124 := Tryd.isAgg57
  z124 := Tryd.sizeOf57
  v124 := Tryd.zeroValue57
  t138 := Tryd.underlying98
  a138 := Tryd.isAgg98
  z138 := Tryd.sizeOf98
  v138 := Tryd.zeroValue98
  t139 := Tryd.underlying99
  a139 := Tryd.isAgg99
  z139 := Tryd.sizeOf99
  v139 := Tryd.zeroValue99
  g3 := by kernel_rfl
  g4 := by kernel_rfl }
end Go.Proofs
namespace Go.Proofs.YtjpepfdpihojfaaDoor.P
open Go.RowKit Go.Proofs.YtjpepfdpihojfaaDoorW.PrintWords Go.Proofs.YtjpepfdpihojfaaDoorW.PrintLast Go.Proofs.YtjpepfdpihojfaaDoorW.PrintMore
attribute [local go_sem] max2_int min2_int max_two min_two max_three min_three max_four min_four
set_option linter.unusedVariables false
set_option linter.unusedSimpArgs false
def impl_areLetters.letter (c : UInt8) : Bool := decide (97 ≤ c.toNat ∧ c.toNat ≤ 122)
def impl_areLetters.f (a0 : ByteArray) : Option Bool := if a0.size ≤ 9223372036854775807 then some (a0.data.toList.all impl_areLetters.letter) else none
def impl_areLetters.abc : List UInt8 := [97, 98, 99, 100, 101, 102, 103, 104, 105, 106, 107, 108, 109, 110, 111, 112, 113, 114, 115, 116, 117, 118, 119, 120, 121, 122]
theorem impl_areLetters.abc_mem (c : UInt8) : impl_areLetters.abc.contains c = impl_areLetters.letter c := by
 have h : ∀ n : Fin 256, impl_areLetters.abc.contains (UInt8.ofNat n.val) = impl_areLetters.letter (UInt8.ofNat n.val) := by decide +kernel
 have := h ⟨c.toNat, c.toNat_lt⟩
 simpa using this
theorem impl_areLetters.dw_nil (p : UInt8 → Bool) : ∀ l : List UInt8, l.dropWhile p = [] ↔ ∀ x ∈ l, p x = true
 | [] => by simp
 | a :: l => by
  cases h : p a
  ·
   simp [List.dropWhile_cons, h]
  ·
   simp [List.dropWhile_cons, h, impl_areLetters.dw_nil p l]
theorem impl_areLetters.dw_head (p : UInt8 → Bool) : ∀ (l t : List UInt8) (a : UInt8), l.dropWhile p = a :: t → p a = false
 | [], _, _, h => by simp at h
 | b :: l, t, a, h => by
  cases hb : p b
  ·
   simp [List.dropWhile_cons, hb] at h; rw [← h.1]; exact hb
  ·
   simp [List.dropWhile_cons, hb] at h; exact impl_areLetters.dw_head p l t a h
theorem impl_areLetters.trim_eq (p : UInt8 → Bool) (l : List UInt8) : ((l.reverse.dropWhile p).reverse.dropWhile p).isEmpty = l.all p := by
 rw [Bool.eq_iff_iff, List.isEmpty_iff, impl_areLetters.dw_nil p, List.all_eq_true]
 constructor
 ·
  intro h
  cases hm : l.reverse.dropWhile p with
  | nil =>
   rw [impl_areLetters.dw_nil p] at hm
   exact fun x hx => hm x (by simpa using hx)
  | cons a t =>
   have h1 : p a = true := h a (by rw [hm]; simp)
   rw [impl_areLetters.dw_head p _ _ _ hm] at h1; cases h1
 ·
  intro h x hx
  have : x ∈ l.reverse.dropWhile p := by simpa using hx
  have := (List.dropWhile_sublist p).subset this
  exact h x (by simpa using this)
theorem impl_areLetters.trim_nil (l : List UInt8) : (Lib.trimS l impl_areLetters.abc).isEmpty = l.all impl_areLetters.letter := by
 unfold Lib.trimS Lib.trimLeftS Lib.trimRightS
 have : (fun x => impl_areLetters.abc.contains x) = impl_areLetters.letter := funext impl_areLetters.abc_mem
 rw [this, impl_areLetters.trim_eq]
theorem impl_areLetters.rb {a b : Bool} (h : a = b) : Ending.returned (.bool a) = .returned (.bool b) := by rw [h]
set_option maxHeartbeats 2000000 in
theorem impl_areLetters.calls (a0 : ByteArray) (r : Bool) (w : World) (h : impl_areLetters.f a0 = some r) :
  Calls Tryd.prog 15 #[.string a0] w fun e w' => e = .returned (.bool r) ∧ Below w.heap.size w w' := by
 unfold impl_areLetters.f at h
 by_cases hs : a0.size ≤ 9223372036854775807
 ·
  rw [if_pos hs] at h
  have H := Aside0.mk (Option.some.inj h)
  clear h
  have HC := Aside0.mk (Go.Proofs.Any.strings_Trim_laid Go.Proofs.Tryd.lays160 (by kernel_rfl) a0 ⟨#[97, 98, 99, 100, 101, 102, 103, 104, 105, 106, 107, 108, 109, 110, 111, 112, 113, 114, 115, 116, 117, 118, 119, 120, 121, 122]⟩ w hs (by decide) (Go.Proofs.ascii_of_all (by decide)))
  have HT := Aside0.mk ((show (Lib.trimS a0.data.toList impl_areLetters.abc).isEmpty = r from (impl_areLetters.trim_nil _).trans H.out))
  clear H
  go_enter Tryd.func15, Tryd.ntmps15
  go_wp2_with fail
  refine HC.out.mono ?_
  clear HC
  rintro e w1 ⟨rfl, hb0⟩
  have HB := Aside0.mk hb0
  clear hb0
  obtain ⟨t, ht⟩ : ∃ t, t = Lib.trimS a0.data.toList impl_areLetters.abc := ⟨_, rfl⟩
  rw [show Lib.trimS a0.data.toList (⟨#[97, 98, 99, 100, 101, 102, 103, 104, 105, 106, 107, 108, 109, 110, 111, 112, 113, 114, 115, 116, 117, 118, 119, 120, 121, 122]⟩ : ByteArray).data.toList = t from ht.symm]
  rw [← ht] at HT
  clear ht
  cases t with
  | nil =>
   go_wp2_with fail
   go_ret
   exact ⟨impl_areLetters.rb (by rw [← HT.out]; rfl), HB.out⟩
  | cons c t =>
   go_wp2_with fail
   go_ret
   exact ⟨impl_areLetters.rb (by rw [← HT.out]; rfl), HB.out⟩
 ·
  rw [if_neg hs] at h; cases h
theorem impl_isPattern.disable (w : World) : (callFunc 54 #[]).run Tryd.prog w = .ok (.value (.tuple #[])) w := run_call_mark0 Tryd.func54 (by kernel_rfl) (by kernel_rfl) (by kernel_rfl) .disable (by kernel_rfl) w
theorem impl_isPattern.enable (w : World) : (callFunc 56 #[]).run Tryd.prog w = .ok (.value (.tuple #[])) w := run_call_mark0 Tryd.func56 (by kernel_rfl) (by kernel_rfl) (by kernel_rfl) .enable (by kernel_rfl) w
theorem impl_isPattern.acquire (a : Addr) (w : World) : (callFunc 57 #[.pointer (some a)]).run Tryd.prog w = .ok (.value (.tuple #[])) w := run_call_marked Tryd.func57 (by kernel_rfl) (by kernel_rfl) (by kernel_rfl) .acquire (by kernel_rfl) a w
theorem impl_isPattern.releaseMerge (a : Addr) (w : World) : (callFunc 59 #[.pointer (some a)]).run Tryd.prog w = .ok (.value (.tuple #[])) w := run_call_marked Tryd.func59 (by kernel_rfl) (by kernel_rfl) (by kernel_rfl) .releaseMerge (by kernel_rfl) a w
set_option maxRecDepth 100000 in
set_option maxHeartbeats 1600000 in
theorem impl_isPattern.store_deferred (a : Addr) (x : Value) (u : FrameMode) (w : World) (hc : w.cell? a = some x) (hz : w.frozen? a = false) :
  CallsD Tryd.prog 38 #[.pointer (some a), .bool true] u w fun e u' w' => u' = u ∧ (e = .returned (.tuple #[]) ∧ w' = w.drew.setCell a (.int .u32 1)) := by
 have hc' : w.drew.cell? a = some x := by go_simp
 have hz' : w.drew.frozen? a = false := by go_simp
 have hst := run_call_store (P := Tryd.prog) Tryd.func46 (by kernel_rfl) (by kernel_rfl) (by kernel_rfl) (by kernel_rfl) (k := .u32) (y := 1) hc' hz'
 go_enter_d Tryd.func38, Tryd.ntmps38
 go_wp2
 go_region_calls
 all_goals (go_end0; exact ⟨rfl, rfl⟩)
set_option maxRecDepth 100000 in
set_option maxHeartbeats 1600000 in
theorem impl_isPattern.unlock_deferred (a : Addr) (u : FrameMode) (w : World) (hc : w.cell? a = some (.int .i32 1)) (hz : w.frozen? a = false) :
  CallsD Tryd.prog 37 #[.pointer (some a)] u w fun e u' w' => u' = u ∧ (e = .returned (.tuple #[]) ∧ w' = w.setCell a (.int .i32 0)) := by
 have hd := impl_isPattern.disable
 have he := impl_isPattern.enable
 have hr := impl_isPattern.releaseMerge
 have hadd := run_call_add (P := Tryd.prog) Tryd.func60 (by kernel_rfl) (by kernel_rfl) (by kernel_rfl) .i32 (by kernel_rfl) (y := -1) (s := 0) hc hz (by simp [go_sem]; rfl)
 have hcv := run_convert_to_unsafe (P := Tryd.prog) (src := 104) (dst := 108) Tryd.underlying104 Tryd.underlying108 (by kernel_rfl) hc
 go_enter_d Tryd.func37, Tryd.ntmps37
 go_wp2
 go_end0
 go_wp2
 go_end0
 exact ⟨rfl, rfl⟩
set_option maxRecDepth 100000 in
set_option maxHeartbeats 1600000 in
theorem impl_isPattern.lock_free (a : Addr) (w : World) (hc : w.cell? a = some (.int .i32 0)) (hz : w.frozen? a = false) :
  Calls Tryd.prog 36 #[.pointer (some a)] w fun e w' => e = .returned (.tuple #[]) ∧ w' = w.setCell a (.int .i32 1) := by
 have hd := impl_isPattern.disable
 have he := impl_isPattern.enable
 have ha := impl_isPattern.acquire
 have hcas := run_call_cas_hit (P := Tryd.prog) Tryd.func55 (by kernel_rfl) (by kernel_rfl) (by kernel_rfl) .i32 (by kernel_rfl) (y := 1) hc hz
 have hc' : (w.setCell a (.int .i32 1)).cell? a = some (.int .i32 1) := World.cell?_setCell_same w a _ hc
 have hcv := run_convert_to_unsafe (P := Tryd.prog) (src := 104) (dst := 108) Tryd.underlying104 Tryd.underlying108 (by kernel_rfl) hc'
 go_enter Tryd.func36, Tryd.ntmps36
 go_wp2
 first | go_end0 | (simp only [Exit.inBlock, Exit.then]; refine bodyPost_ret (results_none rfl _ _ _) rfl ?_) | refine bodyPost_ret (results_none rfl _ _ _) rfl ?_
 go_wp2
 go_end0
 exact ⟨rfl, rfl⟩
theorem impl_isPattern.zc : Tryd.zeroCells79.toList = List.replicate 257 (Value.slice none 0 0) := by kernel_rfl
theorem impl_isPattern.info9 : (Tryd.prog.info? 9).map (fun i => (i.zero, i.size, i.bytes)) = some (some (.string ⟨#[]⟩), 1, 16) := by kernel_rfl
theorem impl_isPattern.makeS (W : World) : (Instr.makeSlice 33 (.int .i64 0) (.int .i64 2)).run Tryd.prog W = .ok (.slice (some ⟨W.heap.size, 0, none⟩) 0 2) (W.alloc (.cells (madeCells #[.string ⟨#[]⟩] 2) 9)) := by
 obtain ⟨i0, hi, hz0, hz1, hz2⟩ := info_parts impl_isPattern.info9
 have h := run_makeSlice (P := Tryd.prog) W 33 9 i0 _ Tryd.underlying33 hi hz0 .i64 .i64 0 2 (by omega) (by omega) (by rw [hz1]; decide) (by rw [hz2]; decide) (by omega)
 rw [hz1] at h
 exact h
def impl_isPattern.Tb (W : World) (g : Nat) (x y v : Value) : Prop := ∃ cs : List Value, W.heap[g]? = some (.cells cs.toArray 79 (0, 0)) ∧ cs.length = 257 ∧ (∀ i, i < 256 → i ≠ 42 → i ≠ 63 → cs[i]? = some (Value.slice none 0 0)) ∧ cs[42]? = some x ∧ cs[63]? = some y ∧ cs[256]? = some v
theorem impl_isPattern.Tb.fro {W : World} {g : Nat} {x y v : Value} (h : impl_isPattern.Tb W g x y v) (i : Nat) : W.frozen? ⟨g, i, none⟩ = false := by
 obtain ⟨cs, h1, -⟩ := h
 simp [World.frozen?, h1]
theorem impl_isPattern.Tb.at {W : World} {g : Nat} {x y v : Value} (h : impl_isPattern.Tb W g x y v) (i : Nat) (h0 : i < 256) (h1 : i ≠ 42) (h2 : i ≠ 63) : W.cell? ⟨g, i, none⟩ = some (Value.slice none 0 0) := by
 obtain ⟨cs, h1', h2', h3, -⟩ := h
 have := h3 i h0 h1 h2
 simpa [World.cell?, h1'] using this
theorem impl_isPattern.Tb.c42 {W : World} {g : Nat} {x y v : Value} (h : impl_isPattern.Tb W g x y v) : W.cell? ⟨g, 42, none⟩ = some x := by
 obtain ⟨cs, h1', h2', h3, h4, h5, h6⟩ := h
 simpa [World.cell?, h1'] using h4
theorem impl_isPattern.Tb.c63 {W : World} {g : Nat} {x y v : Value} (h : impl_isPattern.Tb W g x y v) : W.cell? ⟨g, 63, none⟩ = some y := by
 obtain ⟨cs, h1', h2', h3, h4, h5, h6⟩ := h
 simpa [World.cell?, h1'] using h5
theorem impl_isPattern.Tb.c256 {W : World} {g : Nat} {x y v : Value} (h : impl_isPattern.Tb W g x y v) : W.cell? ⟨g, 256, none⟩ = some v := by
 obtain ⟨cs, h1', h2', h3, h4, h5, h6⟩ := h
 simpa [World.cell?, h1'] using h6
theorem impl_isPattern.Tb.put {W : World} {g i : Nat} {cs : List Value} (u : Value) (h : W.heap[g]? = some (.cells cs.toArray 79 (0, 0))) : (W.setCell ⟨g, i, none⟩ u).heap[g]? = some (.cells (cs.set i u).toArray 79 (0, 0)) := by
 rw [setCell_eq_setRow W g i _ 79 (0, 0) u h, setRow_heap W g _ _ 79 (0, 0) h]
 simp
theorem impl_isPattern.Tb.s42 {W : World} {g : Nat} {x y v : Value} (h : impl_isPattern.Tb W g x y v) (u : Value) : impl_isPattern.Tb (W.setCell ⟨g, 42, none⟩ u) g u y v := by
 obtain ⟨cs, h1, h2, h3, h4, h5, h6⟩ := h
 refine ⟨cs.set 42 u, impl_isPattern.Tb.put u h1, by simpa using h2, fun i a b c => ?_, ?_, ?_, ?_⟩
 ·
  rw [List.getElem?_set_ne (by omega)]; exact h3 i a b c
 ·
  rw [List.getElem?_set_self (by omega)]
 ·
  rw [List.getElem?_set_ne (by omega)]; exact h5
 ·
  rw [List.getElem?_set_ne (by omega)]; exact h6
theorem impl_isPattern.Tb.s63 {W : World} {g : Nat} {x y v : Value} (h : impl_isPattern.Tb W g x y v) (u : Value) : impl_isPattern.Tb (W.setCell ⟨g, 63, none⟩ u) g x u v := by
 obtain ⟨cs, h1, h2, h3, h4, h5, h6⟩ := h
 refine ⟨cs.set 63 u, impl_isPattern.Tb.put u h1, by simpa using h2, fun i a b c => ?_, ?_, ?_, ?_⟩
 ·
  rw [List.getElem?_set_ne (by omega)]; exact h3 i a b c
 ·
  rw [List.getElem?_set_ne (by omega)]; exact h4
 ·
  rw [List.getElem?_set_self (by omega)]
 ·
  rw [List.getElem?_set_ne (by omega)]; exact h6
theorem impl_isPattern.Tb.s256 {W : World} {g : Nat} {x y v : Value} (h : impl_isPattern.Tb W g x y v) (u : Value) : impl_isPattern.Tb (W.setCell ⟨g, 256, none⟩ u) g x y u := by
 obtain ⟨cs, h1, h2, h3, h4, h5, h6⟩ := h
 refine ⟨cs.set 256 u, impl_isPattern.Tb.put u h1, by simpa using h2, fun i a b c => ?_, ?_, ?_, ?_⟩
 ·
  rw [List.getElem?_set_ne (by omega)]; exact h3 i a b c
 ·
  rw [List.getElem?_set_ne (by omega)]; exact h4
 ·
  rw [List.getElem?_set_ne (by omega)]; exact h5
 ·
  rw [List.getElem?_set_self (by omega)]
theorem impl_isPattern.Tb.lt {W : World} {g : Nat} {x y v : Value} (h : impl_isPattern.Tb W g x y v) : g < W.heap.size := by
 obtain ⟨cs, h1, -⟩ := h
 exact blk_lt h1
theorem impl_isPattern.Tb.below {W W' : World} {g : Nat} {x y v : Value} (h : impl_isPattern.Tb W g x y v) (hb : Below W.heap.size W W') : impl_isPattern.Tb W' g x y v := by
 obtain ⟨cs, h1, h2⟩ := h
 exact ⟨cs, blk_below h1 hb, h2⟩
theorem impl_isPattern.Tb.far {W : World} {g k i : Nat} {x y v : Value} (h : impl_isPattern.Tb W g x y v) (u : Value) (hk : g ≠ k) : impl_isPattern.Tb (W.setCell ⟨k, i, none⟩ u) g x y v := by
 obtain ⟨cs, h1, h2⟩ := h
 exact ⟨cs, (Below.heap_setCell W ⟨k, i, none⟩ u g hk).trans h1, h2⟩
theorem impl_isPattern.made (W : World) : ∃ W1, (storeCells ⟨W.heap.size + 1, 0, none⟩ (Tryd.zeroCells79.toList.set 256 (.slice (some ⟨W.heap.size, 0, none⟩) 0 2))).run Tryd.prog ((W.alloc (.cells (madeCells #[.string ⟨#[]⟩] 2) 9)).alloc (.cells Tryd.zeroCells79 79)) = .ok () W1
  ∧ impl_isPattern.Tb W1 (W.heap.size + 1) (Value.slice none 0 0) (Value.slice none 0 0) (.slice (some ⟨W.heap.size, 0, none⟩) 0 2) ∧ W1.heap[W.heap.size]? = some (.cells (madeCells #[.string ⟨#[]⟩] 2) 9 (0, 0)) ∧ Below W.heap.size W W1 ∧ W1.heap.size = W.heap.size + 2 := by
 obtain ⟨V, hV⟩ : ∃ V, V = (W.alloc (.cells (madeCells #[.string ⟨#[]⟩] 2) 9)).alloc (.cells Tryd.zeroCells79 79) := ⟨_, rfl⟩
 have hs1 : (W.alloc (.cells (madeCells #[.string ⟨#[]⟩] 2) 9)).heap.size = W.heap.size + 1 := by simp
 have hg : V.heap[W.heap.size + 1]? = some (.cells Tryd.zeroCells79 79 (0, 0)) := by rw [hV, ← hs1]; exact blk_new _ _
 have hb : V.heap[W.heap.size]? = some (.cells (madeCells #[.string ⟨#[]⟩] 2) 9 (0, 0)) := by
  rw [hV]; exact blk_below (blk_new W _) (below_alloc (Below.refl _ _) _)
 have hB : Below W.heap.size W V := by rw [hV]; exact below_alloc (below_alloc (Below.refl _ _) _) _
 have hsz : V.heap.size = W.heap.size + 2 := by rw [hV]; simp
 rw [← hV]
 have hl : (Tryd.zeroCells79.toList.set 256 (.slice (some ⟨W.heap.size, 0, none⟩) 0 2)).length = 257 := by rw [List.length_set, impl_isPattern.zc, List.length_replicate]
 have hr := run_storeCells_from (P := Tryd.prog) (W.heap.size + 1) 79 (Tryd.zeroCells79.toList.set 256 (.slice (some ⟨W.heap.size, 0, none⟩) 0 2)) 0 Tryd.zeroCells79 V hg (by
  rw [hl, ← Array.length_toList, impl_isPattern.zc, List.length_replicate]) (fun v hv => by
  rcases List.mem_or_eq_of_mem_set hv with h | h
  ·
   rw [impl_isPattern.zc] at h
   rw [(List.mem_replicate.1 h).2]; rfl
  ·
   rw [h]; rfl)
 rw [List.take_zero, List.nil_append] at hr
 refine ⟨_, hr, ⟨_, setRow_heap V _ _ _ 79 (0, 0) hg, hl, fun i h0 h1 h2 => ?_, ?_, ?_, ?_⟩, ?_, ?_, by rw [setRow_size, hsz]⟩
 ·
  rw [List.getElem?_set_ne (by omega), impl_isPattern.zc, List.getElem?_replicate, if_pos (by omega)]
 ·
  rw [List.getElem?_set_ne (by omega), impl_isPattern.zc, List.getElem?_replicate, if_pos (by omega)]
 ·
  rw [List.getElem?_set_ne (by omega), impl_isPattern.zc, List.getElem?_replicate, if_pos (by omega)]
 ·
  rw [List.getElem?_set_self (by rw [impl_isPattern.zc, List.length_replicate]; omega)]
 ·
  rw [setRow_other V _ _ _ (by omega)]; exact hb
 ·
  exact ⟨hB.os, hB.tape, hB.output, by rw [setRow_size]; exact hB.size, fun k hk => by rw [setRow_other V _ _ _ (by omega)]; exact hB.block k hk⟩
theorem impl_isPattern.conv1 (w : World) (n : Int) (b : UInt8) (h : n = b.toNat) : (convert 76 9 (.slice (some ⟨w.heap.size, 0, none⟩) 1 1)).run Tryd.prog (w.alloc (.cells #[.int .u8 n] 5)) = .ok (.string ⟨#[b]⟩) (w.alloc (.cells #[.int .u8 n] 5)) := by
 subst h
 refine run_convert_bytes_back (w.alloc (.cells #[.int .u8 b.toNat] 5)) 76 9 5 ⟨w.heap.size, 0, none⟩ 1 [b] Tryd.underlying76 Tryd.underlying5 Tryd.underlying9 ?_
 intro j hj
 obtain rfl : j = 0 := by simpa using hj
 simp [Addr.add]
theorem impl_isPattern.Tb.grown {W W' : World} {g : Nat} {x y v : Value} {row : Option Nat} (h : impl_isPattern.Tb W g x y v) (hg : W.grownBy W' row) (hr : row ≠ some g) : impl_isPattern.Tb W' g x y v := by
 obtain ⟨cs, h1, h2⟩ := h
 exact ⟨cs, blk_grown h1 hg (fun e => hr e.symm), h2⟩
theorem impl_isPattern.rowMade (V W1 : World) (g : Nat) (hr : W1.heap[V.heap.size]? = some (.cells (madeCells #[.string ⟨#[]⟩] 2) 9 (0, 0))) (hs : W1.heap.size = V.heap.size + 2) (hg : g = V.heap.size + 1) (b : Nat) (hb : b ≤ V.heap.size) :
  Kd.R Kd.string 9 W1 b (fun k => k ≠ g) (.slice (some ⟨V.heap.size, 0, none⟩) 0 2) [] := by
 have h := World.ownsRow_made (V) (e := 9) (size := 1) (base := b) (madeCells #[.string ⟨#[]⟩] 2) 2 hb (by decide) (size_madeCells _ _)
 have h2 : Kd.R Kd.string 9 (V.alloc (.cells (madeCells #[.string ⟨#[]⟩] 2) 9)) b (fun k => k = V.heap.size) (.slice (some ⟨V.heap.size, 0, none⟩) 0 2) [] := Kd.R_of_own h (fun k hk => by simpa [Value.ownBlock, eq_comm] using hk)
 have h3 : Kd.R Kd.string 9 W1 b (fun k => k = V.heap.size) (.slice (some ⟨V.heap.size, 0, none⟩) 0 2) [] := Kd.R_move h2 (fun k hk => by subst hk; rw [hr, blk_new])
 exact Kd.R_mono h3 (fun k hk => by omega)
set_option maxRecDepth 100000 in
set_option maxHeartbeats 1600000 in
theorem impl_isPattern.build (c d cap : Nat) (hcap : 4 ≤ cap) (w : World) (h4 : w.cell? ⟨c, 4, none⟩ = some (.slice (some ⟨d, 0, none⟩) 4 cap))
  (d0 : w.cell? ⟨d, 0, none⟩ = some (.string ⟨#[63]⟩)) (d1 : w.cell? ⟨d, 1, none⟩ = some (.string ⟨#[]⟩)) (d2 : w.cell? ⟨d, 2, none⟩ = some (.string ⟨#[42]⟩)) (d3 : w.cell? ⟨d, 3, none⟩ = some (.string ⟨#[]⟩)) (hdw : d < w.heap.size) :
  Calls Tryd.prog 30 #[.pointer (some ⟨c, 0, none⟩)] w fun e w' => ∃ g, e = .returned (.iface 80 (.pointer (some ⟨g, 0, none⟩))) ∧ w.heap.size ≤ g ∧ ∃ p q p2 q2 A c2, impl_isPattern.Tb w' g (.slice (some p) 0 q) (.slice (some p2) 0 q2) (.slice A 2 c2) ∧ Below w.heap.size w w' := by
 have hms := impl_isPattern.makeS
 have hsb : ∀ W : World, (convert 9 76 (.string ⟨#[]⟩)).run Tryd.prog W = .ok (.slice (some ⟨W.heap.size, 0, none⟩) 0 (grownCap W 0 0 5)) (W.drew.alloc (.cells (bytesRow ⟨#[]⟩ (grownCap W 0 0 5)) 5 ((bytesRow ⟨#[]⟩ (grownCap W 0 0 5)).size, (bytesRow ⟨#[]⟩ (grownCap W 0 0 5)).size + 1))) := fun W => run_bytes_of_string W 9 76 5 ⟨#[]⟩ Tryd.underlying9 Tryd.underlying76 Tryd.underlying5
 have heq : ∀ W : World, (binOp .eql 76 (.slice none 0 0) (.slice none 0 0)).run Tryd.prog W = .ok (.bool true) W := fun W => run_eql_nil_slice W 76 5 none 0 0 0 0 Tryd.underlying76
 go_enter Tryd.func30, Tryd.ntmps30
 go_wp2_with fail
 go_loopg [4, 5] 2 (fun gg v4 v5 w' => ((gg = 2 ∧ v4 = .bool true ∧ v5 = .int .i64 0) ∨ (gg = 1 ∧ v4 = .bool false ∧ v5 = .int .i64 2) ∨ (gg = 0 ∧ v4 = .bool false ∧ v5 = .int .i64 4)) ∧ Drawn0 w w')
 case atStart => exact ⟨.inl ⟨rfl, rfl, rfl⟩, by repeat (first | exact Drawn0.refl _ | apply Drawn0.step)⟩
 case round =>
  obtain ⟨(⟨rfl, rfl, rfl⟩ | ⟨rfl, rfl, rfl⟩ | ⟨rfl, rfl, rfl⟩), hdr⟩ := hrel
  ·
   obtain ⟨m1, rfl⟩ := hdr
   go_wp2_with fail
   go_roundg 1
   case measure => omega
   case rel => exact ⟨.inr (.inl ⟨rfl, rfl, rfl⟩), by repeat (first | exact Drawn0.refl _ | apply Drawn0.step)⟩
  ·
   obtain ⟨m1, rfl⟩ := hdr
   go_wp2_with fail
   go_roundg 0
   case measure => omega
   case rel => exact ⟨.inr (.inr ⟨rfl, rfl, rfl⟩), by repeat (first | exact Drawn0.refl _ | apply Drawn0.step)⟩
  ·
   have HB0 := Aside0.mk hdr.below
   have e0 := (HB0.out.cell (p := ⟨d, 0, none⟩) hdw).trans d0
   have e1 := (HB0.out.cell (p := ⟨d, 1, none⟩) hdw).trans d1
   have e2 := (HB0.out.cell (p := ⟨d, 2, none⟩) hdw).trans d2
   have e3 := (HB0.out.cell (p := ⟨d, 3, none⟩) hdw).trans d3
   have hsz0 := Aside0.mk HB0.out.size
   have HE := Aside0.mk (And.intro e0 (And.intro e1 (And.intro e2 e3)))
   have HD := Aside0.mk hdw
   clear e0 e1 e2 e3
   obtain ⟨W1, hst, hTb, hRow, hBel, hSz⟩ := impl_isPattern.made wr
   have HT := Aside0.mk hTb
   have HRw := Aside0.mk hRow
   have HBl := Aside0.mk hBel
   have HSz := Aside0.mk hSz
   clear hTb
   have HB1 := Aside0.mk (show Below w.heap.size w W1 from hdr.below.trans (hBel.mono hdr.below.size))
   have HB2 : ∀ w', Below w.heap.size w w' → w'.cell? ⟨d, 0, none⟩ = some (.string ⟨#[63]⟩) ∧ w'.cell? ⟨d, 1, none⟩ = some (.string ⟨#[]⟩) ∧ w'.cell? ⟨d, 2, none⟩ = some (.string ⟨#[42]⟩) ∧ w'.cell? ⟨d, 3, none⟩ = some (.string ⟨#[]⟩) := fun w' hb => ⟨(hb.cell (p := ⟨d, 0, none⟩) hdw).trans d0, (hb.cell (p := ⟨d, 1, none⟩) hdw).trans d1, (hb.cell (p := ⟨d, 2, none⟩) hdw).trans d2, (hb.cell (p := ⟨d, 3, none⟩) hdw).trans d3⟩
   clear hBel d0 d1 d2 d3 h4 hdr
   obtain ⟨g, hg⟩ : ∃ g, g = wr.heap.size + 1 := ⟨_, rfl⟩
   have HG := Aside0.mk hg
   have HGW := Aside0.mk (show w.heap.size ≤ g from by have := hsz0.out; omega)
   rw [← hg] at HT
   have HO := Aside0.mk (impl_isPattern.rowMade wr W1 g hRow hSz hg w.heap.size hsz0.out)
   clear hRow hSz
   go_wp2_with fail
   rw [← hg]
   clear hst hg
   go_loopg [12] 2 (fun gg v12 w' => ∃ (x y v : Value) (xs : List ByteArray), Aside0 (impl_isPattern.Tb w' g x y v) ∧ Aside0 (Kd.R Kd.string 9 w' w.heap.size (fun k => k ≠ g) v xs) ∧ Aside0 (Below w.heap.size w w') ∧ ((gg = 2 ∧ v12 = .int .i64 2 ∧ x = (Value.slice none 0 0) ∧ y = (Value.slice none 0 0) ∧ xs.length = 0) ∨ (gg = 1 ∧ v12 = .int .i64 0 ∧ y = (Value.slice none 0 0) ∧ (∃ p q, x = .slice (some p) 0 q) ∧ xs.length = 1) ∨ (gg = 0 ∧ v12 = .int .i64 (-2) ∧ (∃ p q, x = .slice (some p) 0 q) ∧ (∃ p q, y = .slice (some p) 0 q) ∧ xs.length = 2)))
   case atStart => exact ⟨_, _, _, _, HT, HO, HB1, .inl ⟨rfl, rfl, rfl, rfl, rfl⟩⟩
   case round =>
    clear HT HO
    obtain ⟨x, y, v, xs, HT, HO, HB, (⟨rfl, rfl, rfl, rfl, hx⟩ | ⟨rfl, rfl, rfl, ⟨p, q, rfl⟩, hx⟩ | ⟨rfl, rfl, ⟨p, q, rfl⟩, ⟨p2, q2, rfl⟩, hx⟩)⟩ := hrel
    ·
     have h42 : ∀ h, ((⟨#[42]⟩ : ByteArray)[0]'h).toNat = 42 := fun _ => rfl
     have f0 := (HB2 _ HB.out).1
     have f1 := (HB2 _ HB.out).2.1
     have f2 := (HB2 _ HB.out).2.2.1
     have f3 := (HB2 _ HB.out).2.2.2
     have t42 := HT.out.c42
     have t256 := HT.out.c256
     have hcv : (convert 76 9 (.slice (some ⟨wr.heap.size, 0, none⟩) 1 1)).run Tryd.prog (wr.alloc (.cells #[.int .u8 42] 5)) = .ok (.string ⟨#[42]⟩) (wr.alloc (.cells #[.int .u8 42] 5)) := impl_isPattern.conv1 wr 42 42 rfl
     go_wp2_with (first | ((with_reducible refine gate_builtin (b := .append) (xs := #[.tmp 119, .tmp 123]) rfl ?_); at_builtin; refine Kd.R_append Kd.string (W := wr.alloc (.cells #[.int .u8 42] 5)) (w0 := w) w.heap.size rfl (.tmp 119) (.tmp 123) 33 9 (.string ⟨#[]⟩) 16 rfl Tryd.underlying33 impl_isPattern.info9 rfl (by decide) (by omega) v xs (⟨#[42]⟩ : ByteArray) [.string (⟨#[42]⟩ : ByteArray)] (fun k => k ≠ g) (fun _ => False) rfl (by go_simp) ?aP (fun _ hk => hk.elim) ?aF ?aO ?aB ?aS ?aL ?_; (case aP => exact rfl); (case aB => exact HB.out.alloc HB.out.size _); (case aF => exact fun k hk => (by have h9 := HT.out.lt; simp at hk; omega)); (case aO => exact Kd.R_alloc HO.out _); (case aS => exact (HB.out.alloc HB.out.size _).size); (case aL => rw [hx]; decide); intro v1 w1 ho hb hg1 hat; obtain ⟨A1, c1, e1⟩ := Kd.R_slice ho; subst e1; have hl9 : (xs ++ [(⟨#[42]⟩ : ByteArray)]).length = 1 := (by rw [List.length_append, hx]; rfl); rw [hl9] at ho; clear hl9; have n0_ := Aside0.mk (impl_isPattern.Tb.grown (HT.out.below (below_alloc (Below.refl _ _) _)) hg1 (fun e => HO.out.1 g e rfl)); have n1_ := Aside0.mk ho; have n2_ := Aside0.mk hb; clear HT HO HB t42 t256 hg1 hat ho hb; have HT := n0_; have HO := n1_; have HB := n2_; clear n0_ n1_ n2_; have hgl := HT.out.lt; have t42 := HT.out.c42; have u42 := HT.out.fro 42; have t256 := HT.out.c256; have u256 := HT.out.fro 256))
     go_roundg 1
     case measure => omega
     case rel => exact ⟨_, _, _, xs ++ [⟨#[42]⟩], ⟨impl_isPattern.Tb.below ((HT.out.s256 _).s42 _) (below_drew1 (below_alloc (Below.refl _ _) _))⟩, ⟨Kd.R_drew (Kd.R_alloc (Kd.R_far (Kd.R_far HO.out (fun _ hk => hk) _) (fun _ hk => hk) _) _)⟩, ⟨below_drew1 (below_alloc (below_set (below_set HB.out HGW.out) HGW.out) _)⟩, .inr (.inl ⟨rfl, rfl, rfl, ⟨_, _, rfl⟩, by simp [hx]⟩)⟩
    ·
     have h63 : ∀ h, ((⟨#[63]⟩ : ByteArray)[0]'h).toNat = 63 := fun _ => rfl
     have f0 := (HB2 _ HB.out).1
     have f1 := (HB2 _ HB.out).2.1
     have f2 := (HB2 _ HB.out).2.2.1
     have f3 := (HB2 _ HB.out).2.2.2
     have t63 := HT.out.c63
     have t256 := HT.out.c256
     have hcv : (convert 76 9 (.slice (some ⟨wr.heap.size, 0, none⟩) 1 1)).run Tryd.prog (wr.alloc (.cells #[.int .u8 63] 5)) = .ok (.string ⟨#[63]⟩) (wr.alloc (.cells #[.int .u8 63] 5)) := impl_isPattern.conv1 wr 63 63 rfl
     go_wp2_with (first | ((with_reducible refine gate_builtin (b := .append) (xs := #[.tmp 119, .tmp 123]) rfl ?_); at_builtin; refine Kd.R_append Kd.string (W := wr.alloc (.cells #[.int .u8 63] 5)) (w0 := w) w.heap.size rfl (.tmp 119) (.tmp 123) 33 9 (.string ⟨#[]⟩) 16 rfl Tryd.underlying33 impl_isPattern.info9 rfl (by decide) (by omega) v xs (⟨#[63]⟩ : ByteArray) [.string (⟨#[63]⟩ : ByteArray)] (fun k => k ≠ g) (fun _ => False) rfl (by go_simp) ?aP (fun _ hk => hk.elim) ?aF ?aO ?aB ?aS ?aL ?_; (case aP => exact rfl); (case aB => exact HB.out.alloc HB.out.size _); (case aF => exact fun k hk => (by have h9 := HT.out.lt; simp at hk; omega)); (case aO => exact Kd.R_alloc HO.out _); (case aS => exact (HB.out.alloc HB.out.size _).size); (case aL => rw [hx]; decide); intro v1 w1 ho hb hg1 hat; obtain ⟨A1, c1, e1⟩ := Kd.R_slice ho; subst e1; have hl9 : (xs ++ [(⟨#[63]⟩ : ByteArray)]).length = 2 := (by rw [List.length_append, hx]; rfl); rw [hl9] at ho; clear hl9; have n0_ := Aside0.mk (impl_isPattern.Tb.grown (HT.out.below (below_alloc (Below.refl _ _) _)) hg1 (fun e => HO.out.1 g e rfl)); have n1_ := Aside0.mk ho; have n2_ := Aside0.mk hb; clear HT HO HB t63 t256 hg1 hat ho hb; have HT := n0_; have HO := n1_; have HB := n2_; clear n0_ n1_ n2_; have hgl := HT.out.lt; have t63 := HT.out.c63; have u63 := HT.out.fro 63; have t256 := HT.out.c256; have u256 := HT.out.fro 256))
     go_roundg 0
     case measure => omega
     case rel => exact ⟨_, _, _, xs ++ [⟨#[63]⟩], ⟨impl_isPattern.Tb.below ((HT.out.s256 _).s63 _) (below_drew1 (below_alloc (Below.refl _ _) _))⟩, ⟨Kd.R_drew (Kd.R_alloc (Kd.R_far (Kd.R_far HO.out (fun _ hk => hk) _) (fun _ hk => hk) _) _)⟩, ⟨below_drew1 (below_alloc (below_set (below_set HB.out HGW.out) HGW.out) _)⟩, .inr (.inr ⟨rfl, rfl, ⟨_, _, rfl⟩, ⟨_, _, rfl⟩, by simp [hx]⟩)⟩
    ·
     go_wp2_with fail
     go_ret
     obtain ⟨A1, c1, e1⟩ := Kd.R_slice HO.out
     subst e1
     rw [hx] at HT
     exact ⟨g, rfl, HGW.out, _, _, _, _, _, _, HT.out, HB.out⟩
theorem impl_isPattern.fro_below {B : Nat} {W W' : World} (h : Below B W W') {k i : Nat} (hk : k < B) : W'.frozen? ⟨k, i, none⟩ = W.frozen? ⟨k, i, none⟩ := by
 simp [World.frozen?, h.block k hk]
structure impl_isPattern.Rp (w : World) (c d cap : Nat) : Prop where
 hcap : 4 ≤ cap
 h3 : w.cell? ⟨c, 3, none⟩ = some .nilIface
 h4 : w.cell? ⟨c, 4, none⟩ = some (.slice (some ⟨d, 0, none⟩) 4 cap)
 d0 : w.cell? ⟨d, 0, none⟩ = some (.string ⟨#[63]⟩)
 d1 : w.cell? ⟨d, 1, none⟩ = some (.string ⟨#[]⟩)
 d2 : w.cell? ⟨d, 2, none⟩ = some (.string ⟨#[42]⟩)
 d3 : w.cell? ⟨d, 3, none⟩ = some (.string ⟨#[]⟩)
 hd : d < w.heap.size
 hc : c < w.heap.size
 hdc : d ≠ c
 fr : ∀ i, w.frozen? ⟨c, i, none⟩ = false
def impl_isPattern.Rd (w : World) (c : Nat) : Prop := ∃ g p q p2 q2 A c2, impl_isPattern.Tb w g (.slice (some p) 0 q) (.slice (some p2) 0 q2) (.slice A 2 c2) ∧ g ≠ c ∧ w.cell? ⟨c, 3, none⟩ = some (.iface 80 (.pointer (some ⟨g, 0, none⟩)))
theorem impl_isPattern.Rd.set {w : World} {c i : Nat} (h : impl_isPattern.Rd w c) (hi : i ≠ 3) (v : Value) : impl_isPattern.Rd (w.setCell ⟨c, i, none⟩ v) c := by
 obtain ⟨g, p, q, p2, q2, A, c2, hT, hg, h3⟩ := h
 exact ⟨g, p, q, p2, q2, A, c2, hT.far v hg, hg, (World.cell?_setCell_other _ ⟨c, i, none⟩ ⟨c, 3, none⟩ _ (fun e => hi (by injection e))).trans h3⟩
theorem impl_isPattern.Rd.drew {w : World} {c : Nat} (h : impl_isPattern.Rd w c) : impl_isPattern.Rd w.drew c := h
set_option maxRecDepth 100000 in
set_option maxHeartbeats 1600000 in
theorem impl_isPattern.buildOnce (w0 w : World) (c d cap : Nat) (HR : impl_isPattern.Rp w c d cap) (hB : Below w0.heap.size w0 w) (hc : w0.heap.size ≤ c) :
  Calls Tryd.prog 20 #[.pointer (some ⟨c, 0, none⟩)] w fun e w' => e = .returned (.tuple #[]) ∧ impl_isPattern.Rd w' c ∧ (∀ i, i < 3 → w'.cell? ⟨c, i, none⟩ = w.cell? ⟨c, i, none⟩) ∧ (∀ i, w'.frozen? ⟨c, i, none⟩ = w.frozen? ⟨c, i, none⟩) ∧ Below w0.heap.size w0 w' := by
 have hb := Aside0.mk (impl_isPattern.build c d cap HR.hcap w HR.h4 HR.d0 HR.d1 HR.d2 HR.d3 HR.hd)
 have hR := Aside0.mk HR
 have hBB := Aside0.mk hB
 have hC := Aside0.mk hc
 clear HR hB hc
 go_enter Tryd.func20, Tryd.ntmps20
 go_wp2_with (go_at_call 30; refine hb.out.mono ?_; rintro e w1 ⟨g, rfl, hgw, p, q, p2, q2, A, c2, hT, hB1⟩; have HT := Aside0.mk hT; have HB1 := Aside0.mk hB1; have HGW := Aside0.mk hgw; clear hT hB1 hgw hb; have h3 := (HB1.out.cell (p := ⟨c, 3, none⟩) hR.out.hc).trans hR.out.h3; have h4 := (HB1.out.cell (p := ⟨c, 4, none⟩) hR.out.hc).trans hR.out.h4; have f3 := (impl_isPattern.fro_below HB1.out (k := c) (i := 3) hR.out.hc).trans (hR.out.fr 3); have f4 := (impl_isPattern.fro_below HB1.out (k := c) (i := 4) hR.out.hc).trans (hR.out.fr 4))
 go_end0
 have hgc : g ≠ c := by have h1 := HGW.out; have h2 := hR.out.hc; omega
 refine ⟨rfl, ⟨g, p, q, p2, q2, A, c2, (HT.out.far _ hgc).far _ hgc, hgc, ?_⟩, fun i hi => ?_, fun i => ?_, ?_⟩
 ·
  exact (World.cell?_setCell_other _ ⟨c, 4, none⟩ ⟨c, 3, none⟩ _ (by simp)).trans (World.cell?_setCell_same _ _ _ h3)
 ·
  rw [World.cell?_setCell_other _ ⟨c, 4, none⟩ ⟨c, i, none⟩ _ (by simp <;> omega), World.cell?_setCell_other _ ⟨c, 3, none⟩ ⟨c, i, none⟩ _ (by simp <;> omega)]
  exact HB1.out.cell (p := ⟨c, i, none⟩) hR.out.hc
 ·
  rw [World.frozen?_setCell, World.frozen?_setCell]
  exact impl_isPattern.fro_below HB1.out hR.out.hc
 ·
  exact below_set (below_set (hBB.out.trans (HB1.out.mono hBB.out.size)) hC.out) hC.out
theorem impl_isPattern.Rp.set {w : World} {c d cap i : Nat} (h : impl_isPattern.Rp w c d cap) (hi : i < 3) (v : Value) : impl_isPattern.Rp (w.setCell ⟨c, i, none⟩ v) c d cap := by
 have hne : ∀ j, (⟨c, i, none⟩ : Addr) ≠ ⟨d, j, none⟩ := fun j e => h.hdc (by injection e with e1; exact e1.symm)
 exact ⟨h.hcap, (World.cell?_setCell_other _ ⟨c, i, none⟩ ⟨c, 3, none⟩ _ (by simp <;> omega)).trans h.h3, (World.cell?_setCell_other _ ⟨c, i, none⟩ ⟨c, 4, none⟩ _ (by simp <;> omega)).trans h.h4, (World.cell?_setCell_other _ _ _ _ (fun e => hne 0 e)).trans h.d0, (World.cell?_setCell_other _ _ _ _ (fun e => hne 1 e)).trans h.d1, (World.cell?_setCell_other _ _ _ _ (fun e => hne 2 e)).trans h.d2, (World.cell?_setCell_other _ _ _ _ (fun e => hne 3 e)).trans h.d3, by simpa using h.hd, by simpa using h.hc, h.hdc, fun j => by rw [World.frozen?_setCell]; exact h.fr j⟩
set_option maxRecDepth 100000 in
set_option maxHeartbeats 1600000 in
theorem impl_isPattern.doSlow (w0 w : World) (c d cap : Nat) (HR : impl_isPattern.Rp w c d cap) (h0 : w.cell? ⟨c, 0, none⟩ = some (.int .u32 0)) (h1 : w.cell? ⟨c, 1, none⟩ = some (.int .i32 0)) (hB : Below w0.heap.size w0 w) (hc : w0.heap.size ≤ c) :
  Calls Tryd.prog 29 #[.pointer (some ⟨c, 0, none⟩), .func (.func 20) #[.pointer (some ⟨c, 0, none⟩)] #[]] w fun e w' => e = .returned (.tuple #[]) ∧ impl_isPattern.Rd w' c ∧ Below w0.heap.size w0 w' := by
 have hl := run_call_load (P := Tryd.prog) Tryd.func35 (by kernel_rfl) (by kernel_rfl) (by kernel_rfl) .u32 (by kernel_rfl) (w := w.setCell ⟨c, 1, none⟩ (.int .i32 1)) (a := ⟨c, 0, none⟩) (x := 0) ((World.cell?_setCell_other _ ⟨c, 1, none⟩ ⟨c, 0, none⟩ _ (by simp)).trans h0)
 have hnot : ∀ (x : Bool) (w : World), (Op.unary .not (.bool x)).run Tryd.prog w = .ok (.bool (!x)) w := fun _ _ => rfl
 have hbo := Aside0.mk (impl_isPattern.buildOnce w0 (w.setCell ⟨c, 1, none⟩ (.int .i32 1)) c d cap (HR.set (by omega) _) (below_set hB hc) hc)
 have hf0 := HR.fr 0
 have hf1 := HR.fr 1
 have k0 : (w.setCell ⟨c, 1, none⟩ (.int .i32 1)).cell? ⟨c, 0, none⟩ = some (.int .u32 0) := (World.cell?_setCell_other _ ⟨c, 1, none⟩ ⟨c, 0, none⟩ _ (by simp)).trans h0
 have k1 : (w.setCell ⟨c, 1, none⟩ (.int .i32 1)).cell? ⟨c, 1, none⟩ = some (.int .i32 1) := World.cell?_setCell_same _ _ _ h1
 have KF := Aside0.mk HR.fr
 have K0 := Aside0.mk k0
 have K1 := Aside0.mk k1
 clear HR hB k0 k1
 go_enter_defers Tryd.func29, Tryd.ntmps29
 go_wp2_with (first | (go_at_call 36; refine (impl_isPattern.lock_free ⟨c, 1, none⟩ _ (by go_simp) (by go_simp)).mono ?_; rintro e w' ⟨rfl, rfl⟩) | (go_at_call 20; refine hbo.out.mono ?_; rintro e w2 ⟨rfl, hRd, hcl, hfr, hB2⟩; have HRd := Aside0.mk hRd; have HCL := Aside0.mk hcl; have HFR := Aside0.mk hfr; have HB2 := Aside0.mk hB2; clear hRd hcl hfr hB2) | (go_at_call 28; go_in))
 have c0 : w2.cell? ⟨c, 0, none⟩ = some (.int .u32 0) := (HCL.out 0 (by omega)).trans K0.out
 have c1 : w2.cell? ⟨c, 1, none⟩ = some (.int .i32 1) := (HCL.out 1 (by omega)).trans K1.out
 have z : ∀ i, w2.frozen? ⟨c, i, none⟩ = false := fun i => (HFR.out i).trans (by rw [World.frozen?_setCell]; exact KF.out i)
 refine leaves_cons (f := 38) (args := #[.pointer (some ⟨c, 0, none⟩), .bool true]) (by simp) (by simp [go_sem]) ?_
 refine (impl_isPattern.store_deferred ⟨c, 0, none⟩ (.int .u32 0) .returning _ ?_ (by simp [z])).mono ?_
 ·
  simpa using c0
 rintro e u' w'' ⟨rfl, rfl, rfl⟩
 refine leaves_cons (f := 37) (args := #[.pointer (some ⟨c, 1, none⟩)]) (by simp [settle]) (by simp [go_sem]) ?_
 refine (impl_isPattern.unlock_deferred ⟨c, 1, none⟩ _ _ ?_ (by simp [z])).mono ?_
 ·
  refine (World.cell?_setCell_other _ ⟨c, 0, none⟩ ⟨c, 1, none⟩ _ (by simp)).trans ?_
  simpa using c1
 rintro e u' w'' ⟨rfl, rfl, rfl⟩
 have hfin : impl_isPattern.Rd ((w2.drew.setCell ⟨c, 0, none⟩ (.int .u32 1)).setCell ⟨c, 1, none⟩ (.int .i32 0)) c ∧ Below w0.heap.size w0 ((w2.drew.setCell ⟨c, 0, none⟩ (.int .u32 1)).setCell ⟨c, 1, none⟩ (.int .i32 0)) := ⟨(HRd.out.drew.set (by omega) _).set (by omega) _, below_set (below_set (below_drew1 HB2.out) hc) hc⟩
 simp [Leaves, settle, results, Tryd.results29]
 simpa using hfin
set_option maxRecDepth 100000 in
set_option maxHeartbeats 1600000 in
theorem impl_isPattern.onceDo (w0 w : World) (c d cap : Nat) (HR : impl_isPattern.Rp w c d cap) (h0 : w.cell? ⟨c, 0, none⟩ = some (.int .u32 0)) (h1 : w.cell? ⟨c, 1, none⟩ = some (.int .i32 0)) (hB : Below w0.heap.size w0 w) (hc : w0.heap.size ≤ c) :
  Calls Tryd.prog 19 #[.pointer (some ⟨c, 0, none⟩), .func (.func 20) #[.pointer (some ⟨c, 0, none⟩)] #[]] w fun e w' => e = .returned (.tuple #[]) ∧ impl_isPattern.Rd w' c ∧ Below w0.heap.size w0 w' := by
 have hl := run_call_load (P := Tryd.prog) Tryd.func35 (by kernel_rfl) (by kernel_rfl) (by kernel_rfl) .u32 (by kernel_rfl) h0
 have hnot : ∀ (x : Bool) (w : World), (Op.unary .not (.bool x)).run Tryd.prog w = .ok (.bool (!x)) w := fun _ _ => rfl
 have hsl := Aside0.mk (impl_isPattern.doSlow w0 w c d cap HR h0 h1 hB hc)
 clear HR hB h1
 go_enter Tryd.func19, Tryd.ntmps19
 go_wp2_with (first | (go_at_call 29; refine hsl.out.mono ?_; rintro e w2 ⟨rfl, hRd, hB2⟩; have HRd := Aside0.mk hRd; have HB2 := Aside0.mk hB2; clear hRd hB2) | (go_at_call 28; go_in))
 go_end0
 exact ⟨rfl, HRd.out, HB2.out⟩
def impl_isPattern.olds : List ByteArray := [⟨#[63]⟩, ⟨#[]⟩, ⟨#[42]⟩, ⟨#[]⟩]
set_option maxRecDepth 100000 in
set_option maxHeartbeats 1600000 in
theorem impl_isPattern.newR (a cap0 : Nat) (w : World) (hC : Kd.C Kd.string w (some ⟨a, 0, none⟩) 4 impl_isPattern.olds) :
  Calls Tryd.prog 16 #[.slice (some ⟨a, 0, none⟩) 4 cap0] w fun e w' => ∃ c d cap, e = .returned (.pointer (some ⟨c, 0, none⟩)) ∧ w.heap.size ≤ c ∧ impl_isPattern.Rp w' c d cap ∧ w'.cell? ⟨c, 0, none⟩ = some (.int .u32 0) ∧ w'.cell? ⟨c, 1, none⟩ = some (.int .i32 0) ∧ Below w.heap.size w w' := by
 have HC := Aside0.mk hC
 clear hC
 go_enter Tryd.func16, Tryd.ntmps16
 go_wp2_with (first | ((with_reducible refine gate_builtin (b := .append) (xs := #[.const (.slice none 0 0), .tmp 8]) rfl ?_); at_builtin; refine Kd.R_append_rows Kd.string (W := w) (w0 := w) w.heap.size rfl (.const (.slice none 0 0)) (.tmp 8) 33 9 (.string ⟨#[]⟩) 16 rfl Tryd.underlying33 impl_isPattern.info9 rfl (by decide) (by omega) (.slice none 0 0) [] impl_isPattern.olds (some ⟨a, 0, none⟩) 4 cap0 (fun _ => True) (fun _ => False) rfl rfl (Kd.R_nil _ _ _ _ _) HC.out (fun _ _ h => h) (fun _ hk => hk.elim) (fun _ _ => trivial) (Below.refl _ _) (Nat.le_refl _) (by decide) ?_; intro v1 w1 ho hb hg1 hat; obtain ⟨A1, c1, e1⟩ := Kd.R_slice ho; subst e1; have HO := Aside0.mk ho; have HB := Aside0.mk hb; clear ho hb hg1 hat))
 go_ret
 have HO2 : Kd.string.R 9 w1 w.heap.size (fun _ => True) (.slice A1 4 c1) impl_isPattern.olds := HO.out
 obtain ⟨d, c2, e2, hd1, hd2, -⟩ := Kd.R_form HO2 (by decide)
 injection e2 with e3 e4 e5
 subst e3
 obtain ⟨-, hcap, hC1⟩ := Kd.R_reads' HO2
 have hne : d ≠ w1.heap.size := by omega
 have hcl : ∀ (i : Int), 0 ≤ i → i < 4 → (w1.alloc (.cells #[.int .u32 0, .int .i32 0, .int .u32 0, .nilIface, .slice (some ⟨d, 0, none⟩) 4 c1] 49)).cell? ⟨d, i.toNat, none⟩ = some (.string (rdOf ByteArray.empty impl_isPattern.olds i)) := fun i h0 h1 => by
  obtain ⟨ad, e, hx⟩ := Kd.at_string hC1 i h0 (by exact h1)
  cases e
  rw [World.cell?_alloc_past _ _ _ hd2]
  have hadd : (⟨d, 0, none⟩ : Addr).add i.toNat = ⟨d, i.toNat, none⟩ := by unfold Addr.add; split <;> simp_all
  rw [hadd] at hx
  exact hx
 refine ⟨w1.heap.size, d, c1, rfl, HB.out.size, ⟨hcap, ?_, ?_, hcl 0 (by omega) (by omega), hcl 1 (by omega) (by omega), hcl 2 (by omega) (by omega), hcl 3 (by omega) (by omega), ?_, ?_, hne, ?_⟩, ?_, ?_, below_alloc HB.out _⟩
 ·
  rw [World.cell?_alloc_at _ _ _ _ rfl]; rfl
 ·
  rw [World.cell?_alloc_at _ _ _ _ rfl]; rfl
 ·
  simp; omega
 ·
  simp
 ·
  intro i; rw [World.frozen?_alloc_at _ _ _ _ rfl]
 ·
  rw [World.cell?_alloc_at _ _ _ _ rfl]; rfl
 ·
  rw [World.cell?_alloc_at _ _ _ _ rfl]; rfl
theorem impl_isPattern.w64 {x : Int} (h0 : -9223372036854775808 ≤ x) (h1 : x ≤ 9223372036854775807) : wrap64 x = x := by unfold wrap64; omega
def impl_isPattern.keep (b : UInt8) : Bool := b != 42 && b != 63
def impl_isPattern.kl (a : ByteArray) (n : Nat) : List UInt8 := (a.data.toList.take n).filter impl_isPattern.keep
def impl_isPattern.strip (a : ByteArray) : ByteArray := ⟨(a.data.toList.filter impl_isPattern.keep).toArray⟩
theorem impl_isPattern.kl_le (a : ByteArray) (n : Nat) (h : n ≤ a.size) : (impl_isPattern.kl a n).length ≤ n := by
 refine Nat.le_trans (List.length_filter_le _ _) ?_
 rw [List.length_take]; omega
theorem impl_isPattern.kl_succ (a : ByteArray) (n : Nat) (h : n < a.size) : impl_isPattern.kl a (n + 1) = impl_isPattern.kl a n ++ (if impl_isPattern.keep a[n] = true then [a[n]] else []) := by
 unfold impl_isPattern.kl
 have hl : n < a.data.toList.length := by simpa using h
 rw [List.take_succ_eq_append_getElem hl, List.filter_append]
 congr 1
 have e : a.data.toList[n] = a[n] := by simp [ByteArray.getElem_eq_getElem_data]
 rw [e, List.filter_cons, List.filter_nil]
theorem impl_isPattern.keep_bt (a : ByteArray) (n : Nat) (h : n < a.size) : (impl_isPattern.keep a[n] = true ↔ bt a (n : Int) ≠ 42 ∧ bt a (n : Int) ≠ 63) ∧ 0 ≤ bt a (n : Int) ∧ bt a (n : Int) < 256 ∧ bt a (n : Int) = (a[n].toNat : Int) := by
 have h2 : ((n : Int).toNat) < a.size := by simpa using h
 have e : bt a (n : Int) = (a[n].toNat : Int) := by rw [bt, dif_pos h2]; rfl
 have hlt := UInt8.toNat_lt a[n]
 refine ⟨?_, by omega, by omega, e⟩
 rw [e]
 unfold impl_isPattern.keep
 rw [Bool.and_eq_true, bne_iff_ne, bne_iff_ne]
 constructor
 ·
  rintro ⟨h1, h2⟩
  exact ⟨fun h => h1 (UInt8.toNat_inj.1 (by show a[n].toNat = 42; omega)), fun h => h2 (UInt8.toNat_inj.1 (by show a[n].toNat = 63; omega))⟩
 ·
  rintro ⟨h1, h2⟩
  exact ⟨fun h => h1 (by rw [h]; rfl), fun h => h2 (by rw [h]; rfl)⟩
theorem impl_isPattern.info5 : (Tryd.prog.info? 5).map (fun i => (i.zero, i.size, i.bytes)) = some (some (.int .u8 0), 1, 1) := by kernel_rfl
theorem impl_isPattern.makeB (L : Nat) (hL : L ≤ 100) (W : World) : (Instr.makeSlice 76 (.int .i64 (L : Int)) (.int .i64 (L : Int))).run Tryd.prog W = .ok (.slice (some ⟨W.heap.size, 0, none⟩) L L) (W.alloc (.cells (madeCells #[.int .u8 0] L) 5)) := by
 obtain ⟨i0, hi, hz0, hz1, hz2⟩ := info_parts impl_isPattern.info5
 have h := run_makeSlice (P := Tryd.prog) W 76 5 i0 _ Tryd.underlying76 hi hz0 .i64 .i64 (L : Int) (L : Int) (by omega) (by omega) (by rw [hz1, Int.toNat_natCast]; omega) (by rw [hz2]; omega) (by omega)
 rw [hz1, Int.toNat_natCast, Nat.mul_one] at h
 exact h
def impl_isPattern.Bf (W : World) (G : Nat) (cs : List Value) : Prop := W.heap[G]? = some (.cells cs.toArray 5 (0, 0))
theorem impl_isPattern.Bf.put {W : World} {G : Nat} {cs : List Value} (h : impl_isPattern.Bf W G cs) (i : Nat) (u : Value) : impl_isPattern.Bf (W.setCell ⟨G, i, none⟩ u) G (cs.set i u) := by
 unfold impl_isPattern.Bf at *
 rw [setCell_eq_setRow W G i _ 5 (0, 0) u h, setRow_heap W G _ _ 5 (0, 0) h]
 simp
theorem impl_isPattern.Bf.cell {W : World} {G : Nat} {cs : List Value} (h : impl_isPattern.Bf W G cs) (i : Nat) : W.cell? ⟨G, i, none⟩ = cs[i]? := by
 unfold impl_isPattern.Bf at h
 simp [World.cell?, h]
theorem impl_isPattern.Bf.fro {W : World} {G : Nat} {cs : List Value} (h : impl_isPattern.Bf W G cs) (i : Nat) : W.frozen? ⟨G, i, none⟩ = false := by
 unfold impl_isPattern.Bf at h
 simp [World.frozen?, h]
def impl_isPattern.cells (a : ByteArray) (L n : Nat) : List Value := (impl_isPattern.kl a n).map (fun b => Value.int .u8 (b.toNat : Int)) ++ List.replicate (L - (impl_isPattern.kl a n).length) (.int .u8 0)
theorem impl_isPattern.kl_mono (a : ByteArray) (n : Nat) (h : n < a.size) (hk : impl_isPattern.keep a[n] = true) : (impl_isPattern.kl a n).length < (impl_isPattern.kl a a.size).length := by
 have h1 := impl_isPattern.kl_succ a n h
 rw [if_pos hk] at h1
 have h2 : (impl_isPattern.kl a (n + 1)).length ≤ (impl_isPattern.kl a a.size).length := by
  unfold impl_isPattern.kl
  have e : a.data.toList.take (n + 1) = (a.data.toList.take a.size).take (n + 1) := by rw [List.take_take]; congr 1; omega
  rw [e]
  exact ((List.take_sublist _ _).filter _).length_le
 rw [h1, List.length_append, List.length_singleton] at h2
 omega
theorem impl_isPattern.cells_set (a : ByteArray) (n : Nat) (h : n < a.size) (hk : impl_isPattern.keep a[n] = true) : (impl_isPattern.cells a (impl_isPattern.kl a a.size).length n).set (impl_isPattern.kl a n).length (.int .u8 (a[n].toNat : Int)) = impl_isPattern.cells a (impl_isPattern.kl a a.size).length (n + 1) := by
 have h1 := impl_isPattern.kl_succ a n h
 have h2 := impl_isPattern.kl_mono a n h hk
 rw [if_pos hk] at h1
 unfold impl_isPattern.cells
 rw [h1, List.map_append, List.length_append, List.length_singleton, List.set_append_right _ _ (by simp), List.length_map, Nat.sub_self]
 obtain ⟨m, hm⟩ : ∃ m, (impl_isPattern.kl a a.size).length - (impl_isPattern.kl a n).length = m + 1 := ⟨_, (Nat.succ_pred_eq_of_pos (by omega)).symm⟩
 rw [hm, List.replicate_succ, List.set_cons_zero, show (impl_isPattern.kl a a.size).length - ((impl_isPattern.kl a n).length + 1) = m from by omega]
 simp
theorem impl_isPattern.strip_all (a : ByteArray) : impl_isPattern.strip a = ⟨(impl_isPattern.kl a a.size).toArray⟩ := by
 unfold impl_isPattern.strip impl_isPattern.kl
 rw [List.take_of_length_le (by simp)]
theorem impl_isPattern.strip_same (a : ByteArray) (h : ¬ (impl_isPattern.kl a a.size).length < a.size) : impl_isPattern.strip a = a := by
 rw [impl_isPattern.strip_all]
 unfold impl_isPattern.kl at *
 rw [List.take_of_length_le (by simp)] at *
 have hl : (a.data.toList.filter impl_isPattern.keep).length = a.data.toList.length := Nat.le_antisymm (List.length_filter_le _ _) (by simpa using h)
 rw [List.filter_eq_self.2 (List.length_filter_eq_length_iff.1 hl)]
theorem impl_isPattern.made0 (L : Nat) : madeCells #[(.int .u8 0 : Value)] L = (List.replicate L (Value.int .u8 0)).toArray := by
 unfold madeCells
 refine Array.ext (by simp) fun i h1 h2 => ?_
 simp [Nat.mod_one]
theorem impl_isPattern.kl_all (a : ByteArray) (n : Nat) : (impl_isPattern.kl a n).length ≤ (impl_isPattern.kl a a.size).length := by
 unfold impl_isPattern.kl
 have e : a.data.toList.take n = (a.data.toList.take a.size).take n := by rw [List.take_of_length_le (l := a.data.toList) (i := a.size) (by simp)]
 rw [e]
 exact ((List.take_sublist _ _).filter _).length_le
set_option maxRecDepth 100000 in
set_option maxHeartbeats 3200000 in
theorem impl_isPattern.bsr (g : Nat) (p : Addr) (q : Nat) (p2 : Addr) (q2 : Nat) (A : Option Addr) (c2 : Nat) (a0 : ByteArray) (ha : a0.size ≤ 14) (w : World) (hT : impl_isPattern.Tb w g (.slice (some p) 0 q) (.slice (some p2) 0 q2) (.slice A 2 c2)) :
  Calls Tryd.prog 105 #[.pointer (some ⟨g, 0, none⟩), .string a0] w fun e w' => e = .returned (.string (impl_isPattern.strip a0)) ∧ Below w.heap.size w w' := by
 have HT := Aside0.mk hT
 have HA := Aside0.mk ha
 have t256 := hT.c256
 have c16 : decide ((16 : Int) ≤ (a0.size : Int)) = false := decide_eq_false (by omega)
 have c16n : decide (16 ≤ a0.size) = false := decide_eq_false (by omega)
 clear hT ha
 go_enter Tryd.func105, Tryd.ntmps105
 go_wp2_with fail
 have HA2 := HA.out
 go_loopg [5, 6, 10] a0.size (fun gg v5 v6 v10 w' => ∃ nn : Nat, nn ≤ a0.size ∧ a0.size - nn ≤ gg ∧ v5 = .int .i64 ((a0.size - nn + (impl_isPattern.kl a0 nn).length : Nat)) ∧ v6 = .bool (decide ((impl_isPattern.kl a0 nn).length < nn)) ∧ v10 = .int .i64 nn ∧ Drawn0 w w')
 case atStart => exact ⟨0, Nat.zero_le _, by omega, by first | rfl | simp [impl_isPattern.kl], by first | rfl | simp [impl_isPattern.kl], rfl, by repeat (first | exact Drawn0.refl _ | apply Drawn0.step)⟩
 case round =>
  obtain ⟨nn, hnn, hg, rfl, rfl, rfl, ⟨nd, rfl⟩⟩ := hrel
  have hle := impl_isPattern.kl_le a0 nn hnn
  by_cases hlt : nn < a0.size
  ·
   have hkl := impl_isPattern.kl_succ a0 nn hlt
   have p0 : (0 ≤ (nn : Int)) = True := eq_true (by omega)
   have q0 : ((nn : Int) < (a0.size : Int)) = True := eq_true (by omega)
   have q0d : decide ((nn : Int) < (a0.size : Int)) = true := decide_eq_true (by omega)
   have hwn : wrap64 ((nn : Int) + 1) = ((nn + 1 : Nat) : Int) := by rw [impl_isPattern.w64 (by omega) (by omega)]; omega
   have hb1 : ((a0[nn].toNat : Int) < 256) = True := eq_true (by have := UInt8.toNat_lt a0[nn]; omega)
   have hb2 : (a0[nn].toNat < 256) = True := eq_true (UInt8.toNat_lt a0[nn])
   have hb3 : (0 ≤ (a0[nn].toNat : Int)) = True := eq_true (by omega)
   by_cases hk : impl_isPattern.keep a0[nn] = true
   ·
    have hc : w.cell? ⟨g, a0[nn].toNat, none⟩ = some (.slice none 0 0) := by
     unfold impl_isPattern.keep at hk
     rw [Bool.and_eq_true, bne_iff_ne, bne_iff_ne] at hk
     exact HT.out.at _ (UInt8.toNat_lt _) (fun h => hk.1 (UInt8.toNat_inj.1 h)) (fun h => hk.2 (UInt8.toNat_inj.1 h))
    have hne : ∀ W : World, (binOp .neq 76 (.slice none 0 0) (.slice none 0 0)).run Tryd.prog W = .ok (.bool false) W := fun W => run_neq_slice_nil_any W 76 5 none 0 0 0 0 Tryd.underlying76
    rw [if_pos hk] at hkl
    go_wp2_with fail
    go_roundg (gk - 1)
    case measure => omega
    case rel => exact ⟨nn + 1, hlt, by omega, by rw [hkl, List.length_append, List.length_singleton]; congr 1; omega, by rw [hkl, List.length_append, List.length_singleton]; congr 1; rw [decide_eq_decide]; omega, by first | rfl | (congr 1; omega), by repeat (first | exact Drawn0.refl _ | apply Drawn0.step)⟩
   ·
    obtain ⟨pp, qq, hc⟩ : ∃ (pp : Addr) (qq : Nat), w.cell? ⟨g, a0[nn].toNat, none⟩ = some (.slice (some pp) 0 qq) := by
     by_cases h42 : a0[nn] = 42
     ·
      exact ⟨p, q, by rw [h42]; exact HT.out.c42⟩
     ·
      by_cases h63 : a0[nn] = 63
      ·
       exact ⟨p2, q2, by rw [h63]; exact HT.out.c63⟩
      ·
       exact absurd (by unfold impl_isPattern.keep; rw [Bool.and_eq_true, bne_iff_ne, bne_iff_ne]; exact ⟨h42, h63⟩) hk
    have hne : ∀ W : World, (binOp .neq 76 (.slice (some pp) 0 qq) (.slice none 0 0)).run Tryd.prog W = .ok (.bool true) W := fun W => run_neq_slice_nil_any W 76 5 (some pp) 0 qq 0 0 Tryd.underlying76
    rw [if_neg hk, List.append_nil] at hkl
    go_wp2_with fail
    go_roundg (gk - 1)
    case measure => omega
    case rel => exact ⟨nn + 1, hlt, by omega, by rw [hkl]; congr 1; omega, by rw [hkl]; congr 1; rw [decide_eq_true (by omega)], by first | rfl | (congr 1; omega), by repeat (first | exact Drawn0.refl _ | apply Drawn0.step)⟩
  ·
   have q0d : decide ((nn : Int) < (a0.size : Int)) = false := decide_eq_false (by omega)
   have hnn' : nn = a0.size := by omega
   subst hnn'
   by_cases hall : (impl_isPattern.kl a0 a0.size).length < a0.size
   ·
    have hd : decide ((impl_isPattern.kl a0 a0.size).length < a0.size) = true := decide_eq_true hall
    have hms := impl_isPattern.makeB (impl_isPattern.kl a0 a0.size).length (by omega)
    go_wp2_with fail
    simp only [Nat.sub_self, Nat.zero_add, hd]
    go_loopg [13, 14] a0.size (fun gg v13 v14 w' => ∃ nn : Nat, nn ≤ a0.size ∧ a0.size - nn ≤ gg ∧ v13 = .int .i64 (((impl_isPattern.kl a0 nn).length : Nat) : Int) ∧ v14 = .int .i64 nn ∧ Aside0 (impl_isPattern.Bf w' w.heap.size (impl_isPattern.cells a0 (impl_isPattern.kl a0 a0.size).length nn)) ∧ Aside0 (impl_isPattern.Tb w' g (.slice (some p) 0 q) (.slice (some p2) 0 q2) (.slice A 2 c2)) ∧ Aside0 (Below w.heap.size w w'))
    case atStart =>
     refine ⟨0, Nat.zero_le _, by omega, by simp [impl_isPattern.kl], rfl, ⟨?_⟩, ⟨HT.out.below (below_alloc (Drawn0.below ⟨nd, rfl⟩) _)⟩, ⟨below_alloc (Drawn0.below ⟨nd, rfl⟩) _⟩⟩
     have e := blk_new (w.drewN nd) (.cells (madeCells #[.int .u8 0] (impl_isPattern.kl a0 a0.size).length) 5)
     rw [impl_isPattern.made0] at e
     unfold impl_isPattern.cells
     rw [show impl_isPattern.kl a0 0 = [] from by simp [impl_isPattern.kl], List.map_nil, List.nil_append]
     unfold impl_isPattern.Bf
     rw [impl_isPattern.made0]
     exact e
    case round =>
     obtain ⟨nn, hnn, hg, rfl, rfl, HBf, HT2, HB⟩ := hrel
     have hgl := HT.out.lt
     by_cases hlt : nn < a0.size
     ·
      have hkl := impl_isPattern.kl_succ a0 nn hlt
      have p0 : (0 ≤ (nn : Int)) = True := eq_true (by omega)
      have q0 : ((nn : Int) < (a0.size : Int)) = True := eq_true (by omega)
      have q0d : decide ((nn : Int) < (a0.size : Int)) = true := decide_eq_true (by omega)
      have hb1 : ((a0[nn].toNat : Int) < 256) = True := eq_true (by have := UInt8.toNat_lt a0[nn]; omega)
      have hb2 : (a0[nn].toNat < 256) = True := eq_true (UInt8.toNat_lt a0[nn])
      have hb3 : (0 ≤ (a0[nn].toNat : Int)) = True := eq_true (by omega)
      by_cases hk : impl_isPattern.keep a0[nn] = true
      ·
       have hc : wr.cell? ⟨g, a0[nn].toNat, none⟩ = some (.slice none 0 0) := by
        unfold impl_isPattern.keep at hk
        rw [Bool.and_eq_true, bne_iff_ne, bne_iff_ne] at hk
        exact HT2.out.at _ (UInt8.toNat_lt _) (fun h => hk.1 (UInt8.toNat_inj.1 h)) (fun h => hk.2 (UInt8.toNat_inj.1 h))
       have hne : ∀ W : World, (binOp .neq 76 (.slice none 0 0) (.slice none 0 0)).run Tryd.prog W = .ok (.bool false) W := fun W => run_neq_slice_nil_any W 76 5 none 0 0 0 0 Tryd.underlying76
       have hm := impl_isPattern.kl_mono a0 nn hlt hk
       have hset := impl_isPattern.cells_set a0 nn hlt hk
       rw [if_pos hk] at hkl
       have hcl : wr.cell? ⟨w.heap.size, (impl_isPattern.kl a0 nn).length, none⟩ = some (.int .u8 0) := by
        rw [HBf.out.cell]
        unfold impl_isPattern.cells
        rw [List.getElem?_append_right (by simp), List.length_map, Nat.sub_self, List.getElem?_replicate, if_pos (by omega)]
       have hfl := HBf.out.fro (impl_isPattern.kl a0 nn).length
       have hm1 : ((impl_isPattern.kl a0 nn).length < (impl_isPattern.kl a0 a0.size).length) = True := eq_true hm
       have hm2 : (((impl_isPattern.kl a0 nn).length : Int) < ((impl_isPattern.kl a0 a0.size).length : Int)) = True := eq_true (by omega)
       have hm3 : (0 ≤ ((impl_isPattern.kl a0 nn).length : Int)) = True := eq_true (by omega)
       go_wp2_with fail
       go_roundg (gk - 1)
       case measure => omega
       case rel => exact ⟨nn + 1, hlt, by omega, by rw [hkl, List.length_append, List.length_singleton]; first | rfl | (congr 1; omega), by first | rfl | (congr 1; omega), ⟨by rw [← hset]; exact HBf.out.put _ _⟩, ⟨HT2.out.far _ (by omega)⟩, ⟨below_set HB.out (Nat.le_refl _)⟩⟩
      ·
       obtain ⟨pp, qq, hc⟩ : ∃ (pp : Addr) (qq : Nat), wr.cell? ⟨g, a0[nn].toNat, none⟩ = some (.slice (some pp) 0 qq) := by
        by_cases h42 : a0[nn] = 42
        ·
         exact ⟨p, q, by rw [h42]; exact HT2.out.c42⟩
        ·
         by_cases h63 : a0[nn] = 63
         ·
          exact ⟨p2, q2, by rw [h63]; exact HT2.out.c63⟩
         ·
          exact absurd (by unfold impl_isPattern.keep; rw [Bool.and_eq_true, bne_iff_ne, bne_iff_ne]; exact ⟨h42, h63⟩) hk
       have hne : ∀ W : World, (binOp .neq 76 (.slice (some pp) 0 qq) (.slice none 0 0)).run Tryd.prog W = .ok (.bool true) W := fun W => run_neq_slice_nil_any W 76 5 (some pp) 0 qq 0 0 Tryd.underlying76
       rw [if_neg hk, List.append_nil] at hkl
       have hm := impl_isPattern.kl_all a0 nn
       have hm1 : ((impl_isPattern.kl a0 nn).length ≤ (impl_isPattern.kl a0 a0.size).length) = True := eq_true hm
       have hm2 : (((impl_isPattern.kl a0 nn).length : Int) ≤ ((impl_isPattern.kl a0 a0.size).length : Int)) = True := eq_true (by omega)
       have hm3 : (0 ≤ ((impl_isPattern.kl a0 nn).length : Int)) = True := eq_true (by omega)
       have hcp : ∀ (W : World) (d : Option Addr) (n c : Nat), (Builtin.copy_ #[76, 76] 3 #[.slice d n c, .slice (some pp) 0 qq]).run Tryd.prog W = .ok (goInt 0) W := fun W d n c => run_copy_none W 76 76 3 5 d (some pp) n c 0 qq Tryd.underlying76 (by kernel_rfl) (by simp)
       go_wp2_with fail
       repeat (go_quiet (fail); try go_wp2)
       all_goals (try rw [← h])
       all_goals (go_roundg (gk - 1))
       case measure => omega
       case measure => omega
       case rel => exact ⟨nn + 1, hlt, by omega, by rw [hkl]; first | rfl | rw [h], by first | rfl | (congr 1; omega), ⟨by have e := HBf.out; unfold impl_isPattern.cells at e ⊢; rw [hkl]; exact e⟩, ⟨HT2.out⟩, ⟨by repeat (first | exact HB.out | apply pw_below_drewN)⟩⟩
       case rel => exact ⟨nn + 1, hlt, by omega, by rw [hkl], by first | rfl | (congr 1; omega), ⟨by have e := HBf.out; unfold impl_isPattern.cells at e ⊢; rw [hkl]; exact e⟩, ⟨HT2.out⟩, ⟨by repeat (first | exact HB.out | apply pw_below_drewN)⟩⟩
     ·
      have q0d : decide ((nn : Int) < (a0.size : Int)) = false := decide_eq_false (by omega)
      have hnn' : nn = a0.size := by omega
      subst hnn'
      have hcv : (convert 76 9 (.slice (some ⟨w.heap.size, 0, none⟩) (impl_isPattern.kl a0 a0.size).length (impl_isPattern.kl a0 a0.size).length)).run Tryd.prog wr = .ok (.string (impl_isPattern.strip a0)) wr := by
       rw [impl_isPattern.strip_all]
       refine run_convert_bytes_back wr 76 9 5 ⟨w.heap.size, 0, none⟩ (impl_isPattern.kl a0 a0.size).length (impl_isPattern.kl a0 a0.size) Tryd.underlying76 Tryd.underlying5 Tryd.underlying9 (fun j hj => ?_)
       have hadd : (⟨w.heap.size, 0, none⟩ : Addr).add j = ⟨w.heap.size, j, none⟩ := by unfold Addr.add; split <;> simp_all
       rw [hadd, HBf.out.cell]
       unfold impl_isPattern.cells
       rw [List.getElem?_append_left (by simpa using hj)]
       simp [hj]
      go_wp2_with fail
      go_ret
      exact ⟨rfl, by repeat (first | exact HB.out | apply pw_below_drewN)⟩
   ·
    have hd : decide ((impl_isPattern.kl a0 a0.size).length < a0.size) = false := decide_eq_false hall
    go_wp2_with fail
    go_ret
    exact ⟨by rw [impl_isPattern.strip_same a0 hall]; rfl, (Drawn0.below ⟨nd, rfl⟩)⟩
set_option maxRecDepth 100000 in
set_option maxHeartbeats 1600000 in
theorem impl_isPattern.replace (w0 w : World) (c d cap : Nat) (HR : impl_isPattern.Rp w c d cap) (h0 : w.cell? ⟨c, 0, none⟩ = some (.int .u32 0)) (h1 : w.cell? ⟨c, 1, none⟩ = some (.int .i32 0)) (hB : Below w0.heap.size w0 w) (hc : w0.heap.size ≤ c) (a0 : ByteArray) (ha : a0.size ≤ 14) :
  Calls Tryd.prog 17 #[.pointer (some ⟨c, 0, none⟩), .string a0] w fun e w' => e = .returned (.string (impl_isPattern.strip a0)) ∧ Below w0.heap.size w0 w' := by
 have HD := Aside0.mk (impl_isPattern.onceDo w0 w c d cap HR h0 h1 hB hc)
 have HA := Aside0.mk ha
 have HF := Aside0.mk HR.fr
 have hm : ∀ (n : Nat) (g : Nat) (W : World), (method (n + 1) 80 (.pointer (some ⟨g, 0, none⟩)) "Replace").run Tryd.prog W = .ok (105, .pointer (some ⟨g, 0, none⟩)) W := fun _ _ _ => by kernel_rfl
 clear HR h0 h1 hB ha
 go_enter Tryd.func17, Tryd.ntmps17
 go_wp2_with (first | (go_at_call 19; refine HD.out.mono ?_; rintro e w2 ⟨rfl, ⟨g, p, q, p2, q2, A, c2, hT, hg, h3⟩, hB2⟩; have HT := Aside0.mk hT; have HB2 := Aside0.mk hB2; clear hT hB2) | (go_at_call 105; refine (impl_isPattern.bsr g p q p2 q2 A c2 a0 HA.out _ HT.out).mono ?_; rintro e w3 ⟨rfl, hB3⟩; have HB3 := Aside0.mk (below_step HB2.out hB3); clear hB3))
 go_ret
 exact ⟨rfl, HB3.out⟩
def impl_isPattern.f (a0 : ByteArray) : Option Bool := if a0.size ≤ 14 then impl_areLetters.f (impl_isPattern.strip a0) else some false
set_option maxRecDepth 100000 in
set_option maxHeartbeats 1600000 in
theorem impl_isPattern.calls (a0 : ByteArray) (r : Bool) (w : World) (h : impl_isPattern.f a0 = some r) :
  Calls Tryd.prog 10 #[.string a0] w fun e w' => e = .returned (.bool r) ∧ Below w.heap.size w w' := by
 unfold impl_isPattern.f at h
 by_cases ha : a0.size ≤ 14
 ·
  rw [if_pos ha] at h
  have c1 : decide ((a0.size : Int) ≤ 14) = true := decide_eq_true (by omega)
  have c2 : decide (a0.size ≤ 14) = true := decide_eq_true ha
  have HA := Aside0.mk ha
  have HL := Aside0.mk h
  clear h ha
  go_enter Tryd.func10, Tryd.ntmps10
  go_wp2_with (first | ((with_reducible refine gate_dst (N := 7) rfl ?_); (try (refine gate_guard (by rfl) ?_; dsimp only)); refine Kd.R_lit Kd.string (w0 := w) w.heap.size 9 ?hg (N := 7) ?hd (xs := impl_isPattern.olds) (inner := [.string ⟨#[63]⟩, .string ⟨#[]⟩, .string ⟨#[42]⟩, .string ⟨#[]⟩]) (ok := fun _ => True) (okp := fun _ => True) ?hr ?hp (fun _ hk => hk) trivial (Below.refl _ _) (Nat.le_refl _) (by decide) ?_; (case hd => rfl); (case hg => rfl); (case hr => first | (go_simp; done) | (go_simp; rfl)); (case hp => exact (Reps.one (show Kd.M Kd.string _ _ _ (⟨#[63]⟩ : ByteArray) [.string ⟨#[63]⟩] from rfl) (Reps.one (show Kd.M Kd.string _ _ _ (⟨#[]⟩ : ByteArray) [.string ⟨#[]⟩] from rfl) (Reps.one (show Kd.M Kd.string _ _ _ (⟨#[42]⟩ : ByteArray) [.string ⟨#[42]⟩] from rfl) (Reps.one (show Kd.M Kd.string _ _ _ (⟨#[]⟩ : ByteArray) [.string ⟨#[]⟩] from rfl) (Reps.none _ _)))))); intro v1 w1 ho hb hg_ hnew_; obtain ⟨a1, cap1, e1, hb1, hb2, -⟩ := Kd.R_form ho (by decide); subst e1; have HO := Aside0.mk ho; have HB := Aside0.mk hb; clear ho hb hg_ hnew_) | (go_at_call 16; refine (impl_isPattern.newR a1 cap1 _ (Kd.R_reads' HO.out).2.2).mono ?_; rintro e w2 ⟨c, d, cap, rfl, hcw, hRp, h0, h1, hB2⟩; have HRp := Aside0.mk hRp; have H0 := Aside0.mk h0; have H1 := Aside0.mk h1; have HC := Aside0.mk hcw; have HB2 := Aside0.mk (below_step HB.out hB2); clear hRp h0 h1 hB2 hcw) | (go_at_call 17; refine (impl_isPattern.replace w _ c d cap HRp.out H0.out H1.out HB2.out (Nat.le_trans HB.out.size HC.out) a0 HA.out).mono ?_; rintro e w3 ⟨rfl, hB3⟩; have HB3 := Aside0.mk hB3; clear hB3) | (go_at_call 15; refine (impl_areLetters.calls (impl_isPattern.strip a0) r _ HL.out).mono ?_; rintro e w4 ⟨rfl, hd4⟩; have HB4 := Aside0.mk (below_step HB3.out (by first | exact hd4 | exact hd4.below)); clear hd4))
  go_ret
  exact ⟨rfl, HB4.out⟩
 ·
  rw [if_neg ha] at h
  obtain rfl := Option.some.inj h
  have c1 : decide ((a0.size : Int) ≤ 14) = false := decide_eq_false (by omega)
  have c2 : decide (a0.size ≤ 14) = false := decide_eq_false ha
  go_enter Tryd.func10, Tryd.ntmps10
  go_wp2_with fail
  go_ret
  exact ⟨rfl, by repeat (first | exact Below.refl _ _ | apply below_alloc | apply pw_below_drewN | apply below_drew1)⟩
def impl_isWord.f (a0 : ByteArray) : Option (Bool) := if (a0.size : Int) ≤ 12 then ((impl_areLetters.f a0).bind fun t127 => (some t127)) else (some false)
set_option maxHeartbeats 8000000 in
set_option maxRecDepth 100000 in
theorem impl_isWord.calls (a0 : ByteArray) (r : Bool) (w : World) (h : impl_isWord.f a0 = some r) :
  Calls Tryd.prog 13 #[.string a0] w fun e w' => e = .returned (.bool r) ∧ Below w.heap.size w w' := by
 have HB := Aside0.mk (Below.refl w.heap.size w)
 have H : (if (a0.size : Int) ≤ 12 then ((impl_areLetters.f a0).bind fun t127 => (some t127)) else (some false)) = some r := h
 clear h
 by_cases c2 : (a0.size : Int) ≤ 12
 ·
  rw [if_pos c2] at H
  have c2b0 : decide ((a0.size : Int) ≤ 12) = true := decide_eq_true c2
  have c2b1 : decide (a0.size ≤ 12) = true := decide_eq_true (by omega)
  clear c2
  replace H := Option.bind_eq_some_iff.mp H
  obtain ⟨t127, A30, H⟩ := H
  replace H : (some t127) = some r := H
  have A3 := Aside0.mk A30
  clear A30
  obtain rfl := Option.some.inj H
  go_enter Tryd.func13, Tryd.ntmps13
  go_wp2_with (first | (go_at_call 15; (with_reducible refine (impl_areLetters.calls a0 t127 _ A3.out).mono ?_); rintro e w4 ⟨rfl, hb⟩; have n0_ := Aside0.mk (below_step (by repeat (first | (with_reducible first | exact HB.out | apply below_alloc | apply pw_below_drewN | apply below_drew1) | exact HB.out)) hb); clear HB; have HB := n0_; clear n0_; (try clear hb); (try clear hb2); (try clear hk); (try clear hi)))
  go_ret
  exact ⟨by first | rfl | (simp [errW_none, errW_some] <;> rfl) | (simp [*, errW_none, errW_some] <;> rfl), by repeat (first | (with_reducible first | exact HB.out | apply below_alloc | apply pw_below_drewN | apply below_drew1) | exact HB.out)⟩
 ·
  rw [if_neg c2] at H
  have c2b0 : decide ((a0.size : Int) ≤ 12) = false := decide_eq_false c2
  have c2b1 : decide (a0.size ≤ 12) = false := decide_eq_false (by omega)
  clear c2
  obtain rfl := Option.some.inj H
  go_enter Tryd.func13, Tryd.ntmps13
  go_wp2
  go_ret
  exact ⟨by first | rfl | (simp [errW_none, errW_some] <;> rfl) | (simp [*, errW_none, errW_some] <;> rfl), by repeat (first | (with_reducible first | exact HB.out | apply below_alloc | apply pw_below_drewN | apply below_drew1) | exact HB.out)⟩
end Go.Proofs.YtjpepfdpihojfaaDoor.P
