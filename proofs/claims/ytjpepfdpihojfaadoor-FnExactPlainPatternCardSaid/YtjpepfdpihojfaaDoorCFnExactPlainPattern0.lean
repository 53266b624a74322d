/-
  Part 1 of the proof that FnExactPlainPattern returns true for every input: the functions that it reaches, each with its contract, and the law.
  Conditions: those of the given statement, no others.
-/
import Derived.Test.YtjpepfdpihojfaaDoorCFnExactPlainPatternW0
import Derived.Test.YtjpepfdpihojfaaDoorProg
import Derived.Below
import Derived.Deep.Draws
import Derived.Deep.AppendLies
import Derived.Maps.AppendAt
import Derived.OwnWalk
import Derived.Laws.BytesArg
import Derived.Laws.MakeOwn
import Derived.Laws.OwnMore
import Derived.Deep.OwnRows
import Derived.Tactics
import Derived.Lib.ConvBytes
import Derived.Laws.Slices
import Derived.WalkKit
import Derived.KernelRfl
import Derived.RowKit3
import Derived.Deep.LoopGhost
import Derived.Deep.QuietTactic
import Derived.BigQuiet
import Derived.WideLaws
import Derived.Deep.DeepCutAuto
import Derived.Deep.CutBlock
import Derived.Deep.RegionHeld3
import Derived.Laws.Rows
import Derived.Lib.AppendStr
import Derived.ArgAppend
import Derived.Laws.IdiomCopy
import Derived.OrdersHeld
import Derived.Laws.BitsLemmas
import Derived.RowKit
import Derived.Ground.NamesProg
import Derived.Shelf.Strings.SlTrimAscii
import Derived.Shelf.Abstract
import Derived.Defers
import Derived.Laws.Pointers
import Derived.Laws.LoneSync
import Derived.RegionCalls
import Derived.Laws.NewBlocks
import Derived.WalkSpells
import Derived.Laws.IdiomStrings
import Derived.Sort.Walk0
import Derived.Test.YtjpepfdpihojfaaDoorRows
import Derived.ProofKit
import Derived.OpenShut
import Derived.ShutString
import Derived.ChangeOld
import Derived.SizedLaws
import Derived.Lay
import Derived.LaidOnce
import Derived.SevenTiedAt
import Derived.Test.YtjpepfdpihojfaaDoorCards
import Derived.Test.YtjpepfdpihojfaaDoorTie
set_option linter.unusedVariables false
set_option linter.unusedSimpArgs false
namespace Go.Proofs.YtjpepfdpihojfaaDoor.P
open Go.RowKit Go.Proofs.YtjpepfdpihojfaaDoorW.PrintWords Go.Proofs.YtjpepfdpihojfaaDoorW.PrintLast Go.Proofs.YtjpepfdpihojfaaDoorW.PrintMore
attribute [local go_sem] max2_int min2_int max_two min_two max_three min_three max_four min_four
set_option linter.unusedVariables false
set_option linter.unusedSimpArgs false
def errW : Option Int → Value
  | none => .nilIface
  | some c => .iface 0 (.int .i64 c)
theorem errW_none : errW none = .nilIface := rfl
theorem errW_some (c : Int) : errW (some c) = .iface 0 (.int .i64 c) := rfl
theorem info4 : (Tryd.prog.info? 4).map (fun i => (i.zero, i.size, i.bytes)) = some (some (.bool false), 1, 1) := by kernel_rfl
mutual
def spec_l6Pattern.l0 : Nat → ByteArray → Int → Option (Bool)
 | 0, _, _ => none
 | k + 1, x0, x3 => if x3 < (x0.size : Int) then (spec_l6Pattern.j1 k x0 x3 (decide (x3 ≤ 14))) else (spec_l6Pattern.j1 k x0 x3 false)
def spec_l6Pattern.j1 : Nat → ByteArray → Int → Bool → Option (Bool)
 | 0, _, _, _ => none
 | k + 1, x0, x3, x11 => if x11 = true then (if 0 ≤ x3 then (if x3 < (x0.size : Int) then (if (bt x0 x3) = 63 then (spec_l6Pattern.l0 k x0 (wrap64 (x3 + 1))) else (if (bt x0 x3) = 42 then (spec_l6Pattern.l0 k x0 (wrap64 (x3 + 1))) else (if (bt x0 x3) < 97 then (some false) else (if (bt x0 x3) > 122 then (some false) else (spec_l6Pattern.l0 k x0 (wrap64 (x3 + 1))))))) else (none)) else (none)) else (some (decide ((x0.size : Int) ≤ 14)))
end
def spec_l6Pattern.f (k : Nat) (a0 : ByteArray) : Option (Bool) := spec_l6Pattern.l0 k a0 0
theorem spec_l6Pattern.mono_l : ∀ k, (∀ y0 y1, LeO (spec_l6Pattern.l0 k y0 y1) (spec_l6Pattern.l0 (k + 1) y0 y1)) ∧ (∀ y0 y1 y2, LeO (spec_l6Pattern.j1 k y0 y1 y2) (spec_l6Pattern.j1 (k + 1) y0 y1 y2))
 | 0 => ⟨fun _ _ r h => by simp [spec_l6Pattern.l0] at h, fun _ _ _ r h => by simp [spec_l6Pattern.j1] at h⟩
 | k + 1 => by
  obtain ⟨ih0, ih1⟩ := spec_l6Pattern.mono_l k
  refine ⟨?_, ?_⟩
  ·
   intro y0 y1
   unfold spec_l6Pattern.l0
   repeat' first
   | (with_reducible exact ih0 _ _)
   | (with_reducible exact ih1 _ _ _)
   | (with_reducible exact LeO.refl _)
   | (with_reducible exact LeO.none _)
   | (with_reducible refine LeO.ite ?_ ?_)
   | (with_reducible refine LeO.bind ?_ (fun _ => ?_))
   | exact ih0 _ _
   | exact ih1 _ _ _
   | exact LeO.none _
   | refine LeO.ite ?_ ?_
   | refine LeO.bind ?_ (fun _ => ?_)
  ·
   intro y0 y1 y2
   unfold spec_l6Pattern.j1
   repeat' first
   | (with_reducible exact ih0 _ _)
   | (with_reducible exact ih1 _ _ _)
   | (with_reducible exact LeO.refl _)
   | (with_reducible exact LeO.none _)
   | (with_reducible refine LeO.ite ?_ ?_)
   | (with_reducible refine LeO.bind ?_ (fun _ => ?_))
   | exact ih0 _ _
   | exact ih1 _ _ _
   | exact LeO.none _
   | refine LeO.ite ?_ ?_
   | refine LeO.bind ?_ (fun _ => ?_)
theorem spec_l6Pattern.mono : ∀ a0 k, LeO (spec_l6Pattern.f k a0) (spec_l6Pattern.f (k + 1) a0) := by
 intro a0 k
 obtain ⟨ih0, ih1⟩ := spec_l6Pattern.mono_l k
 unfold spec_l6Pattern.f
 repeat' first
   | (with_reducible exact ih0 _ _)
   | (with_reducible exact ih1 _ _ _)
   | (with_reducible exact LeO.refl _)
   | (with_reducible exact LeO.none _)
   | (with_reducible refine LeO.ite ?_ ?_)
   | (with_reducible refine LeO.bind ?_ (fun _ => ?_))
   | exact ih0 _ _
   | exact ih1 _ _ _
   | exact LeO.none _
   | refine LeO.ite ?_ ?_
   | refine LeO.bind ?_ (fun _ => ?_)
set_option maxHeartbeats 8000000 in
set_option maxRecDepth 100000 in
theorem spec_l6Pattern.calls (k : Nat) (a0 : ByteArray) (r : Bool) (w : World) (h : spec_l6Pattern.f k a0 = some r) :
  Calls Tryd.prog 9 #[.string a0] w fun e w' => e = .returned (.bool r) ∧ Drawn0 w w' := by
 have H : (spec_l6Pattern.l0 k a0 0) = some r := h
 clear h
 have H' := Aside0.mk H
 clear H
 go_enter Tryd.func9, Tryd.ntmps9
 go_wp2
 go_loopg [3] k (fun kq v3 w' => ∃ (x3_1 : Int), v3 = .int .i64 x3_1 ∧ Aside0 (spec_l6Pattern.l0 kq a0 x3_1 = some r) ∧ Aside0 (kq ≤ k) ∧ Drawn0 w w')
 case atStart => exact ⟨(0), (by first | rfl | (simp; done) | (simp [*]; done)), H', ⟨Nat.le_refl _⟩, by repeat (first | exact Drawn0.refl _ | apply Drawn0.step)⟩
 case round =>
  clear H'
  obtain ⟨x3_1, rfl, HA, HK1, ⟨m1, rfl⟩⟩ := hrel
  cases gk with
  | zero => exact absurd HA.out (by simp [spec_l6Pattern.l0])
  | succ k1 =>
   have H := HA.out
   clear HA
   simp only [spec_l6Pattern.l0] at H
   have HC2 := Aside0.mk H
   clear H
   go_upto_region 2 with (fail)
   go_cut [11] (fun v11 wc => ∃ (kq : Nat) (x11_1 : Bool), v11 = .bool x11_1 ∧ Aside0 (spec_l6Pattern.j1 kq a0 x3_1 x11_1 = some r) ∧ Aside0 (kq ≤ k1) ∧ Drawn0 w wc)
   case first =>
    have H := HC2.out
    clear HC2
    by_cases c3 : x3_1 < (a0.size : Int)
    ·
     rw [if_pos c3] at H
     have c3b0 : decide (x3_1 < (a0.size : Int)) = true := decide_eq_true c3
     clear c3
     (first | rw [c3b0] | (simp only [i64_w, i32_w]; rw [c3b0]) | skip)
     have H' := Aside0.mk H
     clear H
     go_wp2
     go_meet
     case rel => exact ⟨_, (decide (x3_1 ≤ 14)), (by first | rfl | (simp; done) | (simp [*]; done)), H', ⟨by have := HK1.out; first | omega | exact Nat.le_refl _⟩, by repeat (first | exact Drawn0.refl _ | apply Drawn0.step)⟩
    ·
     rw [if_neg c3] at H
     have c3b0 : decide (x3_1 < (a0.size : Int)) = false := decide_eq_false c3
     clear c3
     (first | rw [c3b0] | (simp only [i64_w, i32_w]; rw [c3b0]) | skip)
     have H' := Aside0.mk H
     clear H
     go_wp2
     go_meet
     case rel => exact ⟨_, (false), (by first | rfl | (simp; done) | (simp [*]; done)), H', ⟨by have := HK1.out; first | omega | exact Nat.le_refl _⟩, by repeat (first | exact Drawn0.refl _ | apply Drawn0.step)⟩
   case rest =>
    clear HC2
    try clear p2
    try clear c3
    try clear c3b0
    obtain ⟨kq, x11_1, rfl, HA, HJ1, ⟨mc1, rfl⟩⟩ := hcut
    cases kq with
    | zero => exact absurd HA.out (by simp [spec_l6Pattern.j1])
    | succ kj1 =>
     have H := HA.out
     clear HA
     simp only [spec_l6Pattern.j1] at H
     by_cases c4 : x11_1 = true
     ·
      subst c4
      have H1 : (if 0 ≤ x3_1 then (if x3_1 < (a0.size : Int) then (if (bt a0 x3_1) = 63 then (spec_l6Pattern.l0 kj1 a0 (wrap64 (x3_1 + 1))) else (if (bt a0 x3_1) = 42 then (spec_l6Pattern.l0 kj1 a0 (wrap64 (x3_1 + 1))) else (if (bt a0 x3_1) < 97 then (some false) else (if (bt a0 x3_1) > 122 then (some false) else (spec_l6Pattern.l0 kj1 a0 (wrap64 (x3_1 + 1))))))) else (none)) else (none)) = some r := by rw [if_pos rfl] at H; exact H
      clear H
      have H := H1
      clear H1
      by_cases c5 : 0 ≤ x3_1
      ·
       rw [if_pos c5] at H
       have c5b0 : decide (0 ≤ x3_1) = true := decide_eq_true c5
       clear c5
       by_cases c6 : x3_1 < (a0.size : Int)
       ·
        rw [if_pos c6] at H
        have c6b0 : decide (x3_1 < (a0.size : Int)) = true := decide_eq_true c6
        clear c6
        by_cases c8 : (bt a0 x3_1) = 63
        ·
         rw [if_pos c8] at H
         have c8b0 : ((bt a0 x3_1) == 63) = true := beq_iff_eq.mpr c8
         have c8b1 : ((bt a0 x3_1) != 63) = false := bne_eq_false_iff_eq.mpr c8
         clear c8
         have H' := Aside0.mk H
         clear H
         have p7 : 0 ≤ (x3_1 : Int) := of_decide_eq_true (by first | (with_reducible assumption) | assumption)
         have q7 : x3_1 < (a0.size : Int) := of_decide_eq_true (by first | (with_reducible assumption) | assumption)
         have hx7 := bt_at a0 x3_1
         replace p7 := eq_true p7
         replace q7 := eq_true q7
         go_wp2
         go_roundg kj1
         case measure => have := HK1.out; have := HJ1.out; omega
         case rel => exact ⟨(wrap64 (x3_1 + 1)), (by first | rfl | (simp; done) | (simp [*]; done)), H', ⟨by have := HK1.out; have := HJ1.out; omega⟩, by repeat (first | exact Drawn0.refl _ | apply Drawn0.step)⟩
        ·
         rw [if_neg c8] at H
         have c8b0 : ((bt a0 x3_1) == 63) = false := beq_eq_false_iff_ne.mpr c8
         have c8b1 : ((bt a0 x3_1) != 63) = true := bne_iff_ne.mpr c8
         by_cases c10 : (bt a0 x3_1) = 42
         ·
          rw [if_pos c10] at H
          have c10b0 : ((bt a0 x3_1) == 42) = true := beq_iff_eq.mpr c10
          have c10b1 : ((bt a0 x3_1) != 42) = false := bne_eq_false_iff_eq.mpr c10
          clear c10
          have H' := Aside0.mk H
          clear H
          have p7 : 0 ≤ (x3_1 : Int) := of_decide_eq_true (by first | (with_reducible assumption) | assumption)
          have q7 : x3_1 < (a0.size : Int) := of_decide_eq_true (by first | (with_reducible assumption) | assumption)
          have hx7 := bt_at a0 x3_1
          replace p7 := eq_true p7
          replace q7 := eq_true q7
          have p9 : 0 ≤ (x3_1 : Int) := of_decide_eq_true (by first | (with_reducible assumption) | assumption)
          have q9 : x3_1 < (a0.size : Int) := of_decide_eq_true (by first | (with_reducible assumption) | assumption)
          have hx9 := bt_at a0 x3_1
          replace p9 := eq_true p9
          replace q9 := eq_true q9
          go_wp2
          go_roundg kj1
          case measure => have := HK1.out; have := HJ1.out; omega
          case rel => exact ⟨(wrap64 (x3_1 + 1)), (by first | rfl | (simp; done) | (simp [*]; done)), H', ⟨by have := HK1.out; have := HJ1.out; omega⟩, by repeat (first | exact Drawn0.refl _ | apply Drawn0.step)⟩
         ·
          rw [if_neg c10] at H
          have c10b0 : ((bt a0 x3_1) == 42) = false := beq_eq_false_iff_ne.mpr c10
          have c10b1 : ((bt a0 x3_1) != 42) = true := bne_iff_ne.mpr c10
          by_cases c12 : (bt a0 x3_1) < 97
          ·
           rw [if_pos c12] at H
           have c12b0 : decide ((bt a0 x3_1) < 97) = true := decide_eq_true c12
           clear c12
           obtain rfl := Option.some.inj H
           have p7 : 0 ≤ (x3_1 : Int) := of_decide_eq_true (by first | (with_reducible assumption) | assumption)
           have q7 : x3_1 < (a0.size : Int) := of_decide_eq_true (by first | (with_reducible assumption) | assumption)
           have hx7 := bt_at a0 x3_1
           replace p7 := eq_true p7
           replace q7 := eq_true q7
           have p9 : 0 ≤ (x3_1 : Int) := of_decide_eq_true (by first | (with_reducible assumption) | assumption)
           have q9 : x3_1 < (a0.size : Int) := of_decide_eq_true (by first | (with_reducible assumption) | assumption)
           have hx9 := bt_at a0 x3_1
           replace p9 := eq_true p9
           replace q9 := eq_true q9
           have p11 : 0 ≤ (x3_1 : Int) := of_decide_eq_true (by first | (with_reducible assumption) | assumption)
           have q11 : x3_1 < (a0.size : Int) := of_decide_eq_true (by first | (with_reducible assumption) | assumption)
           have hx11 := bt_at a0 x3_1
           replace p11 := eq_true p11
           replace q11 := eq_true q11
           go_wp2
           go_ret
           exact ⟨by first | rfl | (simp; done) | (simp [*]; done), by repeat (first | exact Drawn0.refl _ | apply Drawn0.step)⟩
          ·
           rw [if_neg c12] at H
           have c12b0 : decide ((bt a0 x3_1) < 97) = false := decide_eq_false c12
           clear c12
           by_cases c14 : (bt a0 x3_1) > 122
           ·
            rw [if_pos c14] at H
            have c14b0 : decide (122 < (bt a0 x3_1)) = true := decide_eq_true c14
            clear c14
            obtain rfl := Option.some.inj H
            have p7 : 0 ≤ (x3_1 : Int) := of_decide_eq_true (by first | (with_reducible assumption) | assumption)
            have q7 : x3_1 < (a0.size : Int) := of_decide_eq_true (by first | (with_reducible assumption) | assumption)
            have hx7 := bt_at a0 x3_1
            replace p7 := eq_true p7
            replace q7 := eq_true q7
            have p9 : 0 ≤ (x3_1 : Int) := of_decide_eq_true (by first | (with_reducible assumption) | assumption)
            have q9 : x3_1 < (a0.size : Int) := of_decide_eq_true (by first | (with_reducible assumption) | assumption)
            have hx9 := bt_at a0 x3_1
            replace p9 := eq_true p9
            replace q9 := eq_true q9
            have p11 : 0 ≤ (x3_1 : Int) := of_decide_eq_true (by first | (with_reducible assumption) | assumption)
            have q11 : x3_1 < (a0.size : Int) := of_decide_eq_true (by first | (with_reducible assumption) | assumption)
            have hx11 := bt_at a0 x3_1
            replace p11 := eq_true p11
            replace q11 := eq_true q11
            have p13 : 0 ≤ (x3_1 : Int) := of_decide_eq_true (by first | (with_reducible assumption) | assumption)
            have q13 : x3_1 < (a0.size : Int) := of_decide_eq_true (by first | (with_reducible assumption) | assumption)
            have hx13 := bt_at a0 x3_1
            replace p13 := eq_true p13
            replace q13 := eq_true q13
            go_wp2
            go_ret
            exact ⟨by first | rfl | (simp; done) | (simp [*]; done), by repeat (first | exact Drawn0.refl _ | apply Drawn0.step)⟩
           ·
            rw [if_neg c14] at H
            have c14b0 : decide (122 < (bt a0 x3_1)) = false := decide_eq_false c14
            clear c14
            have H' := Aside0.mk H
            clear H
            have p7 : 0 ≤ (x3_1 : Int) := of_decide_eq_true (by first | (with_reducible assumption) | assumption)
            have q7 : x3_1 < (a0.size : Int) := of_decide_eq_true (by first | (with_reducible assumption) | assumption)
            have hx7 := bt_at a0 x3_1
            replace p7 := eq_true p7
            replace q7 := eq_true q7
            have p9 : 0 ≤ (x3_1 : Int) := of_decide_eq_true (by first | (with_reducible assumption) | assumption)
            have q9 : x3_1 < (a0.size : Int) := of_decide_eq_true (by first | (with_reducible assumption) | assumption)
            have hx9 := bt_at a0 x3_1
            replace p9 := eq_true p9
            replace q9 := eq_true q9
            have p11 : 0 ≤ (x3_1 : Int) := of_decide_eq_true (by first | (with_reducible assumption) | assumption)
            have q11 : x3_1 < (a0.size : Int) := of_decide_eq_true (by first | (with_reducible assumption) | assumption)
            have hx11 := bt_at a0 x3_1
            replace p11 := eq_true p11
            replace q11 := eq_true q11
            have p13 : 0 ≤ (x3_1 : Int) := of_decide_eq_true (by first | (with_reducible assumption) | assumption)
            have q13 : x3_1 < (a0.size : Int) := of_decide_eq_true (by first | (with_reducible assumption) | assumption)
            have hx13 := bt_at a0 x3_1
            replace p13 := eq_true p13
            replace q13 := eq_true q13
            go_wp2
            go_roundg kj1
            case measure => have := HK1.out; have := HJ1.out; omega
            case rel => exact ⟨(wrap64 (x3_1 + 1)), (by first | rfl | (simp; done) | (simp [*]; done)), H', ⟨by have := HK1.out; have := HJ1.out; omega⟩, by repeat (first | exact Drawn0.refl _ | apply Drawn0.step)⟩
       ·
        rw [if_neg c6] at H
        exact absurd H (by simp)
      ·
       rw [if_neg c5] at H
       exact absurd H (by simp)
     ·
      replace c4 := Bool.eq_false_iff.mpr c4
      subst c4
      have H1 : (some (decide ((a0.size : Int) ≤ 14))) = some r := by rw [if_neg (show ¬ (false = true) by decide)] at H; exact H
      clear H
      have H := H1
      clear H1
      obtain rfl := Option.some.inj H
      go_wp2
      go_ret
      exact ⟨by first | rfl | (simp; done) | (simp [*]; done), by repeat (first | exact Drawn0.refl _ | apply Drawn0.step)⟩
def spec_PlainPattern.l0 : Nat → ByteArray → ByteArray → Bool → Int → Option (ByteArray × Bool)
 | 0, _, _, _, _ => none
 | k + 1, x0, x4, x5, x6 => if x6 < (x0.size : Int) then (if 0 ≤ x6 then (if (bt x0 x6) = 42 then (spec_PlainPattern.l0 k x0 x4 true (wrap64 (x6 + 1))) else (if (bt x0 x6) = 63 then (if x4.size + 1 ≤ 9223372036854775807 then (spec_PlainPattern.l0 k x0 (x4 ++ (⟨#[63]⟩ : ByteArray)) x5 (wrap64 (x6 + 1))) else (none)) else (if x5 = true then (if x4.size + 1 ≤ 9223372036854775807 then (if x6 ≤ (wrap64 (x6 + 1)) then (if (wrap64 (x6 + 1)) ≤ (x0.size : Int) then (if (x4 ++ (⟨#[42]⟩ : ByteArray)).size + (x0.extract (x6 : Int).toNat ((wrap64 (x6 + 1)) : Int).toNat).size ≤ 9223372036854775807 then (spec_PlainPattern.l0 k x0 ((x4 ++ (⟨#[42]⟩ : ByteArray)) ++ (x0.extract (x6 : Int).toNat ((wrap64 (x6 + 1)) : Int).toNat)) false (wrap64 (x6 + 1))) else (none)) else (none)) else (none)) else (none)) else (if x6 ≤ (wrap64 (x6 + 1)) then (if (wrap64 (x6 + 1)) ≤ (x0.size : Int) then (if x4.size + (x0.extract (x6 : Int).toNat ((wrap64 (x6 + 1)) : Int).toNat).size ≤ 9223372036854775807 then (spec_PlainPattern.l0 k x0 (x4 ++ (x0.extract (x6 : Int).toNat ((wrap64 (x6 + 1)) : Int).toNat)) false (wrap64 (x6 + 1))) else (none)) else (none)) else (none))))) else (none)) else (if x5 = true then (if x4.size + 1 ≤ 9223372036854775807 then (some (x4 ++ (⟨#[42]⟩ : ByteArray), true)) else (none)) else (some (x4, true)))
def spec_PlainPattern.f (k : Nat) (a0 : ByteArray) : Option (ByteArray × Bool) := (spec_l6Pattern.f k a0).bind fun t101 => (if t101 = true then (spec_PlainPattern.l0 k a0 (⟨#[]⟩ : ByteArray) false 0) else (some ((⟨#[]⟩ : ByteArray), false)))
theorem spec_PlainPattern.mono_l : ∀ k, (∀ y0 y1 y2 y3, LeO (spec_PlainPattern.l0 k y0 y1 y2 y3) (spec_PlainPattern.l0 (k + 1) y0 y1 y2 y3))
 | 0 => fun _ _ _ _ r h => by simp [spec_PlainPattern.l0] at h
 | k + 1 => by
  have ih0 := spec_PlainPattern.mono_l k
  ·
   intro y0 y1 y2 y3
   unfold spec_PlainPattern.l0
   repeat' first
   | (with_reducible exact ih0 _ _ _ _)
   | (with_reducible exact spec_l6Pattern.mono _ _)
   | (with_reducible exact LeO.refl _)
   | (with_reducible exact LeO.none _)
   | (with_reducible refine LeO.ite ?_ ?_)
   | (with_reducible refine LeO.bind ?_ (fun _ => ?_))
   | exact ih0 _ _ _ _
   | exact spec_l6Pattern.mono _ _
   | exact LeO.none _
   | refine LeO.ite ?_ ?_
   | refine LeO.bind ?_ (fun _ => ?_)
theorem spec_PlainPattern.mono : ∀ a0 k, LeO (spec_PlainPattern.f k a0) (spec_PlainPattern.f (k + 1) a0) := by
 intro a0 k
 have ih0 := spec_PlainPattern.mono_l k
 unfold spec_PlainPattern.f
 repeat' first
   | (with_reducible exact ih0 _ _ _ _)
   | (with_reducible exact spec_l6Pattern.mono _ _)
   | (with_reducible exact LeO.refl _)
   | (with_reducible exact LeO.none _)
   | (with_reducible refine LeO.ite ?_ ?_)
   | (with_reducible refine LeO.bind ?_ (fun _ => ?_))
   | exact ih0 _ _ _ _
   | exact spec_l6Pattern.mono _ _
   | exact LeO.none _
   | refine LeO.ite ?_ ?_
   | refine LeO.bind ?_ (fun _ => ?_)
set_option maxHeartbeats 8000000 in
set_option maxRecDepth 100000 in
theorem spec_PlainPattern.calls (k : Nat) (a0 : ByteArray) (r1 : ByteArray) (r2 : Bool) (w : World) (h : spec_PlainPattern.f k a0 = some (r1, r2)) :
  Calls Tryd.prog 5 #[.string a0] w fun e w' => e = .returned (.tuple #[.string r1, .bool r2]) ∧ Drawn0 w w' := by
 have H : ((spec_l6Pattern.f k a0).bind fun t101 => (if t101 = true then (spec_PlainPattern.l0 k a0 (⟨#[]⟩ : ByteArray) false 0) else (some ((⟨#[]⟩ : ByteArray), false)))) = some (r1, r2) := h
 clear h
 replace H := Option.bind_eq_some_iff.mp H
 obtain ⟨t101, A20, H⟩ := H
 replace H : (if t101 = true then (spec_PlainPattern.l0 k a0 (⟨#[]⟩ : ByteArray) false 0) else (some ((⟨#[]⟩ : ByteArray), false))) = some (r1, r2) := H
 have A2 := Aside0.mk A20
 clear A20
 by_cases c3 : t101 = true
 ·
  subst c3
  have H1 : (spec_PlainPattern.l0 k a0 (⟨#[]⟩ : ByteArray) false 0) = some (r1, r2) := by rw [if_pos rfl] at H; exact H
  clear H
  have H := H1
  clear H1
  have H' := Aside0.mk H
  clear H
  go_enter Tryd.func5, Tryd.ntmps5
  go_wp2_with (first | ((with_reducible refine gate_callee (f := 9) rfl ?_); refine goesL_ (some 8) rfl rfl Tryd.func9 (by kernel_rfl) rfl #[.string a0] rfl (by (try simp only [List.map_toArray, List.map_cons, List.map_nil]); first | done | rfl | (simp only [List.length_drop, List.length_take]; rfl)) ?_; (with_reducible refine (spec_l6Pattern.calls k a0 true _ A2.out).mono ?_); rintro e w' ⟨rfl, ⟨nd, rfl⟩⟩; refine ⟨_, rfl, ?_⟩))
  go_loopg [4, 5, 6] k (fun kq v4 v5 v6 w' => ∃ (x4_1 : ByteArray) (x5_1 : Bool) (x6_1 : Int), v4 = .string x4_1 ∧ v5 = .bool x5_1 ∧ v6 = .int .i64 x6_1 ∧ Aside0 (spec_PlainPattern.l0 kq a0 x4_1 x5_1 x6_1 = some (r1, r2)) ∧ Aside0 (kq ≤ k) ∧ Drawn0 w w')
  case atStart => exact ⟨((⟨#[]⟩ : ByteArray)), (false), (0), (by first | rfl | (simp; done) | (simp [*]; done)), (by first | rfl | (simp; done) | (simp [*]; done)), (by first | rfl | (simp; done) | (simp [*]; done)), H', ⟨Nat.le_refl _⟩, by repeat (first | exact Drawn0.refl _ | apply Drawn0.step)⟩
  case round =>
   clear H'
   try clear p2
   try clear c3
   obtain ⟨x4_1, x5_1, x6_1, rfl, rfl, rfl, HA, HK1, ⟨m1, rfl⟩⟩ := hrel
   cases gk with
   | zero => exact absurd HA.out (by simp [spec_PlainPattern.l0])
   | succ k1 =>
    have H := HA.out
    clear HA
    simp only [spec_PlainPattern.l0] at H
    by_cases c4 : x6_1 < (a0.size : Int)
    ·
     rw [if_pos c4] at H
     have c4b0 : decide (x6_1 < (a0.size : Int)) = true := decide_eq_true c4
     clear c4
     by_cases c5 : 0 ≤ x6_1
     ·
      rw [if_pos c5] at H
      have c5b0 : decide (0 ≤ x6_1) = true := decide_eq_true c5
      clear c5
      by_cases c7 : (bt a0 x6_1) = 42
      ·
       rw [if_pos c7] at H
       have c7b0 : ((bt a0 x6_1) == 42) = true := beq_iff_eq.mpr c7
       have c7b1 : ((bt a0 x6_1) != 42) = false := bne_eq_false_iff_eq.mpr c7
       clear c7
       have H' := Aside0.mk H
       clear H
       have p6 : 0 ≤ (x6_1 : Int) := of_decide_eq_true (by first | (with_reducible assumption) | assumption)
       have q6 : x6_1 < (a0.size : Int) := of_decide_eq_true (by first | (with_reducible assumption) | assumption)
       have hx6 := bt_at a0 x6_1
       replace p6 := eq_true p6
       replace q6 := eq_true q6
       go_wp2
       go_roundg k1
       case measure => have := HK1.out; omega
       case rel => exact ⟨(x4_1), (true), (wrap64 (x6_1 + 1)), (by first | rfl | (simp; done) | (simp [*]; done)), (by first | rfl | (simp; done) | (simp [*]; done)), (by first | rfl | (simp; done) | (simp [*]; done)), H', ⟨by have := HK1.out; omega⟩, by repeat (first | exact Drawn0.refl _ | apply Drawn0.step)⟩
      ·
       rw [if_neg c7] at H
       have c7b0 : ((bt a0 x6_1) == 42) = false := beq_eq_false_iff_ne.mpr c7
       have c7b1 : ((bt a0 x6_1) != 42) = true := bne_iff_ne.mpr c7
       by_cases c9 : (bt a0 x6_1) = 63
       ·
        rw [if_pos c9] at H
        have c9b0 : ((bt a0 x6_1) == 63) = true := beq_iff_eq.mpr c9
        have c9b1 : ((bt a0 x6_1) != 63) = false := bne_eq_false_iff_eq.mpr c9
        clear c9
        by_cases c10 : x4_1.size + 1 ≤ 9223372036854775807
        ·
         rw [if_pos c10] at H
         have c10b0 := eq_true c10
         have c10b1 : decide (x4_1.size + 1 ≤ 9223372036854775807) = true := decide_eq_true c10
         try have c10b2 : (9223372036854775807 < x4_1.size + 1) = False := eq_false (Nat.not_lt.2 c10)
         have H' := Aside0.mk H
         clear H
         have p6 : 0 ≤ (x6_1 : Int) := of_decide_eq_true (by first | (with_reducible assumption) | assumption)
         have q6 : x6_1 < (a0.size : Int) := of_decide_eq_true (by first | (with_reducible assumption) | assumption)
         have hx6 := bt_at a0 x6_1
         replace p6 := eq_true p6
         replace q6 := eq_true q6
         have p8 : 0 ≤ (x6_1 : Int) := of_decide_eq_true (by first | (with_reducible assumption) | assumption)
         have q8 : x6_1 < (a0.size : Int) := of_decide_eq_true (by first | (with_reducible assumption) | assumption)
         have hx8 := bt_at a0 x6_1
         replace p8 := eq_true p8
         replace q8 := eq_true q8
         go_wp2
         go_roundg k1
         case measure => have := HK1.out; omega
         case rel => exact ⟨(x4_1 ++ (⟨#[63]⟩ : ByteArray)), (x5_1), (wrap64 (x6_1 + 1)), (by first | rfl | (simp; done) | (simp [*]; done)), (by first | rfl | (simp; done) | (simp [*]; done)), (by first | rfl | (simp; done) | (simp [*]; done)), H', ⟨by have := HK1.out; omega⟩, by repeat (first | exact Drawn0.refl _ | apply Drawn0.step)⟩
        ·
         rw [if_neg c10] at H
         exact absurd H (by simp)
       ·
        rw [if_neg c9] at H
        have c9b0 : ((bt a0 x6_1) == 63) = false := beq_eq_false_iff_ne.mpr c9
        have c9b1 : ((bt a0 x6_1) != 63) = true := bne_iff_ne.mpr c9
        by_cases c11 : x5_1 = true
        ·
         subst c11
         have H1 : (if x4_1.size + 1 ≤ 9223372036854775807 then (if x6_1 ≤ (wrap64 (x6_1 + 1)) then (if (wrap64 (x6_1 + 1)) ≤ (a0.size : Int) then (if (x4_1 ++ (⟨#[42]⟩ : ByteArray)).size + (a0.extract (x6_1 : Int).toNat ((wrap64 (x6_1 + 1)) : Int).toNat).size ≤ 9223372036854775807 then (spec_PlainPattern.l0 k1 a0 ((x4_1 ++ (⟨#[42]⟩ : ByteArray)) ++ (a0.extract (x6_1 : Int).toNat ((wrap64 (x6_1 + 1)) : Int).toNat)) false (wrap64 (x6_1 + 1))) else (none)) else (none)) else (none)) else (none)) = some (r1, r2) := by rw [if_pos rfl] at H; exact H
         clear H
         have H := H1
         clear H1
         by_cases c12 : x4_1.size + 1 ≤ 9223372036854775807
         ·
          rw [if_pos c12] at H
          have c12b0 := eq_true c12
          have c12b1 : decide (x4_1.size + 1 ≤ 9223372036854775807) = true := decide_eq_true c12
          try have c12b2 : (9223372036854775807 < x4_1.size + 1) = False := eq_false (Nat.not_lt.2 c12)
          have c13b0 := eq_true (of_decide_eq_true (by first | (with_reducible assumption) | assumption) : 0 ≤ x6_1)
          by_cases c14 : x6_1 ≤ (wrap64 (x6_1 + 1))
          ·
           rw [if_pos c14] at H
           have c14b0 := eq_true c14
           have c14b1 : decide (x6_1 ≤ (wrap64 (x6_1 + 1))) = true := decide_eq_true c14
           by_cases c15 : (wrap64 (x6_1 + 1)) ≤ (a0.size : Int)
           ·
            rw [if_pos c15] at H
            have c15b0 := eq_true c15
            have c15b1 : decide ((wrap64 (x6_1 + 1)) ≤ (a0.size : Int)) = true := decide_eq_true c15
            by_cases c16 : (x4_1 ++ (⟨#[42]⟩ : ByteArray)).size + (a0.extract (x6_1 : Int).toNat ((wrap64 (x6_1 + 1)) : Int).toNat).size ≤ 9223372036854775807
            ·
             rw [if_pos c16] at H
             have c16b0 := eq_true c16
             have c16b1 : decide ((x4_1 ++ (⟨#[42]⟩ : ByteArray)).size + (a0.extract (x6_1 : Int).toNat ((wrap64 (x6_1 + 1)) : Int).toNat).size ≤ 9223372036854775807) = true := decide_eq_true c16
             try have c16b2 : (9223372036854775807 < (x4_1 ++ (⟨#[42]⟩ : ByteArray)).size + (a0.extract (x6_1 : Int).toNat ((wrap64 (x6_1 + 1)) : Int).toNat).size) = False := eq_false (Nat.not_lt.2 c16)
             have H' := Aside0.mk H
             clear H
             have p6 : 0 ≤ (x6_1 : Int) := of_decide_eq_true (by first | (with_reducible assumption) | assumption)
             have q6 : x6_1 < (a0.size : Int) := of_decide_eq_true (by first | (with_reducible assumption) | assumption)
             have hx6 := bt_at a0 x6_1
             replace p6 := eq_true p6
             replace q6 := eq_true q6
             have p8 : 0 ≤ (x6_1 : Int) := of_decide_eq_true (by first | (with_reducible assumption) | assumption)
             have q8 : x6_1 < (a0.size : Int) := of_decide_eq_true (by first | (with_reducible assumption) | assumption)
             have hx8 := bt_at a0 x6_1
             replace p8 := eq_true p8
             replace q8 := eq_true q8
             go_wp2
             go_roundg k1
             case measure => have := HK1.out; omega
             case rel => exact ⟨((x4_1 ++ (⟨#[42]⟩ : ByteArray)) ++ (a0.extract (x6_1 : Int).toNat ((wrap64 (x6_1 + 1)) : Int).toNat)), (false), (wrap64 (x6_1 + 1)), (by first | rfl | (simp; done) | (simp [*]; done)), (by first | rfl | (simp; done) | (simp [*]; done)), (by first | rfl | (simp; done) | (simp [*]; done)), H', ⟨by have := HK1.out; omega⟩, by repeat (first | exact Drawn0.refl _ | apply Drawn0.step)⟩
            ·
             rw [if_neg c16] at H
             exact absurd H (by simp)
           ·
            rw [if_neg c15] at H
            exact absurd H (by simp)
          ·
           rw [if_neg c14] at H
           exact absurd H (by simp)
         ·
          rw [if_neg c12] at H
          exact absurd H (by simp)
        ·
         replace c11 := Bool.eq_false_iff.mpr c11
         subst c11
         have H1 : (if x6_1 ≤ (wrap64 (x6_1 + 1)) then (if (wrap64 (x6_1 + 1)) ≤ (a0.size : Int) then (if x4_1.size + (a0.extract (x6_1 : Int).toNat ((wrap64 (x6_1 + 1)) : Int).toNat).size ≤ 9223372036854775807 then (spec_PlainPattern.l0 k1 a0 (x4_1 ++ (a0.extract (x6_1 : Int).toNat ((wrap64 (x6_1 + 1)) : Int).toNat)) false (wrap64 (x6_1 + 1))) else (none)) else (none)) else (none)) = some (r1, r2) := by rw [if_neg (show ¬ (false = true) by decide)] at H; exact H
         clear H
         have H := H1
         clear H1
         have c17b0 := eq_true (of_decide_eq_true (by first | (with_reducible assumption) | assumption) : 0 ≤ x6_1)
         by_cases c18 : x6_1 ≤ (wrap64 (x6_1 + 1))
         ·
          rw [if_pos c18] at H
          have c18b0 := eq_true c18
          have c18b1 : decide (x6_1 ≤ (wrap64 (x6_1 + 1))) = true := decide_eq_true c18
          by_cases c19 : (wrap64 (x6_1 + 1)) ≤ (a0.size : Int)
          ·
           rw [if_pos c19] at H
           have c19b0 := eq_true c19
           have c19b1 : decide ((wrap64 (x6_1 + 1)) ≤ (a0.size : Int)) = true := decide_eq_true c19
           by_cases c20 : x4_1.size + (a0.extract (x6_1 : Int).toNat ((wrap64 (x6_1 + 1)) : Int).toNat).size ≤ 9223372036854775807
           ·
            rw [if_pos c20] at H
            have c20b0 := eq_true c20
            have c20b1 : decide (x4_1.size + (a0.extract (x6_1 : Int).toNat ((wrap64 (x6_1 + 1)) : Int).toNat).size ≤ 9223372036854775807) = true := decide_eq_true c20
            try have c20b2 : (9223372036854775807 < x4_1.size + (a0.extract (x6_1 : Int).toNat ((wrap64 (x6_1 + 1)) : Int).toNat).size) = False := eq_false (Nat.not_lt.2 c20)
            have H' := Aside0.mk H
            clear H
            have p6 : 0 ≤ (x6_1 : Int) := of_decide_eq_true (by first | (with_reducible assumption) | assumption)
            have q6 : x6_1 < (a0.size : Int) := of_decide_eq_true (by first | (with_reducible assumption) | assumption)
            have hx6 := bt_at a0 x6_1
            replace p6 := eq_true p6
            replace q6 := eq_true q6
            have p8 : 0 ≤ (x6_1 : Int) := of_decide_eq_true (by first | (with_reducible assumption) | assumption)
            have q8 : x6_1 < (a0.size : Int) := of_decide_eq_true (by first | (with_reducible assumption) | assumption)
            have hx8 := bt_at a0 x6_1
            replace p8 := eq_true p8
            replace q8 := eq_true q8
            go_wp2
            go_roundg k1
            case measure => have := HK1.out; omega
            case rel => exact ⟨(x4_1 ++ (a0.extract (x6_1 : Int).toNat ((wrap64 (x6_1 + 1)) : Int).toNat)), (false), (wrap64 (x6_1 + 1)), (by first | rfl | (simp; done) | (simp [*]; done)), (by first | rfl | (simp; done) | (simp [*]; done)), (by first | rfl | (simp; done) | (simp [*]; done)), H', ⟨by have := HK1.out; omega⟩, by repeat (first | exact Drawn0.refl _ | apply Drawn0.step)⟩
           ·
            rw [if_neg c20] at H
            exact absurd H (by simp)
          ·
           rw [if_neg c19] at H
           exact absurd H (by simp)
         ·
          rw [if_neg c18] at H
          exact absurd H (by simp)
     ·
      rw [if_neg c5] at H
      exact absurd H (by simp)
    ·
     rw [if_neg c4] at H
     have c4b0 : decide (x6_1 < (a0.size : Int)) = false := decide_eq_false c4
     clear c4
     by_cases c21 : x5_1 = true
     ·
      subst c21
      have H1 : (if x4_1.size + 1 ≤ 9223372036854775807 then (some (x4_1 ++ (⟨#[42]⟩ : ByteArray), true)) else (none)) = some (r1, r2) := by rw [if_pos rfl] at H; exact H
      clear H
      have H := H1
      clear H1
      by_cases c22 : x4_1.size + 1 ≤ 9223372036854775807
      ·
       rw [if_pos c22] at H
       have c22b0 := eq_true c22
       have c22b1 : decide (x4_1.size + 1 ≤ 9223372036854775807) = true := decide_eq_true c22
       try have c22b2 : (9223372036854775807 < x4_1.size + 1) = False := eq_false (Nat.not_lt.2 c22)
       simp only [Option.some.injEq, Prod.mk.injEq] at H
       obtain ⟨rfl, rfl⟩ := H
       go_wp2
       go_ret2
       exact ⟨by first | rfl | (simp; done) | (simp [*]; done), by repeat (first | exact Drawn0.refl _ | apply Drawn0.step)⟩
      ·
       rw [if_neg c22] at H
       exact absurd H (by simp)
     ·
      replace c21 := Bool.eq_false_iff.mpr c21
      subst c21
      have H1 : (some (x4_1, true)) = some (r1, r2) := by rw [if_neg (show ¬ (false = true) by decide)] at H; exact H
      clear H
      have H := H1
      clear H1
      simp only [Option.some.injEq, Prod.mk.injEq] at H
      obtain ⟨rfl, rfl⟩ := H
      go_wp2
      go_ret2
      exact ⟨by first | rfl | (simp; done) | (simp [*]; done), by repeat (first | exact Drawn0.refl _ | apply Drawn0.step)⟩
 ·
  replace c3 := Bool.eq_false_iff.mpr c3
  subst c3
  have H1 : (some ((⟨#[]⟩ : ByteArray), false)) = some (r1, r2) := by rw [if_neg (show ¬ (false = true) by decide)] at H; exact H
  clear H
  have H := H1
  clear H1
  simp only [Option.some.injEq, Prod.mk.injEq] at H
  obtain ⟨rfl, rfl⟩ := H
  go_enter Tryd.func5, Tryd.ntmps5
  go_wp2_with (first | ((with_reducible refine gate_callee (f := 9) rfl ?_); refine goesL_ (some 8) rfl rfl Tryd.func9 (by kernel_rfl) rfl #[.string a0] rfl (by (try simp only [List.map_toArray, List.map_cons, List.map_nil]); first | done | rfl | (simp only [List.length_drop, List.length_take]; rfl)) ?_; (with_reducible refine (spec_l6Pattern.calls k a0 false _ A2.out).mono ?_); rintro e w' ⟨rfl, ⟨nd, rfl⟩⟩; refine ⟨_, rfl, ?_⟩))
  go_ret2
  exact ⟨by first | rfl | (simp; done) | (simp [*]; done), by repeat (first | exact Drawn0.refl _ | apply Drawn0.step)⟩
end Go.Proofs.YtjpepfdpihojfaaDoor.P
namespace Go.Proofs
open Go.Shelf
def Tryd.lays160_ren : Go.Shelf.Ren := ⟨fun | 160 => 18 | 232 => 22 | 231 => 21 | 227 => 23 | 234 => 25 | 233 => 24 | 236 => 27 | 235 => 26 | 228 => 31 | 271 => 34 | 151 => 33 | 197 => 32 | 120 => 43 | 152 => 42 | 260 => 41 | 137 => 50 | 119 => 51 | 224 => 52 | 225 => 53 | 217 => 64 | 266 => 73 | n => n, fun | 9 => 9 | 4 => 4 | 3 => 3 | 5 => 5 | 117 => 54 | 116 => 53 | 0 => 0 | 124 => 57 | 21 => 21 | 105 => 62 | 46 => 96 | 119 => 73 | 139 => 99 | 138 => 98 | n => n, fun | 3 => 0 | 4 => 1 | n => n⟩
theorem Tryd.lays160 : Go.Proofs.Lays.n160 Tryd.prog Tryd.lays160_ren := {
  mixed := by kernel_rfl
  f119 := Tryd.func51.trans (congrArg some (by kernel_rfl))
  f120 := Tryd.func43.trans (congrArg some (by kernel_rfl))
  f137 := Tryd.func50.trans (congrArg some (by kernel_rfl))
  f151 := Tryd.func33.trans (congrArg some (by kernel_rfl))
  f152 := Tryd.func42.trans (congrArg some (by kernel_rfl))
  f160 := Tryd.func18.trans (congrArg some (by kernel_rfl))
  f197 := Tryd.func32.trans (congrArg some (by kernel_rfl))
  f217 := Tryd.func64.trans (congrArg some (by kernel_rfl))
  f224 := Tryd.func52.trans (congrArg some (by kernel_rfl))
  f225 := Tryd.func53.trans (congrArg some (by kernel_rfl))
  f227 := Tryd.func23.trans (congrArg some (by kernel_rfl))
  f228 := Tryd.func31.trans (congrArg some (by kernel_rfl))
  f231 := Tryd.func21.trans (congrArg some (by kernel_rfl))
  f232 := Tryd.func22.trans (congrArg some (by kernel_rfl))
  f233 := Tryd.func24.trans (congrArg some (by kernel_rfl))
  f234 := Tryd.func25.trans (congrArg some (by kernel_rfl))
  f235 := Tryd.func26.trans (congrArg some (by kernel_rfl))
  f236 := Tryd.func27.trans (congrArg some (by kernel_rfl))
  f260 := Tryd.func41.trans (congrArg some (by kernel_rfl))
  f266 := Tryd.func73.trans (congrArg some (by kernel_rfl))
  f271 := Tryd.func34.trans (congrArg some (by kernel_rfl))
  t0 := Tryd.underlying0
  a0 := Tryd.isAgg0
  z0 := Tryd.sizeOf0
  v0 := Tryd.zeroValue0
  t3 := Tryd.underlying3
  a3 := Tryd.isAgg3
  z3 := Tryd.sizeOf3
  v3 := Tryd.zeroValue3
  t4 := Tryd.underlying4
  a4 := Tryd.isAgg4
  z4 := Tryd.sizeOf4
  v4 := Tryd.zeroValue4
  t5 := Tryd.underlying5
  a5 := Tryd.isAgg5
  z5 := Tryd.sizeOf5
  v5 := Tryd.zeroValue5
  t9 := Tryd.underlying9
  a9 := Tryd.isAgg9
  z9 := Tryd.sizeOf9
  v9 := Tryd.zeroValue9
  t21 := Tryd.underlying21
  a21 := Tryd.isAgg21
  z21 := Tryd.sizeOf21
  v21 := Tryd.zeroValue21
  t46 := Tryd.underlying96
  a46 := Tryd.isAgg96
  z46 := Tryd.sizeOf96
  v46 := Tryd.zeroValue96
  t105 := Tryd.underlying62
  a105 := Tryd.isAgg62
  z105 := Tryd.sizeOf62
  v105 := Tryd.zeroValue62
  t116 := Tryd.underlying53
  a116 := Tryd.isAgg53
  z116 := Tryd.sizeOf53
  t117 := Tryd.underlying54
  a117 := Tryd.isAgg54
  z117 := Tryd.sizeOf54
  v117 := Tryd.zeroValue54
  t119 := Tryd.underlying73
  a119 := Tryd.isAgg73
  z119 := Tryd.sizeOf73
  t124 := Tryd.underlying57
  a124 := Tryd.isAgg57
  z124 := Tryd.sizeOf57
  v124 := Tryd.zeroValue57
  t138 := Tryd.underlying98
  a138 := Tryd.isAgg98
  z138 := Tryd.sizeOf98
  v138 := Tryd.zeroValue98
  t139 := Tryd.underlying99
  a139 := Tryd.isAgg99
  z139 := Tryd.sizeOf99
  v139 := Tryd.zeroValue99
  g3 := by kernel_rfl
  g4 := by kernel_rfl }
end Go.Proofs
namespace Go.Proofs.YtjpepfdpihojfaaDoor.P
open Go.RowKit Go.Proofs.YtjpepfdpihojfaaDoorW.PrintWords Go.Proofs.YtjpepfdpihojfaaDoorW.PrintLast Go.Proofs.YtjpepfdpihojfaaDoorW.PrintMore
attribute [local go_sem] max2_int min2_int max_two min_two max_three min_three max_four min_four
set_option linter.unusedVariables false
set_option linter.unusedSimpArgs false
def impl_areLetters.letter (c : UInt8) : Bool := decide (97 ≤ c.toNat ∧ c.toNat ≤ 122)
def impl_areLetters.f (a0 : ByteArray) : Option Bool := if a0.size ≤ 9223372036854775807 then some (a0.data.toList.all impl_areLetters.letter) else none
def impl_areLetters.abc : List UInt8 := [97, 98, 99, 100, 101, 102, 103, 104, 105, 106, 107, 108, 109, 110, 111, 112, 113, 114, 115, 116, 117, 118, 119, 120, 121, 122]
theorem impl_areLetters.abc_mem (c : UInt8) : impl_areLetters.abc.contains c = impl_areLetters.letter c := by
 have h : ∀ n : Fin 256, impl_areLetters.abc.contains (UInt8.ofNat n.val) = impl_areLetters.letter (UInt8.ofNat n.val) := by decide +kernel
 have := h ⟨c.toNat, c.toNat_lt⟩
 simpa using this
theorem impl_areLetters.dw_nil (p : UInt8 → Bool) : ∀ l : List UInt8, l.dropWhile p = [] ↔ ∀ x ∈ l, p x = true
 | [] => by simp
 | a :: l => by
  cases h : p a
  ·
   simp [List.dropWhile_cons, h]
  ·
   simp [List.dropWhile_cons, h, impl_areLetters.dw_nil p l]
theorem impl_areLetters.dw_head (p : UInt8 → Bool) : ∀ (l t : List UInt8) (a : UInt8), l.dropWhile p = a :: t → p a = false
 | [], _, _, h => by simp at h
 | b :: l, t, a, h => by
  cases hb : p b
  ·
   simp [List.dropWhile_cons, hb] at h; rw [← h.1]; exact hb
  ·
   simp [List.dropWhile_cons, hb] at h; exact impl_areLetters.dw_head p l t a h
theorem impl_areLetters.trim_eq (p : UInt8 → Bool) (l : List UInt8) : ((l.reverse.dropWhile p).reverse.dropWhile p).isEmpty = l.all p := by
 rw [Bool.eq_iff_iff, List.isEmpty_iff, impl_areLetters.dw_nil p, List.all_eq_true]
 constructor
 ·
  intro h
  cases hm : l.reverse.dropWhile p with
  | nil =>
   rw [impl_areLetters.dw_nil p] at hm
   exact fun x hx => hm x (by simpa using hx)
  | cons a t =>
   have h1 : p a = true := h a (by rw [hm]; simp)
   rw [impl_areLetters.dw_head p _ _ _ hm] at h1; cases h1
 ·
  intro h x hx
  have : x ∈ l.reverse.dropWhile p := by simpa using hx
  have := (List.dropWhile_sublist p).subset this
  exact h x (by simpa using this)
theorem impl_areLetters.trim_nil (l : List UInt8) : (Lib.trimS l impl_areLetters.abc).isEmpty = l.all impl_areLetters.letter := by
 unfold Lib.trimS Lib.trimLeftS Lib.trimRightS
 have : (fun x => impl_areLetters.abc.contains x) = impl_areLetters.letter := funext impl_areLetters.abc_mem
 rw [this, impl_areLetters.trim_eq]
theorem impl_areLetters.rb {a b : Bool} (h : a = b) : Ending.returned (.bool a) = .returned (.bool b) := by rw [h]
set_option maxHeartbeats 2000000 in
theorem impl_areLetters.calls (a0 : ByteArray) (r : Bool) (w : World) (h : impl_areLetters.f a0 = some r) :
  Calls Tryd.prog 15 #[.string a0] w fun e w' => e = .returned (.bool r) ∧ Below w.heap.size w w' := by
 unfold impl_areLetters.f at h
 by_cases hs : a0.size ≤ 9223372036854775807
 ·
  rw [if_pos hs] at h
  have H := Aside0.mk (Option.some.inj h)
  clear h
  have HC := Aside0.mk (Go.Proofs.Any.strings_Trim_laid Go.Proofs.Tryd.lays160 (by kernel_rfl) a0 ⟨#[97, 98, 99, 100, 101, 102, 103, 104, 105, 106, 107, 108, 109, 110, 111, 112, 113, 114, 115, 116, 117, 118, 119, 120, 121, 122]⟩ w hs (by decide) (Go.Proofs.ascii_of_all (by decide)))
  have HT := Aside0.mk ((show (Lib.trimS a0.data.toList impl_areLetters.abc).isEmpty = r from (impl_areLetters.trim_nil _).trans H.out))
  clear H
  go_enter Tryd.func15, Tryd.ntmps15
  go_wp2_with fail
  refine HC.out.mono ?_
  clear HC
  rintro e w1 ⟨rfl, hb0⟩
  have HB := Aside0.mk hb0
  clear hb0
  obtain ⟨t, ht⟩ : ∃ t, t = Lib.trimS a0.data.toList impl_areLetters.abc := ⟨_, rfl⟩
  rw [show Lib.trimS a0.data.toList (⟨#[97, 98, 99, 100, 101, 102, 103, 104, 105, 106, 107, 108, 109, 110, 111, 112, 113, 114, 115, 116, 117, 118, 119, 120, 121, 122]⟩ : ByteArray).data.toList = t from ht.symm]
  rw [← ht] at HT
  clear ht
  cases t with
  | nil =>
   go_wp2_with fail
   go_ret
   exact ⟨impl_areLetters.rb (by rw [← HT.out]; rfl), HB.out⟩
  | cons c t =>
   go_wp2_with fail
   go_ret
   exact ⟨impl_areLetters.rb (by rw [← HT.out]; rfl), HB.out⟩
 ·
  rw [if_neg hs] at h; cases h
theorem impl_isPattern.disable (w : World) : (callFunc 54 #[]).run Tryd.prog w = .ok (.value (.tuple #[])) w := run_call_mark0 Tryd.func54 (by kernel_rfl) (by kernel_rfl) (by kernel_rfl) .disable (by kernel_rfl) w
theorem impl_isPattern.enable (w : World) : (callFunc 56 #[]).run Tryd.prog w = .ok (.value (.tuple #[])) w := run_call_mark0 Tryd.func56 (by kernel_rfl) (by kernel_rfl) (by kernel_rfl) .enable (by kernel_rfl) w
theorem impl_isPattern.acquire (a : Addr) (w : World) : (callFunc 57 #[.pointer (some a)]).run Tryd.prog w = .ok (.value (.tuple #[])) w := run_call_marked Tryd.func57 (by kernel_rfl) (by kernel_rfl) (by kernel_rfl) .acquire (by kernel_rfl) a w
theorem impl_isPattern.releaseMerge (a : Addr) (w : World) : (callFunc 59 #[.pointer (some a)]).run Tryd.prog w = .ok (.value (.tuple #[])) w := run_call_marked Tryd.func59 (by kernel_rfl) (by kernel_rfl) (by kernel_rfl) .releaseMerge (by kernel_rfl) a w
set_option maxRecDepth 100000 in
set_option maxHeartbeats 1600000 in
theorem impl_isPattern.store_deferred (a : Addr) (x : Value) (u : FrameMode) (w : World) (hc : w.cell? a = some x) (hz : w.frozen? a = false) :
  CallsD Tryd.prog 38 #[.pointer (some a), .bool true] u w fun e u' w' => u' = u ∧ (e = .returned (.tuple #[]) ∧ w' = w.drew.setCell a (.int .u32 1)) := by
 have hc' : w.drew.cell? a = some x := by go_simp
 have hz' : w.drew.frozen? a = false := by go_simp
 have hst := run_call_store (P := Tryd.prog) Tryd.func46 (by kernel_rfl) (by kernel_rfl) (by kernel_rfl) (by kernel_rfl) (k := .u32) (y := 1) hc' hz'
 go_enter_d Tryd.func38, Tryd.ntmps38
 go_wp2
 go_region_calls
 all_goals (go_end0; exact ⟨rfl, rfl⟩)
set_option maxRecDepth 100000 in
set_option maxHeartbeats 1600000 in
theorem impl_isPattern.unlock_deferred (a : Addr) (u : FrameMode) (w : World) (hc : w.cell? a = some (.int .i32 1)) (hz : w.frozen? a = false) :
  CallsD Tryd.prog 37 #[.pointer (some a)] u w fun e u' w' => u' = u ∧ (e = .returned (.tuple #[]) ∧ w' = w.setCell a (.int .i32 0)) := by
 have hd := impl_isPattern.disable
 have he := impl_isPattern.enable
 have hr := impl_isPattern.releaseMerge
 have hadd := run_call_add (P := Tryd.prog) Tryd.func60 (by kernel_rfl) (by kernel_rfl) (by kernel_rfl) .i32 (by kernel_rfl) (y := -1) (s := 0) hc hz (by simp [go_sem]; rfl)
 have hcv := run_convert_to_unsafe (P := Tryd.prog) (src := 104) (dst := 108) Tryd.underlying104 Tryd.underlying108 (by kernel_rfl) hc
 go_enter_d Tryd.func37, Tryd.ntmps37
 go_wp2
 go_end0
 go_wp2
 go_end0
 exact ⟨rfl, rfl⟩
set_option maxRecDepth 100000 in
set_option maxHeartbeats 1600000 in
theorem impl_isPattern.lock_free (a : Addr) (w : World) (hc : w.cell? a = some (.int .i32 0)) (hz : w.frozen? a = false) :
  Calls Tryd.prog 36 #[.pointer (some a)] w fun e w' => e = .returned (.tuple #[]) ∧ w' = w.setCell a (.int .i32 1) := by
 have hd := impl_isPattern.disable
 have he := impl_isPattern.enable
 have ha := impl_isPattern.acquire
 have hcas := run_call_cas_hit (P := Tryd.prog) Tryd.func55 (by kernel_rfl) (by kernel_rfl) (by kernel_rfl) .i32 (by kernel_rfl) (y := 1) hc hz
 have hc' : (w.setCell a (.int .i32 1)).cell? a = some (.int .i32 1) := World.cell?_setCell_same w a _ hc
 have hcv := run_convert_to_unsafe (P := Tryd.prog) (src := 104) (dst := 108) Tryd.underlying104 Tryd.underlying108 (by kernel_rfl) hc'
 go_enter Tryd.func36, Tryd.ntmps36
 go_wp2
 first | go_end0 | (simp only [Exit.inBlock, Exit.then]; refine bodyPost_ret (results_none rfl _ _ _) rfl ?_) | refine bodyPost_ret (results_none rfl _ _ _) rfl ?_
 go_wp2
 go_end0
 exact ⟨rfl, rfl⟩
theorem impl_isPattern.zc : Tryd.zeroCells79.toList = List.replicate 257 (Value.slice none 0 0) := by kernel_rfl
theorem impl_isPattern.info9 : (Tryd.prog.info? 9).map (fun i => (i.zero, i.size, i.bytes)) = some (some (.string ⟨#[]⟩), 1, 16) := by kernel_rfl
theorem impl_isPattern.makeS (W : World) : (Instr.makeSlice 33 (.int .i64 0) (.int .i64 2)).run Tryd.prog W = .ok (.slice (some ⟨W.heap.size, 0, none⟩) 0 2) (W.alloc (.cells (madeCells #[.string ⟨#[]⟩] 2) 9)) := by
 obtain ⟨i0, hi, hz0, hz1, hz2⟩ := info_parts impl_isPattern.info9
 have h := run_makeSlice (P := Tryd.prog) W 33 9 i0 _ Tryd.underlying33 hi hz0 .i64 .i64 0 2 (by omega) (by omega) (by rw [hz1]; decide) (by rw [hz2]; decide) (by omega)
 rw [hz1] at h
 exact h
def impl_isPattern.Tb (W : World) (g : Nat) (x y v : Value) : Prop := ∃ cs : List Value, W.heap[g]? = some (.cells cs.toArray 79 (0, 0)) ∧ cs.length = 257 ∧ (∀ i, i < 256 → i ≠ 42 → i ≠ 63 → cs[i]? = some (Value.slice none 0 0)) ∧ cs[42]? = some x ∧ cs[63]? = some y ∧ cs[256]? = some v
theorem impl_isPattern.Tb.fro {W : World} {g : Nat} {x y v : Value} (h : impl_isPattern.Tb W g x y v) (i : Nat) : W.frozen? ⟨g, i, none⟩ = false := by
 obtain ⟨cs, h1, -⟩ := h
 simp [World.frozen?, h1]
theorem impl_isPattern.Tb.at {W : World} {g : Nat} {x y v : Value} (h : impl_isPattern.Tb W g x y v) (i : Nat) (h0 : i < 256) (h1 : i ≠ 42) (h2 : i ≠ 63) : W.cell? ⟨g, i, none⟩ = some (Value.slice none 0 0) := by
 obtain ⟨cs, h1', h2', h3, -⟩ := h
 have := h3 i h0 h1 h2
 simpa [World.cell?, h1'] using this
theorem impl_isPattern.Tb.c42 {W : World} {g : Nat} {x y v : Value} (h : impl_isPattern.Tb W g x y v) : W.cell? ⟨g, 42, none⟩ = some x := by
 obtain ⟨cs, h1', h2', h3, h4, h5, h6⟩ := h
 simpa [World.cell?, h1'] using h4
theorem impl_isPattern.Tb.c63 {W : World} {g : Nat} {x y v : Value} (h : impl_isPattern.Tb W g x y v) : W.cell? ⟨g, 63, none⟩ = some y := by
 obtain ⟨cs, h1', h2', h3, h4, h5, h6⟩ := h
 simpa [World.cell?, h1'] using h5
theorem impl_isPattern.Tb.c256 {W : World} {g : Nat} {x y v : Value} (h : impl_isPattern.Tb W g x y v) : W.cell? ⟨g, 256, none⟩ = some v := by
 obtain ⟨cs, h1', h2', h3, h4, h5, h6⟩ := h
 simpa [World.cell?, h1'] using h6
theorem impl_isPattern.Tb.put {W : World} {g i : Nat} {cs : List Value} (u : Value) (h : W.heap[g]? = some (.cells cs.toArray 79 (0, 0))) : (W.setCell ⟨g, i, none⟩ u).heap[g]? = some (.cells (cs.set i u).toArray 79 (0, 0)) := by
 rw [setCell_eq_setRow W g i _ 79 (0, 0) u h, setRow_heap W g _ _ 79 (0, 0) h]
 simp
theorem impl_isPattern.Tb.s42 {W : World} {g : Nat} {x y v : Value} (h : impl_isPattern.Tb W g x y v) (u : Value) : impl_isPattern.Tb (W.setCell ⟨g, 42, none⟩ u) g u y v := by
 obtain ⟨cs, h1, h2, h3, h4, h5, h6⟩ := h
 refine ⟨cs.set 42 u, impl_isPattern.Tb.put u h1, by simpa using h2, fun i a b c => ?_, ?_, ?_, ?_⟩
 ·
  rw [List.getElem?_set_ne (by omega)]; exact h3 i a b c
 ·
  rw [List.getElem?_set_self (by omega)]
 ·
  rw [List.getElem?_set_ne (by omega)]; exact h5
 ·
  rw [List.getElem?_set_ne (by omega)]; exact h6
theorem impl_isPattern.Tb.s63 {W : World} {g : Nat} {x y v : Value} (h : impl_isPattern.Tb W g x y v) (u : Value) : impl_isPattern.Tb (W.setCell ⟨g, 63, none⟩ u) g x u v := by
 obtain ⟨cs, h1, h2, h3, h4, h5, h6⟩ := h
 refine ⟨cs.set 63 u, impl_isPattern.Tb.put u h1, by simpa using h2, fun i a b c => ?_, ?_, ?_, ?_⟩
 ·
  rw [List.getElem?_set_ne (by omega)]; exact h3 i a b c
 ·
  rw [List.getElem?_set_ne (by omega)]; exact h4
 ·
  rw [List.getElem?_set_self (by omega)]
 ·
  rw [List.getElem?_set_ne (by omega)]; exact h6
theorem impl_isPattern.Tb.s256 {W : World} {g : Nat} {x y v : Value} (h : impl_isPattern.Tb W g x y v) (u : Value) : impl_isPattern.Tb (W.setCell ⟨g, 256, none⟩ u) g x y u := by
 obtain ⟨cs, h1, h2, h3, h4, h5, h6⟩ := h
 refine ⟨cs.set 256 u, impl_isPattern.Tb.put u h1, by simpa using h2, fun i a b c => ?_, ?_, ?_, ?_⟩
 ·
  rw [List.getElem?_set_ne (by omega)]; exact h3 i a b c
 ·
  rw [List.getElem?_set_ne (by omega)]; exact h4
 ·
  rw [List.getElem?_set_ne (by omega)]; exact h5
 ·
  rw [List.getElem?_set_self (by omega)]
theorem impl_isPattern.Tb.lt {W : World} {g : Nat} {x y v : Value} (h : impl_isPattern.Tb W g x y v) : g < W.heap.size := by
 obtain ⟨cs, h1, -⟩ := h
 exact blk_lt h1
theorem impl_isPattern.Tb.below {W W' : World} {g : Nat} {x y v : Value} (h : impl_isPattern.Tb W g x y v) (hb : Below W.heap.size W W') : impl_isPattern.Tb W' g x y v := by
 obtain ⟨cs, h1, h2⟩ := h
 exact ⟨cs, blk_below h1 hb, h2⟩
theorem impl_isPattern.Tb.far {W : World} {g k i : Nat} {x y v : Value} (h : impl_isPattern.Tb W g x y v) (u : Value) (hk : g ≠ k) : impl_isPattern.Tb (W.setCell ⟨k, i, none⟩ u) g x y v := by
 obtain ⟨cs, h1, h2⟩ := h
 exact ⟨cs, (Below.heap_setCell W ⟨k, i, none⟩ u g hk).trans h1, h2⟩
theorem impl_isPattern.made (W : World) : ∃ W1, (storeCells ⟨W.heap.size + 1, 0, none⟩ (Tryd.zeroCells79.toList.set 256 (.slice (some ⟨W.heap.size, 0, none⟩) 0 2))).run Tryd.prog ((W.alloc (.cells (madeCells #[.string ⟨#[]⟩] 2) 9)).alloc (.cells Tryd.zeroCells79 79)) = .ok () W1
  ∧ impl_isPattern.Tb W1 (W.heap.size + 1) (Value.slice none 0 0) (Value.slice none 0 0) (.slice (some ⟨W.heap.size, 0, none⟩) 0 2) ∧ W1.heap[W.heap.size]? = some (.cells (madeCells #[.string ⟨#[]⟩] 2) 9 (0, 0)) ∧ Below W.heap.size W W1 ∧ W1.heap.size = W.heap.size + 2 := by
 obtain ⟨V, hV⟩ : ∃ V, V = (W.alloc (.cells (madeCells #[.string ⟨#[]⟩] 2) 9)).alloc (.cells Tryd.zeroCells79 79) := ⟨_, rfl⟩
 have hs1 : (W.alloc (.cells (madeCells #[.string ⟨#[]⟩] 2) 9)).heap.size = W.heap.size + 1 := by simp
 have hg : V.heap[W.heap.size + 1]? = some (.cells Tryd.zeroCells79 79 (0, 0)) := by rw [hV, ← hs1]; exact blk_new _ _
 have hb : V.heap[W.heap.size]? = some (.cells (madeCells #[.string ⟨#[]⟩] 2) 9 (0, 0)) := by
  rw [hV]; exact blk_below (blk_new W _) (below_alloc (Below.refl _ _) _)
 have hB : Below W.heap.size W V := by rw [hV]; exact below_alloc (below_alloc (Below.refl _ _) _) _
 have hsz : V.heap.size = W.heap.size + 2 := by rw [hV]; simp
 rw [← hV]
 have hl : (Tryd.zeroCells79.toList.set 256 (.slice (some ⟨W.heap.size, 0, none⟩) 0 2)).length = 257 := by rw [List.length_set, impl_isPattern.zc, List.length_replicate]
 have hr := run_storeCells_from (P := Tryd.prog) (W.heap.size + 1) 79 (Tryd.zeroCells79.toList.set 256 (.slice (some ⟨W.heap.size, 0, none⟩) 0 2)) 0 Tryd.zeroCells79 V hg (by
  rw [hl, ← Array.length_toList, impl_isPattern.zc, List.length_replicate]) (fun v hv => by
  rcases List.mem_or_eq_of_mem_set hv with h | h
  ·
   rw [impl_isPattern.zc] at h
   rw [(List.mem_replicate.1 h).2]; rfl
  ·
   rw [h]; rfl)
 rw [List.take_zero, List.nil_append] at hr
 refine ⟨_, hr, ⟨_, setRow_heap V _ _ _ 79 (0, 0) hg, hl, fun i h0 h1 h2 => ?_, ?_, ?_, ?_⟩, ?_, ?_, by rw [setRow_size, hsz]⟩
 ·
  rw [List.getElem?_set_ne (by omega), impl_isPattern.zc, List.getElem?_replicate, if_pos (by omega)]
 ·
  rw [List.getElem?_set_ne (by omega), impl_isPattern.zc, List.getElem?_replicate, if_pos (by omega)]
 ·
  rw [List.getElem?_set_ne (by omega), impl_isPattern.zc, List.getElem?_replicate, if_pos (by omega)]
 ·
  rw [List.getElem?_set_self (by rw [impl_isPattern.zc, List.length_replicate]; omega)]
 ·
  rw [setRow_other V _ _ _ (by omega)]; exact hb
 ·
  exact ⟨hB.os, hB.tape, hB.output, by rw [setRow_size]; exact hB.size, fun k hk => by rw [setRow_other V _ _ _ (by omega)]; exact hB.block k hk⟩
theorem impl_isPattern.conv1 (w : World) (n : Int) (b : UInt8) (h : n = b.toNat) : (convert 76 9 (.slice (some ⟨w.heap.size, 0, none⟩) 1 1)).run Tryd.prog (w.alloc (.cells #[.int .u8 n] 5)) = .ok (.string ⟨#[b]⟩) (w.alloc (.cells #[.int .u8 n] 5)) := by
 subst h
 refine run_convert_bytes_back (w.alloc (.cells #[.int .u8 b.toNat] 5)) 76 9 5 ⟨w.heap.size, 0, none⟩ 1 [b] Tryd.underlying76 Tryd.underlying5 Tryd.underlying9 ?_
 intro j hj
 obtain rfl : j = 0 := by simpa using hj
 simp [Addr.add]
theorem impl_isPattern.Tb.grown {W W' : World} {g : Nat} {x y v : Value} {row : Option Nat} (h : impl_isPattern.Tb W g x y v) (hg : W.grownBy W' row) (hr : row ≠ some g) : impl_isPattern.Tb W' g x y v := by
 obtain ⟨cs, h1, h2⟩ := h
 exact ⟨cs, blk_grown h1 hg (fun e => hr e.symm), h2⟩
theorem impl_isPattern.rowMade (V W1 : World) (g : Nat) (hr : W1.heap[V.heap.size]? = some (.cells (madeCells #[.string ⟨#[]⟩] 2) 9 (0, 0))) (hs : W1.heap.size = V.heap.size + 2) (hg : g = V.heap.size + 1) (b : Nat) (hb : b ≤ V.heap.size) :
  Kd.R Kd.string 9 W1 b (fun k => k ≠ g) (.slice (some ⟨V.heap.size, 0, none⟩) 0 2) [] := by
 have h := World.ownsRow_made (V) (e := 9) (size := 1) (base := b) (madeCells #[.string ⟨#[]⟩] 2) 2 hb (by decide) (size_madeCells _ _)
 have h2 : Kd.R Kd.string 9 (V.alloc (.cells (madeCells #[.string ⟨#[]⟩] 2) 9)) b (fun k => k = V.heap.size) (.slice (some ⟨V.heap.size, 0, none⟩) 0 2) [] := Kd.R_of_own h (fun k hk => by simpa [Value.ownBlock, eq_comm] using hk)
 have h3 : Kd.R Kd.string 9 W1 b (fun k => k = V.heap.size) (.slice (some ⟨V.heap.size, 0, none⟩) 0 2) [] := Kd.R_move h2 (fun k hk => by subst hk; rw [hr, blk_new])
 exact Kd.R_mono h3 (fun k hk => by omega)
set_option maxRecDepth 100000 in
set_option maxHeartbeats 1600000 in
theorem impl_isPattern.build (c d cap : Nat) (hcap : 4 ≤ cap) (w : World) (h4 : w.cell? ⟨c, 4, none⟩ = some (.slice (some ⟨d, 0, none⟩) 4 cap))
  (d0 : w.cell? ⟨d, 0, none⟩ = some (.string ⟨#[63]⟩)) (d1 : w.cell? ⟨d, 1, none⟩ = some (.string ⟨#[]⟩)) (d2 : w.cell? ⟨d, 2, none⟩ = some (.string ⟨#[42]⟩)) (d3 : w.cell? ⟨d, 3, none⟩ = some (.string ⟨#[]⟩)) (hdw : d < w.heap.size) :
  Calls Tryd.prog 30 #[.pointer (some ⟨c, 0, none⟩)] w fun e w' => ∃ g, e = .returned (.iface 80 (.pointer (some ⟨g, 0, none⟩))) ∧ w.heap.size ≤ g ∧ ∃ p q p2 q2 A c2, impl_isPattern.Tb w' g (.slice (some p) 0 q) (.slice (some p2) 0 q2) (.slice A 2 c2) ∧ Below w.heap.size w w' := by
 have hms := impl_isPattern.makeS
 have hsb : ∀ W : World, (convert 9 76 (.string ⟨#[]⟩)).run Tryd.prog W = .ok (.slice (some ⟨W.heap.size, 0, none⟩) 0 (grownCap W 0 0 5)) (W.drew.alloc (.cells (bytesRow ⟨#[]⟩ (grownCap W 0 0 5)) 5 ((bytesRow ⟨#[]⟩ (grownCap W 0 0 5)).size, (bytesRow ⟨#[]⟩ (grownCap W 0 0 5)).size + 1))) := fun W => run_bytes_of_string W 9 76 5 ⟨#[]⟩ Tryd.underlying9 Tryd.underlying76 Tryd.underlying5
 have heq : ∀ W : World, (binOp .eql 76 (.slice none 0 0) (.slice none 0 0)).run Tryd.prog W = .ok (.bool true) W := fun W => run_eql_nil_slice W 76 5 none 0 0 0 0 Tryd.underlying76
 go_enter Tryd.func30, Tryd.ntmps30
 go_wp2_with fail
 go_loopg [4, 5] 2 (fun gg v4 v5 w' => ((gg = 2 ∧ v4 = .bool true ∧ v5 = .int .i64 0) ∨ (gg = 1 ∧ v4 = .bool false ∧ v5 = .int .i64 2) ∨ (gg = 0 ∧ v4 = .bool false ∧ v5 = .int .i64 4)) ∧ Drawn0 w w')
 case atStart => exact ⟨.inl ⟨rfl, rfl, rfl⟩, by repeat (first | exact Drawn0.refl _ | apply Drawn0.step)⟩
 case round =>
  obtain ⟨(⟨rfl, rfl, rfl⟩ | ⟨rfl, rfl, rfl⟩ | ⟨rfl, rfl, rfl⟩), hdr⟩ := hrel
  ·
   obtain ⟨m1, rfl⟩ := hdr
   go_wp2_with fail
   go_roundg 1
   case measure => omega
   case rel => exact ⟨.inr (.inl ⟨rfl, rfl, rfl⟩), by repeat (first | exact Drawn0.refl _ | apply Drawn0.step)⟩
  ·
   obtain ⟨m1, rfl⟩ := hdr
   go_wp2_with fail
   go_roundg 0
   case measure => omega
   case rel => exact ⟨.inr (.inr ⟨rfl, rfl, rfl⟩), by repeat (first | exact Drawn0.refl _ | apply Drawn0.step)⟩
  ·
   have HB0 := Aside0.mk hdr.below
   have e0 := (HB0.out.cell (p := ⟨d, 0, none⟩) hdw).trans d0
   have e1 := (HB0.out.cell (p := ⟨d, 1, none⟩) hdw).trans d1
   have e2 := (HB0.out.cell (p := ⟨d, 2, none⟩) hdw).trans d2
   have e3 := (HB0.out.cell (p := ⟨d, 3, none⟩) hdw).trans d3
   have hsz0 := Aside0.mk HB0.out.size
   have HE := Aside0.mk (And.intro e0 (And.intro e1 (And.intro e2 e3)))
   have HD := Aside0.mk hdw
   clear e0 e1 e2 e3
   obtain ⟨W1, hst, hTb, hRow, hBel, hSz⟩ := impl_isPattern.made wr
   have HT := Aside0.mk hTb
   have HRw := Aside0.mk hRow
   have HBl := Aside0.mk hBel
   have HSz := Aside0.mk hSz
   clear hTb
   have HB1 := Aside0.mk (show Below w.heap.size w W1 from hdr.below.trans (hBel.mono hdr.below.size))
   have HB2 : ∀ w', Below w.heap.size w w' → w'.cell? ⟨d, 0, none⟩ = some (.string ⟨#[63]⟩) ∧ w'.cell? ⟨d, 1, none⟩ = some (.string ⟨#[]⟩) ∧ w'.cell? ⟨d, 2, none⟩ = some (.string ⟨#[42]⟩) ∧ w'.cell? ⟨d, 3, none⟩ = some (.string ⟨#[]⟩) := fun w' hb => ⟨(hb.cell (p := ⟨d, 0, none⟩) hdw).trans d0, (hb.cell (p := ⟨d, 1, none⟩) hdw).trans d1, (hb.cell (p := ⟨d, 2, none⟩) hdw).trans d2, (hb.cell (p := ⟨d, 3, none⟩) hdw).trans d3⟩
   clear hBel d0 d1 d2 d3 h4 hdr
   obtain ⟨g, hg⟩ : ∃ g, g = wr.heap.size + 1 := ⟨_, rfl⟩
   have HG := Aside0.mk hg
   have HGW := Aside0.mk (show w.heap.size ≤ g from by have := hsz0.out; omega)
   rw [← hg] at HT
   have HO := Aside0.mk (impl_isPattern.rowMade wr W1 g hRow hSz hg w.heap.size hsz0.out)
   clear hRow hSz
   go_wp2_with fail
   rw [← hg]
   clear hst hg
   go_loopg [12] 2 (fun gg v12 w' => ∃ (x y v : Value) (xs : List ByteArray), Aside0 (impl_isPattern.Tb w' g x y v) ∧ Aside0 (Kd.R Kd.string 9 w' w.heap.size (fun k => k ≠ g) v xs) ∧ Aside0 (Below w.heap.size w w') ∧ ((gg = 2 ∧ v12 = .int .i64 2 ∧ x = (Value.slice none 0 0) ∧ y = (Value.slice none 0 0) ∧ xs.length = 0) ∨ (gg = 1 ∧ v12 = .int .i64 0 ∧ y = (Value.slice none 0 0) ∧ (∃ p q, x = .slice (some p) 0 q) ∧ xs.length = 1) ∨ (gg = 0 ∧ v12 = .int .i64 (-2) ∧ (∃ p q, x = .slice (some p) 0 q) ∧ (∃ p q, y = .slice (some p) 0 q) ∧ xs.length = 2)))
   case atStart => exact ⟨_, _, _, _, HT, HO, HB1, .inl ⟨rfl, rfl, rfl, rfl, rfl⟩⟩
   case round =>
    clear HT HO
    obtain ⟨x, y, v, xs, HT, HO, HB, (⟨rfl, rfl, rfl, rfl, hx⟩ | ⟨rfl, rfl, rfl, ⟨p, q, rfl⟩, hx⟩ | ⟨rfl, rfl, ⟨p, q, rfl⟩, ⟨p2, q2, rfl⟩, hx⟩)⟩ := hrel
    ·
     have h42 : ∀ h, ((⟨#[42]⟩ : ByteArray)[0]'h).toNat = 42 := fun _ => rfl
     have f0 := (HB2 _ HB.out).1
     have f1 := (HB2 _ HB.out).2.1
     have f2 := (HB2 _ HB.out).2.2.1
     have f3 := (HB2 _ HB.out).2.2.2
     have t42 := HT.out.c42
     have t256 := HT.out.c256
     have hcv : (convert 76 9 (.slice (some ⟨wr.heap.size, 0, none⟩) 1 1)).run Tryd.prog (wr.alloc (.cells #[.int .u8 42] 5)) = .ok (.string ⟨#[42]⟩) (wr.alloc (.cells #[.int .u8 42] 5)) := impl_isPattern.conv1 wr 42 42 rfl
     go_wp2_with (first | ((with_reducible refine gate_builtin (b := .append) (xs := #[.tmp 119, .tmp 123]) rfl ?_); at_builtin; refine Kd.R_append Kd.string (W := wr.alloc (.cells #[.int .u8 42] 5)) (w0 := w) w.heap.size rfl (.tmp 119) (.tmp 123) 33 9 (.string ⟨#[]⟩) 16 rfl Tryd.underlying33 impl_isPattern.info9 rfl (by decide) (by omega) v xs (⟨#[42]⟩ : ByteArray) [.string (⟨#[42]⟩ : ByteArray)] (fun k => k ≠ g) (fun _ => False) rfl (by go_simp) ?aP (fun _ hk => hk.elim) ?aF ?aO ?aB ?aS ?aL ?_; (case aP => exact rfl); (case aB => exact HB.out.alloc HB.out.size _); (case aF => exact fun k hk => (by have h9 := HT.out.lt; simp at hk; omega)); (case aO => exact Kd.R_alloc HO.out _); (case aS => exact (HB.out.alloc HB.out.size _).size); (case aL => rw [hx]; decide); intro v1 w1 ho hb hg1 hat; obtain ⟨A1, c1, e1⟩ := Kd.R_slice ho; subst e1; have hl9 : (xs ++ [(⟨#[42]⟩ : ByteArray)]).length = 1 := (by rw [List.length_append, hx]; rfl); rw [hl9] at ho; clear hl9; have n0_ := Aside0.mk (impl_isPattern.Tb.grown (HT.out.below (below_alloc (Below.refl _ _) _)) hg1 (fun e => HO.out.1 g e rfl)); have n1_ := Aside0.mk ho; have n2_ := Aside0.mk hb; clear HT HO HB t42 t256 hg1 hat ho hb; have HT := n0_; have HO := n1_; have HB := n2_; clear n0_ n1_ n2_; have hgl := HT.out.lt; have t42 := HT.out.c42; have u42 := HT.out.fro 42; have t256 := HT.out.c256; have u256 := HT.out.fro 256))
     go_roundg 1
     case measure => omega
     case rel => exact ⟨_, _, _, xs ++ [⟨#[42]⟩], ⟨impl_isPattern.Tb.below ((HT.out.s256 _).s42 _) (below_drew1 (below_alloc (Below.refl _ _) _))⟩, ⟨Kd.R_drew (Kd.R_alloc (Kd.R_far (Kd.R_far HO.out (fun _ hk => hk) _) (fun _ hk => hk) _) _)⟩, ⟨below_drew1 (below_alloc (below_set (below_set HB.out HGW.out) HGW.out) _)⟩, .inr (.inl ⟨rfl, rfl, rfl, ⟨_, _, rfl⟩, by simp [hx]⟩)⟩
    ·
     have h63 : ∀ h, ((⟨#[63]⟩ : ByteArray)[0]'h).toNat = 63 := fun _ => rfl
     have f0 := (HB2 _ HB.out).1
     have f1 := (HB2 _ HB.out).2.1
     have f2 := (HB2 _ HB.out).2.2.1
     have f3 := (HB2 _ HB.out).2.2.2
     have t63 := HT.out.c63
     have t256 := HT.out.c256
     have hcv : (convert 76 9 (.slice (some ⟨wr.heap.size, 0, none⟩) 1 1)).run Tryd.prog (wr.alloc (.cells #[.int .u8 63] 5)) = .ok (.string ⟨#[63]⟩) (wr.alloc (.cells #[.int .u8 63] 5)) := impl_isPattern.conv1 wr 63 63 rfl
     go_wp2_with (first | ((with_reducible refine gate_builtin (b := .append) (xs := #[.tmp 119, .tmp 123]) rfl ?_); at_builtin; refine Kd.R_append Kd.string (W := wr.alloc (.cells #[.int .u8 63] 5)) (w0 := w) w.heap.size rfl (.tmp 119) (.tmp 123) 33 9 (.string ⟨#[]⟩) 16 rfl Tryd.underlying33 impl_isPattern.info9 rfl (by decide) (by omega) v xs (⟨#[63]⟩ : ByteArray) [.string (⟨#[63]⟩ : ByteArray)] (fun k => k ≠ g) (fun _ => False) rfl (by go_simp) ?aP (fun _ hk => hk.elim) ?aF ?aO ?aB ?aS ?aL ?_; (case aP => exact rfl); (case aB => exact HB.out.alloc HB.out.size _); (case aF => exact fun k hk => (by have h9 := HT.out.lt; simp at hk; omega)); (case aO => exact Kd.R_alloc HO.out _); (case aS => exact (HB.out.alloc HB.out.size _).size); (case aL => rw [hx]; decide); intro v1 w1 ho hb hg1 hat; obtain ⟨A1, c1, e1⟩ := Kd.R_slice ho; subst e1; have hl9 : (xs ++ [(⟨#[63]⟩ : ByteArray)]).length = 2 := (by rw [List.length_append, hx]; rfl); rw [hl9] at ho; clear hl9; have n0_ := Aside0.mk (impl_isPattern.Tb.grown (HT.out.below (below_alloc (Below.refl _ _) _)) hg1 (fun e => HO.out.1 g e rfl)); have n1_ := Aside0.mk ho; have n2_ := Aside0.mk hb; clear HT HO HB t63 t256 hg1 hat ho hb; have HT := n0_; have HO := n1_; have HB := n2_; clear n0_ n1_ n2_; have hgl := HT.out.lt; have t63 := HT.out.c63; have u63 := HT.out.fro 63; have t256 := HT.out.c256; have u256 := HT.out.fro 256))
     go_roundg 0
     case measure => omega
     case rel => exact ⟨_, _, _, xs ++ [⟨#[63]⟩], ⟨impl_isPattern.Tb.below ((HT.out.s256 _).s63 _) (below_drew1 (below_alloc (Below.refl _ _) _))⟩, ⟨Kd.R_drew (Kd.R_alloc (Kd.R_far (Kd.R_far HO.out (fun _ hk => hk) _) (fun _ hk => hk) _) _)⟩, ⟨below_drew1 (below_alloc (below_set (below_set HB.out HGW.out) HGW.out) _)⟩, .inr (.inr ⟨rfl, rfl, ⟨_, _, rfl⟩, ⟨_, _, rfl⟩, by simp [hx]⟩)⟩
    ·
     go_wp2_with fail
     go_ret
     obtain ⟨A1, c1, e1⟩ := Kd.R_slice HO.out
     subst e1
     rw [hx] at HT
     exact ⟨g, rfl, HGW.out, _, _, _, _, _, _, HT.out, HB.out⟩
theorem impl_isPattern.fro_below {B : Nat} {W W' : World} (h : Below B W W') {k i : Nat} (hk : k < B) : W'.frozen? ⟨k, i, none⟩ = W.frozen? ⟨k, i, none⟩ := by
 simp [World.frozen?, h.block k hk]
structure impl_isPattern.Rp (w : World) (c d cap : Nat) : Prop where
 hcap : 4 ≤ cap
 h3 : w.cell? ⟨c, 3, none⟩ = some .nilIface
 h4 : w.cell? ⟨c, 4, none⟩ = some (.slice (some ⟨d, 0, none⟩) 4 cap)
 d0 : w.cell? ⟨d, 0, none⟩ = some (.string ⟨#[63]⟩)
 d1 : w.cell? ⟨d, 1, none⟩ = some (.string ⟨#[]⟩)
 d2 : w.cell? ⟨d, 2, none⟩ = some (.string ⟨#[42]⟩)
 d3 : w.cell? ⟨d, 3, none⟩ = some (.string ⟨#[]⟩)
 hd : d < w.heap.size
 hc : c < w.heap.size
 hdc : d ≠ c
 fr : ∀ i, w.frozen? ⟨c, i, none⟩ = false
def impl_isPattern.Rd (w : World) (c : Nat) : Prop := ∃ g p q p2 q2 A c2, impl_isPattern.Tb w g (.slice (some p) 0 q) (.slice (some p2) 0 q2) (.slice A 2 c2) ∧ g ≠ c ∧ w.cell? ⟨c, 3, none⟩ = some (.iface 80 (.pointer (some ⟨g, 0, none⟩)))
theorem impl_isPattern.Rd.set {w : World} {c i : Nat} (h : impl_isPattern.Rd w c) (hi : i ≠ 3) (v : Value) : impl_isPattern.Rd (w.setCell ⟨c, i, none⟩ v) c := by
 obtain ⟨g, p, q, p2, q2, A, c2, hT, hg, h3⟩ := h
 exact ⟨g, p, q, p2, q2, A, c2, hT.far v hg, hg, (World.cell?_setCell_other _ ⟨c, i, none⟩ ⟨c, 3, none⟩ _ (fun e => hi (by injection e))).trans h3⟩
theorem impl_isPattern.Rd.drew {w : World} {c : Nat} (h : impl_isPattern.Rd w c) : impl_isPattern.Rd w.drew c := h
set_option maxRecDepth 100000 in
set_option maxHeartbeats 1600000 in
theorem impl_isPattern.buildOnce (w0 w : World) (c d cap : Nat) (HR : impl_isPattern.Rp w c d cap) (hB : Below w0.heap.size w0 w) (hc : w0.heap.size ≤ c) :
  Calls Tryd.prog 20 #[.pointer (some ⟨c, 0, none⟩)] w fun e w' => e = .returned (.tuple #[]) ∧ impl_isPattern.Rd w' c ∧ (∀ i, i < 3 → w'.cell? ⟨c, i, none⟩ = w.cell? ⟨c, i, none⟩) ∧ (∀ i, w'.frozen? ⟨c, i, none⟩ = w.frozen? ⟨c, i, none⟩) ∧ Below w0.heap.size w0 w' := by
 have hb := Aside0.mk (impl_isPattern.build c d cap HR.hcap w HR.h4 HR.d0 HR.d1 HR.d2 HR.d3 HR.hd)
 have hR := Aside0.mk HR
 have hBB := Aside0.mk hB
 have hC := Aside0.mk hc
 clear HR hB hc
 go_enter Tryd.func20, Tryd.ntmps20
 go_wp2_with (go_at_call 30; refine hb.out.mono ?_; rintro e w1 ⟨g, rfl, hgw, p, q, p2, q2, A, c2, hT, hB1⟩; have HT := Aside0.mk hT; have HB1 := Aside0.mk hB1; have HGW := Aside0.mk hgw; clear hT hB1 hgw hb; have h3 := (HB1.out.cell (p := ⟨c, 3, none⟩) hR.out.hc).trans hR.out.h3; have h4 := (HB1.out.cell (p := ⟨c, 4, none⟩) hR.out.hc).trans hR.out.h4; have f3 := (impl_isPattern.fro_below HB1.out (k := c) (i := 3) hR.out.hc).trans (hR.out.fr 3); have f4 := (impl_isPattern.fro_below HB1.out (k := c) (i := 4) hR.out.hc).trans (hR.out.fr 4))
 go_end0
 have hgc : g ≠ c := by have h1 := HGW.out; have h2 := hR.out.hc; omega
 refine ⟨rfl, ⟨g, p, q, p2, q2, A, c2, (HT.out.far _ hgc).far _ hgc, hgc, ?_⟩, fun i hi => ?_, fun i => ?_, ?_⟩
 ·
  exact (World.cell?_setCell_other _ ⟨c, 4, none⟩ ⟨c, 3, none⟩ _ (by simp)).trans (World.cell?_setCell_same _ _ _ h3)
 ·
  rw [World.cell?_setCell_other _ ⟨c, 4, none⟩ ⟨c, i, none⟩ _ (by simp <;> omega), World.cell?_setCell_other _ ⟨c, 3, none⟩ ⟨c, i, none⟩ _ (by simp <;> omega)]
  exact HB1.out.cell (p := ⟨c, i, none⟩) hR.out.hc
 ·
  rw [World.frozen?_setCell, World.frozen?_setCell]
  exact impl_isPattern.fro_below HB1.out hR.out.hc
 ·
  exact below_set (below_set (hBB.out.trans (HB1.out.mono hBB.out.size)) hC.out) hC.out
theorem impl_isPattern.Rp.set {w : World} {c d cap i : Nat} (h : impl_isPattern.Rp w c d cap) (hi : i < 3) (v : Value) : impl_isPattern.Rp (w.setCell ⟨c, i, none⟩ v) c d cap := by
 have hne : ∀ j, (⟨c, i, none⟩ : Addr) ≠ ⟨d, j, none⟩ := fun j e => h.hdc (by injection e with e1; exact e1.symm)
 exact ⟨h.hcap, (World.cell?_setCell_other _ ⟨c, i, none⟩ ⟨c, 3, none⟩ _ (by simp <;> omega)).trans h.h3, (World.cell?_setCell_other _ ⟨c, i, none⟩ ⟨c, 4, none⟩ _ (by simp <;> omega)).trans h.h4, (World.cell?_setCell_other _ _ _ _ (fun e => hne 0 e)).trans h.d0, (World.cell?_setCell_other _ _ _ _ (fun e => hne 1 e)).trans h.d1, (World.cell?_setCell_other _ _ _ _ (fun e => hne 2 e)).trans h.d2, (World.cell?_setCell_other _ _ _ _ (fun e => hne 3 e)).trans h.d3, by simpa using h.hd, by simpa using h.hc, h.hdc, fun j => by rw [World.frozen?_setCell]; exact h.fr j⟩
set_option maxRecDepth 100000 in
set_option maxHeartbeats 1600000 in
theorem impl_isPattern.doSlow (w0 w : World) (c d cap : Nat) (HR : impl_isPattern.Rp w c d cap) (h0 : w.cell? ⟨c, 0, none⟩ = some (.int .u32 0)) (h1 : w.cell? ⟨c, 1, none⟩ = some (.int .i32 0)) (hB : Below w0.heap.size w0 w) (hc : w0.heap.size ≤ c) :
  Calls Tryd.prog 29 #[.pointer (some ⟨c, 0, none⟩), .func (.func 20) #[.pointer (some ⟨c, 0, none⟩)] #[]] w fun e w' => e = .returned (.tuple #[]) ∧ impl_isPattern.Rd w' c ∧ Below w0.heap.size w0 w' := by
 have hl := run_call_load (P := Tryd.prog) Tryd.func35 (by kernel_rfl) (by kernel_rfl) (by kernel_rfl) .u32 (by kernel_rfl) (w := w.setCell ⟨c, 1, none⟩ (.int .i32 1)) (a := ⟨c, 0, none⟩) (x := 0) ((World.cell?_setCell_other _ ⟨c, 1, none⟩ ⟨c, 0, none⟩ _ (by simp)).trans h0)
 have hnot : ∀ (x : Bool) (w : World), (Op.unary .not (.bool x)).run Tryd.prog w = .ok (.bool (!x)) w := fun _ _ => rfl
 have hbo := Aside0.mk (impl_isPattern.buildOnce w0 (w.setCell ⟨c, 1, none⟩ (.int .i32 1)) c d cap (HR.set (by omega) _) (below_set hB hc) hc)
 have hf0 := HR.fr 0
 have hf1 := HR.fr 1
 have k0 : (w.setCell ⟨c, 1, none⟩ (.int .i32 1)).cell? ⟨c, 0, none⟩ = some (.int .u32 0) := (World.cell?_setCell_other _ ⟨c, 1, none⟩ ⟨c, 0, none⟩ _ (by simp)).trans h0
 have k1 : (w.setCell ⟨c, 1, none⟩ (.int .i32 1)).cell? ⟨c, 1, none⟩ = some (.int .i32 1) := World.cell?_setCell_same _ _ _ h1
 have KF := Aside0.mk HR.fr
 have K0 := Aside0.mk k0
 have K1 := Aside0.mk k1
 clear HR hB k0 k1
 go_enter_defers Tryd.func29, Tryd.ntmps29
 go_wp2_with (first | (go_at_call 36; refine (impl_isPattern.lock_free ⟨c, 1, none⟩ _ (by go_simp) (by go_simp)).mono ?_; rintro e w' ⟨rfl, rfl⟩) | (go_at_call 20; refine hbo.out.mono ?_; rintro e w2 ⟨rfl, hRd, hcl, hfr, hB2⟩; have HRd := Aside0.mk hRd; have HCL := Aside0.mk hcl; have HFR := Aside0.mk hfr; have HB2 := Aside0.mk hB2; clear hRd hcl hfr hB2) | (go_at_call 28; go_in))
 have c0 : w2.cell? ⟨c, 0, none⟩ = some (.int .u32 0) := (HCL.out 0 (by omega)).trans K0.out
 have c1 : w2.cell? ⟨c, 1, none⟩ = some (.int .i32 1) := (HCL.out 1 (by omega)).trans K1.out
 have z : ∀ i, w2.frozen? ⟨c, i, none⟩ = false := fun i => (HFR.out i).trans (by rw [World.frozen?_setCell]; exact KF.out i)
 refine leaves_cons (f := 38) (args := #[.pointer (some ⟨c, 0, none⟩), .bool true]) (by simp) (by simp [go_sem]) ?_
 refine (impl_isPattern.store_deferred ⟨c, 0, none⟩ (.int .u32 0) .returning _ ?_ (by simp [z])).mono ?_
 ·
  simpa using c0
 rintro e u' w'' ⟨rfl, rfl, rfl⟩
 refine leaves_cons (f := 37) (args := #[.pointer (some ⟨c, 1, none⟩)]) (by simp [settle]) (by simp [go_sem]) ?_
 refine (impl_isPattern.unlock_deferred ⟨c, 1, none⟩ _ _ ?_ (by simp [z])).mono ?_
 ·
  refine (World.cell?_setCell_other _ ⟨c, 0, none⟩ ⟨c, 1, none⟩ _ (by simp)).trans ?_
  simpa using c1
 rintro e u' w'' ⟨rfl, rfl, rfl⟩
 have hfin : impl_isPattern.Rd ((w2.drew.setCell ⟨c, 0, none⟩ (.int .u32 1)).setCell ⟨c, 1, none⟩ (.int .i32 0)) c ∧ Below w0.heap.size w0 ((w2.drew.setCell ⟨c, 0, none⟩ (.int .u32 1)).setCell ⟨c, 1, none⟩ (.int .i32 0)) := ⟨(HRd.out.drew.set (by omega) _).set (by omega) _, below_set (below_set (below_drew1 HB2.out) hc) hc⟩
 simp [Leaves, settle, results, Tryd.results29]
 simpa using hfin
set_option maxRecDepth 100000 in
set_option maxHeartbeats 1600000 in
theorem impl_isPattern.onceDo (w0 w : World) (c d cap : Nat) (HR : impl_isPattern.Rp w c d cap) (h0 : w.cell? ⟨c, 0, none⟩ = some (.int .u32 0)) (h1 : w.cell? ⟨c, 1, none⟩ = some (.int .i32 0)) (hB : Below w0.heap.size w0 w) (hc : w0.heap.size ≤ c) :
  Calls Tryd.prog 19 #[.pointer (some ⟨c, 0, none⟩), .func (.func 20) #[.pointer (some ⟨c, 0, none⟩)] #[]] w fun e w' => e = .returned (.tuple #[]) ∧ impl_isPattern.Rd w' c ∧ Below w0.heap.size w0 w' := by
 have hl := run_call_load (P := Tryd.prog) Tryd.func35 (by kernel_rfl) (by kernel_rfl) (by kernel_rfl) .u32 (by kernel_rfl) h0
 have hnot : ∀ (x : Bool) (w : World), (Op.unary .not (.bool x)).run Tryd.prog w = .ok (.bool (!x)) w := fun _ _ => rfl
 have hsl := Aside0.mk (impl_isPattern.doSlow w0 w c d cap HR h0 h1 hB hc)
 clear HR hB h1
 go_enter Tryd.func19, Tryd.ntmps19
 go_wp2_with (first | (go_at_call 29; refine hsl.out.mono ?_; rintro e w2 ⟨rfl, hRd, hB2⟩; have HRd := Aside0.mk hRd; have HB2 := Aside0.mk hB2; clear hRd hB2) | (go_at_call 28; go_in))
 go_end0
 exact ⟨rfl, HRd.out, HB2.out⟩
def impl_isPattern.olds : List ByteArray := [⟨#[63]⟩, ⟨#[]⟩, ⟨#[42]⟩, ⟨#[]⟩]
set_option maxRecDepth 100000 in
set_option maxHeartbeats 1600000 in
theorem impl_isPattern.newR (a cap0 : Nat) (w : World) (hC : Kd.C Kd.string w (some ⟨a, 0, none⟩) 4 impl_isPattern.olds) :
  Calls Tryd.prog 16 #[.slice (some ⟨a, 0, none⟩) 4 cap0] w fun e w' => ∃ c d cap, e = .returned (.pointer (some ⟨c, 0, none⟩)) ∧ w.heap.size ≤ c ∧ impl_isPattern.Rp w' c d cap ∧ w'.cell? ⟨c, 0, none⟩ = some (.int .u32 0) ∧ w'.cell? ⟨c, 1, none⟩ = some (.int .i32 0) ∧ Below w.heap.size w w' := by
 have HC := Aside0.mk hC
 clear hC
 go_enter Tryd.func16, Tryd.ntmps16
 go_wp2_with (first | ((with_reducible refine gate_builtin (b := .append) (xs := #[.const (.slice none 0 0), .tmp 8]) rfl ?_); at_builtin; refine Kd.R_append_rows Kd.string (W := w) (w0 := w) w.heap.size rfl (.const (.slice none 0 0)) (.tmp 8) 33 9 (.string ⟨#[]⟩) 16 rfl Tryd.underlying33 impl_isPattern.info9 rfl (by decide) (by omega) (.slice none 0 0) [] impl_isPattern.olds (some ⟨a, 0, none⟩) 4 cap0 (fun _ => True) (fun _ => False) rfl rfl (Kd.R_nil _ _ _ _ _) HC.out (fun _ _ h => h) (fun _ hk => hk.elim) (fun _ _ => trivial) (Below.refl _ _) (Nat.le_refl _) (by decide) ?_; intro v1 w1 ho hb hg1 hat; obtain ⟨A1, c1, e1⟩ := Kd.R_slice ho; subst e1; have HO := Aside0.mk ho; have HB := Aside0.mk hb; clear ho hb hg1 hat))
 go_ret
 have HO2 : Kd.string.R 9 w1 w.heap.size (fun _ => True) (.slice A1 4 c1) impl_isPattern.olds := HO.out
 obtain ⟨d, c2, e2, hd1, hd2, -⟩ := Kd.R_form HO2 (by decide)
 injection e2 with e3 e4 e5
 subst e3
 obtain ⟨-, hcap, hC1⟩ := Kd.R_reads' HO2
 have hne : d ≠ w1.heap.size := by omega
 have hcl : ∀ (i : Int), 0 ≤ i → i < 4 → (w1.alloc (.cells #[.int .u32 0, .int .i32 0, .int .u32 0, .nilIface, .slice (some ⟨d, 0, none⟩) 4 c1] 49)).cell? ⟨d, i.toNat, none⟩ = some (.string (rdOf ByteArray.empty impl_isPattern.olds i)) := fun i h0 h1 => by
  obtain ⟨ad, e, hx⟩ := Kd.at_string hC1 i h0 (by exact h1)
  cases e
  rw [World.cell?_alloc_past _ _ _ hd2]
  have hadd : (⟨d, 0, none⟩ : Addr).add i.toNat = ⟨d, i.toNat, none⟩ := by unfold Addr.add; split <;> simp_all
  rw [hadd] at hx
  exact hx
 refine ⟨w1.heap.size, d, c1, rfl, HB.out.size, ⟨hcap, ?_, ?_, hcl 0 (by omega) (by omega), hcl 1 (by omega) (by omega), hcl 2 (by omega) (by omega), hcl 3 (by omega) (by omega), ?_, ?_, hne, ?_⟩, ?_, ?_, below_alloc HB.out _⟩
 ·
  rw [World.cell?_alloc_at _ _ _ _ rfl]; rfl
 ·
  rw [World.cell?_alloc_at _ _ _ _ rfl]; rfl
 ·
  simp; omega
 ·
  simp
 ·
  intro i; rw [World.frozen?_alloc_at _ _ _ _ rfl]
 ·
  rw [World.cell?_alloc_at _ _ _ _ rfl]; rfl
 ·
  rw [World.cell?_alloc_at _ _ _ _ rfl]; rfl
theorem impl_isPattern.w64 {x : Int} (h0 : -9223372036854775808 ≤ x) (h1 : x ≤ 9223372036854775807) : wrap64 x = x := by unfold wrap64; omega
def impl_isPattern.keep (b : UInt8) : Bool := b != 42 && b != 63
def impl_isPattern.kl (a : ByteArray) (n : Nat) : List UInt8 := (a.data.toList.take n).filter impl_isPattern.keep
def impl_isPattern.strip (a : ByteArray) : ByteArray := ⟨(a.data.toList.filter impl_isPattern.keep).toArray⟩
theorem impl_isPattern.kl_le (a : ByteArray) (n : Nat) (h : n ≤ a.size) : (impl_isPattern.kl a n).length ≤ n := by
 refine Nat.le_trans (List.length_filter_le _ _) ?_
 rw [List.length_take]; omega
theorem impl_isPattern.kl_succ (a : ByteArray) (n : Nat) (h : n < a.size) : impl_isPattern.kl a (n + 1) = impl_isPattern.kl a n ++ (if impl_isPattern.keep a[n] = true then [a[n]] else []) := by
 unfold impl_isPattern.kl
 have hl : n < a.data.toList.length := by simpa using h
 rw [List.take_succ_eq_append_getElem hl, List.filter_append]
 congr 1
 have e : a.data.toList[n] = a[n] := by simp [ByteArray.getElem_eq_getElem_data]
 rw [e, List.filter_cons, List.filter_nil]
theorem impl_isPattern.keep_bt (a : ByteArray) (n : Nat) (h : n < a.size) : (impl_isPattern.keep a[n] = true ↔ bt a (n : Int) ≠ 42 ∧ bt a (n : Int) ≠ 63) ∧ 0 ≤ bt a (n : Int) ∧ bt a (n : Int) < 256 ∧ bt a (n : Int) = (a[n].toNat : Int) := by
 have h2 : ((n : Int).toNat) < a.size := by simpa using h
 have e : bt a (n : Int) = (a[n].toNat : Int) := by rw [bt, dif_pos h2]; rfl
 have hlt := UInt8.toNat_lt a[n]
 refine ⟨?_, by omega, by omega, e⟩
 rw [e]
 unfold impl_isPattern.keep
 rw [Bool.and_eq_true, bne_iff_ne, bne_iff_ne]
 constructor
 ·
  rintro ⟨h1, h2⟩
  exact ⟨fun h => h1 (UInt8.toNat_inj.1 (by show a[n].toNat = 42; omega)), fun h => h2 (UInt8.toNat_inj.1 (by show a[n].toNat = 63; omega))⟩
 ·
  rintro ⟨h1, h2⟩
  exact ⟨fun h => h1 (by rw [h]; rfl), fun h => h2 (by rw [h]; rfl)⟩
theorem impl_isPattern.info5 : (Tryd.prog.info? 5).map (fun i => (i.zero, i.size, i.bytes)) = some (some (.int .u8 0), 1, 1) := by kernel_rfl
theorem impl_isPattern.makeB (L : Nat) (hL : L ≤ 100) (W : World) : (Instr.makeSlice 76 (.int .i64 (L : Int)) (.int .i64 (L : Int))).run Tryd.prog W = .ok (.slice (some ⟨W.heap.size, 0, none⟩) L L) (W.alloc (.cells (madeCells #[.int .u8 0] L) 5)) := by
 obtain ⟨i0, hi, hz0, hz1, hz2⟩ := info_parts impl_isPattern.info5
 have h := run_makeSlice (P := Tryd.prog) W 76 5 i0 _ Tryd.underlying76 hi hz0 .i64 .i64 (L : Int) (L : Int) (by omega) (by omega) (by rw [hz1, Int.toNat_natCast]; omega) (by rw [hz2]; omega) (by omega)
 rw [hz1, Int.toNat_natCast, Nat.mul_one] at h
 exact h
def impl_isPattern.Bf (W : World) (G : Nat) (cs : List Value) : Prop := W.heap[G]? = some (.cells cs.toArray 5 (0, 0))
theorem impl_isPattern.Bf.put {W : World} {G : Nat} {cs : List Value} (h : impl_isPattern.Bf W G cs) (i : Nat) (u : Value) : impl_isPattern.Bf (W.setCell ⟨G, i, none⟩ u) G (cs.set i u) := by
 unfold impl_isPattern.Bf at *
 rw [setCell_eq_setRow W G i _ 5 (0, 0) u h, setRow_heap W G _ _ 5 (0, 0) h]
 simp
theorem impl_isPattern.Bf.cell {W : World} {G : Nat} {cs : List Value} (h : impl_isPattern.Bf W G cs) (i : Nat) : W.cell? ⟨G, i, none⟩ = cs[i]? := by
 unfold impl_isPattern.Bf at h
 simp [World.cell?, h]
theorem impl_isPattern.Bf.fro {W : World} {G : Nat} {cs : List Value} (h : impl_isPattern.Bf W G cs) (i : Nat) : W.frozen? ⟨G, i, none⟩ = false := by
 unfold impl_isPattern.Bf at h
 simp [World.frozen?, h]
def impl_isPattern.cells (a : ByteArray) (L n : Nat) : List Value := (impl_isPattern.kl a n).map (fun b => Value.int .u8 (b.toNat : Int)) ++ List.replicate (L - (impl_isPattern.kl a n).length) (.int .u8 0)
theorem impl_isPattern.kl_mono (a : ByteArray) (n : Nat) (h : n < a.size) (hk : impl_isPattern.keep a[n] = true) : (impl_isPattern.kl a n).length < (impl_isPattern.kl a a.size).length := by
 have h1 := impl_isPattern.kl_succ a n h
 rw [if_pos hk] at h1
 have h2 : (impl_isPattern.kl a (n + 1)).length ≤ (impl_isPattern.kl a a.size).length := by
  unfold impl_isPattern.kl
  have e : a.data.toList.take (n + 1) = (a.data.toList.take a.size).take (n + 1) := by rw [List.take_take]; congr 1; omega
  rw [e]
  exact ((List.take_sublist _ _).filter _).length_le
 rw [h1, List.length_append, List.length_singleton] at h2
 omega
theorem impl_isPattern.cells_set (a : ByteArray) (n : Nat) (h : n < a.size) (hk : impl_isPattern.keep a[n] = true) : (impl_isPattern.cells a (impl_isPattern.kl a a.size).length n).set (impl_isPattern.kl a n).length (.int .u8 (a[n].toNat : Int)) = impl_isPattern.cells a (impl_isPattern.kl a a.size).length (n + 1) := by
 have h1 := impl_isPattern.kl_succ a n h
 have h2 := impl_isPattern.kl_mono a n h hk
 rw [if_pos hk] at h1
 unfold impl_isPattern.cells
 rw [h1, List.map_append, List.length_append, List.length_singleton, List.set_append_right _ _ (by simp), List.length_map, Nat.sub_self]
 obtain ⟨m, hm⟩ : ∃ m, (impl_isPattern.kl a a.size).length - (impl_isPattern.kl a n).length = m + 1 := ⟨_, (Nat.succ_pred_eq_of_pos (by omega)).symm⟩
 rw [hm, List.replicate_succ, List.set_cons_zero, show (impl_isPattern.kl a a.size).length - ((impl_isPattern.kl a n).length + 1) = m from by omega]
 simp
theorem impl_isPattern.strip_all (a : ByteArray) : impl_isPattern.strip a = ⟨(impl_isPattern.kl a a.size).toArray⟩ := by
 unfold impl_isPattern.strip impl_isPattern.kl
 rw [List.take_of_length_le (by simp)]
theorem impl_isPattern.strip_same (a : ByteArray) (h : ¬ (impl_isPattern.kl a a.size).length < a.size) : impl_isPattern.strip a = a := by
 rw [impl_isPattern.strip_all]
 unfold impl_isPattern.kl at *
 rw [List.take_of_length_le (by simp)] at *
 have hl : (a.data.toList.filter impl_isPattern.keep).length = a.data.toList.length := Nat.le_antisymm (List.length_filter_le _ _) (by simpa using h)
 rw [List.filter_eq_self.2 (List.length_filter_eq_length_iff.1 hl)]
theorem impl_isPattern.made0 (L : Nat) : madeCells #[(.int .u8 0 : Value)] L = (List.replicate L (Value.int .u8 0)).toArray := by
 unfold madeCells
 refine Array.ext (by simp) fun i h1 h2 => ?_
 simp [Nat.mod_one]
theorem impl_isPattern.kl_all (a : ByteArray) (n : Nat) : (impl_isPattern.kl a n).length ≤ (impl_isPattern.kl a a.size).length := by
 unfold impl_isPattern.kl
 have e : a.data.toList.take n = (a.data.toList.take a.size).take n := by rw [List.take_of_length_le (l := a.data.toList) (i := a.size) (by simp)]
 rw [e]
 exact ((List.take_sublist _ _).filter _).length_le
set_option maxRecDepth 100000 in
set_option maxHeartbeats 3200000 in
theorem impl_isPattern.bsr (g : Nat) (p : Addr) (q : Nat) (p2 : Addr) (q2 : Nat) (A : Option Addr) (c2 : Nat) (a0 : ByteArray) (ha : a0.size ≤ 14) (w : World) (hT : impl_isPattern.Tb w g (.slice (some p) 0 q) (.slice (some p2) 0 q2) (.slice A 2 c2)) :
  Calls Tryd.prog 105 #[.pointer (some ⟨g, 0, none⟩), .string a0] w fun e w' => e = .returned (.string (impl_isPattern.strip a0)) ∧ Below w.heap.size w w' := by
 have HT := Aside0.mk hT
 have HA := Aside0.mk ha
 have t256 := hT.c256
 have c16 : decide ((16 : Int) ≤ (a0.size : Int)) = false := decide_eq_false (by omega)
 have c16n : decide (16 ≤ a0.size) = false := decide_eq_false (by omega)
 clear hT ha
 go_enter Tryd.func105, Tryd.ntmps105
 go_wp2_with fail
 have HA2 := HA.out
 go_loopg [5, 6, 10] a0.size (fun gg v5 v6 v10 w' => ∃ nn : Nat, nn ≤ a0.size ∧ a0.size - nn ≤ gg ∧ v5 = .int .i64 ((a0.size - nn + (impl_isPattern.kl a0 nn).length : Nat)) ∧ v6 = .bool (decide ((impl_isPattern.kl a0 nn).length < nn)) ∧ v10 = .int .i64 nn ∧ Drawn0 w w')
 case atStart => exact ⟨0, Nat.zero_le _, by omega, by first | rfl | simp [impl_isPattern.kl], by first | rfl | simp [impl_isPattern.kl], rfl, by repeat (first | exact Drawn0.refl _ | apply Drawn0.step)⟩
 case round =>
  obtain ⟨nn, hnn, hg, rfl, rfl, rfl, ⟨nd, rfl⟩⟩ := hrel
  have hle := impl_isPattern.kl_le a0 nn hnn
  by_cases hlt : nn < a0.size
  ·
   have hkl := impl_isPattern.kl_succ a0 nn hlt
   have p0 : (0 ≤ (nn : Int)) = True := eq_true (by omega)
   have q0 : ((nn : Int) < (a0.size : Int)) = True := eq_true (by omega)
   have q0d : decide ((nn : Int) < (a0.size : Int)) = true := decide_eq_true (by omega)
   have hwn : wrap64 ((nn : Int) + 1) = ((nn + 1 : Nat) : Int) := by rw [impl_isPattern.w64 (by omega) (by omega)]; omega
   have hb1 : ((a0[nn].toNat : Int) < 256) = True := eq_true (by have := UInt8.toNat_lt a0[nn]; omega)
   have hb2 : (a0[nn].toNat < 256) = True := eq_true (UInt8.toNat_lt a0[nn])
   have hb3 : (0 ≤ (a0[nn].toNat : Int)) = True := eq_true (by omega)
   by_cases hk : impl_isPattern.keep a0[nn] = true
   ·
    have hc : w.cell? ⟨g, a0[nn].toNat, none⟩ = some (.slice none 0 0) := by
     unfold impl_isPattern.keep at hk
     rw [Bool.and_eq_true, bne_iff_ne, bne_iff_ne] at hk
     exact HT.out.at _ (UInt8.toNat_lt _) (fun h => hk.1 (UInt8.toNat_inj.1 h)) (fun h => hk.2 (UInt8.toNat_inj.1 h))
    have hne : ∀ W : World, (binOp .neq 76 (.slice none 0 0) (.slice none 0 0)).run Tryd.prog W = .ok (.bool false) W := fun W => run_neq_slice_nil_any W 76 5 none 0 0 0 0 Tryd.underlying76
    rw [if_pos hk] at hkl
    go_wp2_with fail
    go_roundg (gk - 1)
    case measure => omega
    case rel => exact ⟨nn + 1, hlt, by omega, by rw [hkl, List.length_append, List.length_singleton]; congr 1; omega, by rw [hkl, List.length_append, List.length_singleton]; congr 1; rw [decide_eq_decide]; omega, by first | rfl | (congr 1; omega), by repeat (first | exact Drawn0.refl _ | apply Drawn0.step)⟩
   ·
    obtain ⟨pp, qq, hc⟩ : ∃ (pp : Addr) (qq : Nat), w.cell? ⟨g, a0[nn].toNat, none⟩ = some (.slice (some pp) 0 qq) := by
     by_cases h42 : a0[nn] = 42
     ·
      exact ⟨p, q, by rw [h42]; exact HT.out.c42⟩
     ·
      by_cases h63 : a0[nn] = 63
      ·
       exact ⟨p2, q2, by rw [h63]; exact HT.out.c63⟩
      ·
       exact absurd (by unfold impl_isPattern.keep; rw [Bool.and_eq_true, bne_iff_ne, bne_iff_ne]; exact ⟨h42, h63⟩) hk
    have hne : ∀ W : World, (binOp .neq 76 (.slice (some pp) 0 qq) (.slice none 0 0)).run Tryd.prog W = .ok (.bool true) W := fun W => run_neq_slice_nil_any W 76 5 (some pp) 0 qq 0 0 Tryd.underlying76
    rw [if_neg hk, List.append_nil] at hkl
    go_wp2_with fail
    go_roundg (gk - 1)
    case measure => omega
    case rel => exact ⟨nn + 1, hlt, by omega, by rw [hkl]; congr 1; omega, by rw [hkl]; congr 1; rw [decide_eq_true (by omega)], by first | rfl | (congr 1; omega), by repeat (first | exact Drawn0.refl _ | apply Drawn0.step)⟩
  ·
   have q0d : decide ((nn : Int) < (a0.size : Int)) = false := decide_eq_false (by omega)
   have hnn' : nn = a0.size := by omega
   subst hnn'
   by_cases hall : (impl_isPattern.kl a0 a0.size).length < a0.size
   ·
    have hd : decide ((impl_isPattern.kl a0 a0.size).length < a0.size) = true := decide_eq_true hall
    have hms := impl_isPattern.makeB (impl_isPattern.kl a0 a0.size).length (by omega)
    go_wp2_with fail
    simp only [Nat.sub_self, Nat.zero_add, hd]
    go_loopg [13, 14] a0.size (fun gg v13 v14 w' => ∃ nn : Nat, nn ≤ a0.size ∧ a0.size - nn ≤ gg ∧ v13 = .int .i64 (((impl_isPattern.kl a0 nn).length : Nat) : Int) ∧ v14 = .int .i64 nn ∧ Aside0 (impl_isPattern.Bf w' w.heap.size (impl_isPattern.cells a0 (impl_isPattern.kl a0 a0.size).length nn)) ∧ Aside0 (impl_isPattern.Tb w' g (.slice (some p) 0 q) (.slice (some p2) 0 q2) (.slice A 2 c2)) ∧ Aside0 (Below w.heap.size w w'))
    case atStart =>
     refine ⟨0, Nat.zero_le _, by omega, by simp [impl_isPattern.kl], rfl, ⟨?_⟩, ⟨HT.out.below (below_alloc (Drawn0.below ⟨nd, rfl⟩) _)⟩, ⟨below_alloc (Drawn0.below ⟨nd, rfl⟩) _⟩⟩
     have e := blk_new (w.drewN nd) (.cells (madeCells #[.int .u8 0] (impl_isPattern.kl a0 a0.size).length) 5)
     rw [impl_isPattern.made0] at e
     unfold impl_isPattern.cells
     rw [show impl_isPattern.kl a0 0 = [] from by simp [impl_isPattern.kl], List.map_nil, List.nil_append]
     unfold impl_isPattern.Bf
     rw [impl_isPattern.made0]
     exact e
    case round =>
     obtain ⟨nn, hnn, hg, rfl, rfl, HBf, HT2, HB⟩ := hrel
     have hgl := HT.out.lt
     by_cases hlt : nn < a0.size
     ·
      have hkl := impl_isPattern.kl_succ a0 nn hlt
      have p0 : (0 ≤ (nn : Int)) = True := eq_true (by omega)
      have q0 : ((nn : Int) < (a0.size : Int)) = True := eq_true (by omega)
      have q0d : decide ((nn : Int) < (a0.size : Int)) = true := decide_eq_true (by omega)
      have hb1 : ((a0[nn].toNat : Int) < 256) = True := eq_true (by have := UInt8.toNat_lt a0[nn]; omega)
      have hb2 : (a0[nn].toNat < 256) = True := eq_true (UInt8.toNat_lt a0[nn])
      have hb3 : (0 ≤ (a0[nn].toNat : Int)) = True := eq_true (by omega)
      by_cases hk : impl_isPattern.keep a0[nn] = true
      ·
       have hc : wr.cell? ⟨g, a0[nn].toNat, none⟩ = some (.slice none 0 0) := by
        unfold impl_isPattern.keep at hk
        rw [Bool.and_eq_true, bne_iff_ne, bne_iff_ne] at hk
        exact HT2.out.at _ (UInt8.toNat_lt _) (fun h => hk.1 (UInt8.toNat_inj.1 h)) (fun h => hk.2 (UInt8.toNat_inj.1 h))
       have hne : ∀ W : World, (binOp .neq 76 (.slice none 0 0) (.slice none 0 0)).run Tryd.prog W = .ok (.bool false) W := fun W => run_neq_slice_nil_any W 76 5 none 0 0 0 0 Tryd.underlying76
       have hm := impl_isPattern.kl_mono a0 nn hlt hk
       have hset := impl_isPattern.cells_set a0 nn hlt hk
       rw [if_pos hk] at hkl
       have hcl : wr.cell? ⟨w.heap.size, (impl_isPattern.kl a0 nn).length, none⟩ = some (.int .u8 0) := by
        rw [HBf.out.cell]
        unfold impl_isPattern.cells
        rw [List.getElem?_append_right (by simp), List.length_map, Nat.sub_self, List.getElem?_replicate, if_pos (by omega)]
       have hfl := HBf.out.fro (impl_isPattern.kl a0 nn).length
       have hm1 : ((impl_isPattern.kl a0 nn).length < (impl_isPattern.kl a0 a0.size).length) = True := eq_true hm
       have hm2 : (((impl_isPattern.kl a0 nn).length : Int) < ((impl_isPattern.kl a0 a0.size).length : Int)) = True := eq_true (by omega)
       have hm3 : (0 ≤ ((impl_isPattern.kl a0 nn).length : Int)) = True := eq_true (by omega)
       go_wp2_with fail
       go_roundg (gk - 1)
       case measure => omega
       case rel => exact ⟨nn + 1, hlt, by omega, by rw [hkl, List.length_append, List.length_singleton]; first | rfl | (congr 1; omega), by first | rfl | (congr 1; omega), ⟨by rw [← hset]; exact HBf.out.put _ _⟩, ⟨HT2.out.far _ (by omega)⟩, ⟨below_set HB.out (Nat.le_refl _)⟩⟩
      ·
       obtain ⟨pp, qq, hc⟩ : ∃ (pp : Addr) (qq : Nat), wr.cell? ⟨g, a0[nn].toNat, none⟩ = some (.slice (some pp) 0 qq) := by
        by_cases h42 : a0[nn] = 42
        ·
         exact ⟨p, q, by rw [h42]; exact HT2.out.c42⟩
        ·
         by_cases h63 : a0[nn] = 63
         ·
          exact ⟨p2, q2, by rw [h63]; exact HT2.out.c63⟩
         ·
          exact absurd (by unfold impl_isPattern.keep; rw [Bool.and_eq_true, bne_iff_ne, bne_iff_ne]; exact ⟨h42, h63⟩) hk
       have hne : ∀ W : World, (binOp .neq 76 (.slice (some pp) 0 qq) (.slice none 0 0)).run Tryd.prog W = .ok (.bool true) W := fun W => run_neq_slice_nil_any W 76 5 (some pp) 0 qq 0 0 Tryd.underlying76
       rw [if_neg hk, List.append_nil] at hkl
       have hm := impl_isPattern.kl_all a0 nn
       have hm1 : ((impl_isPattern.kl a0 nn).length ≤ (impl_isPattern.kl a0 a0.size).length) = True := eq_true hm
       have hm2 : (((impl_isPattern.kl a0 nn).length : Int) ≤ ((impl_isPattern.kl a0 a0.size).length : Int)) = True := eq_true (by omega)
       have hm3 : (0 ≤ ((impl_isPattern.kl a0 nn).length : Int)) = True := eq_true (by omega)
       have hcp : ∀ (W : World) (d : Option Addr) (n c : Nat), (Builtin.copy_ #[76, 76] 3 #[.slice d n c, .slice (some pp) 0 qq]).run Tryd.prog W = .ok (goInt 0) W := fun W d n c => run_copy_none W 76 76 3 5 d (some pp) n c 0 qq Tryd.underlying76 (by kernel_rfl) (by simp)
       go_wp2_with fail
       repeat (go_quiet (fail); try go_wp2)
       all_goals (try rw [← h])
       all_goals (go_roundg (gk - 1))
       case measure => omega
       case measure => omega
       case rel => exact ⟨nn + 1, hlt, by omega, by rw [hkl]; first | rfl | rw [h], by first | rfl | (congr 1; omega), ⟨by have e := HBf.out; unfold impl_isPattern.cells at e ⊢; rw [hkl]; exact e⟩, ⟨HT2.out⟩, ⟨by repeat (first | exact HB.out | apply pw_below_drewN)⟩⟩
       case rel => exact ⟨nn + 1, hlt, by omega, by rw [hkl], by first | rfl | (congr 1; omega), ⟨by have e := HBf.out; unfold impl_isPattern.cells at e ⊢; rw [hkl]; exact e⟩, ⟨HT2.out⟩, ⟨by repeat (first | exact HB.out | apply pw_below_drewN)⟩⟩
     ·
      have q0d : decide ((nn : Int) < (a0.size : Int)) = false := decide_eq_false (by omega)
      have hnn' : nn = a0.size := by omega
      subst hnn'
      have hcv : (convert 76 9 (.slice (some ⟨w.heap.size, 0, none⟩) (impl_isPattern.kl a0 a0.size).length (impl_isPattern.kl a0 a0.size).length)).run Tryd.prog wr = .ok (.string (impl_isPattern.strip a0)) wr := by
       rw [impl_isPattern.strip_all]
       refine run_convert_bytes_back wr 76 9 5 ⟨w.heap.size, 0, none⟩ (impl_isPattern.kl a0 a0.size).length (impl_isPattern.kl a0 a0.size) Tryd.underlying76 Tryd.underlying5 Tryd.underlying9 (fun j hj => ?_)
       have hadd : (⟨w.heap.size, 0, none⟩ : Addr).add j = ⟨w.heap.size, j, none⟩ := by unfold Addr.add; split <;> simp_all
       rw [hadd, HBf.out.cell]
       unfold impl_isPattern.cells
       rw [List.getElem?_append_left (by simpa using hj)]
       simp [hj]
      go_wp2_with fail
      go_ret
      exact ⟨rfl, by repeat (first | exact HB.out | apply pw_below_drewN)⟩
   ·
    have hd : decide ((impl_isPattern.kl a0 a0.size).length < a0.size) = false := decide_eq_false hall
    go_wp2_with fail
    go_ret
    exact ⟨by rw [impl_isPattern.strip_same a0 hall]; rfl, (Drawn0.below ⟨nd, rfl⟩)⟩
set_option maxRecDepth 100000 in
set_option maxHeartbeats 1600000 in
theorem impl_isPattern.replace (w0 w : World) (c d cap : Nat) (HR : impl_isPattern.Rp w c d cap) (h0 : w.cell? ⟨c, 0, none⟩ = some (.int .u32 0)) (h1 : w.cell? ⟨c, 1, none⟩ = some (.int .i32 0)) (hB : Below w0.heap.size w0 w) (hc : w0.heap.size ≤ c) (a0 : ByteArray) (ha : a0.size ≤ 14) :
  Calls Tryd.prog 17 #[.pointer (some ⟨c, 0, none⟩), .string a0] w fun e w' => e = .returned (.string (impl_isPattern.strip a0)) ∧ Below w0.heap.size w0 w' := by
 have HD := Aside0.mk (impl_isPattern.onceDo w0 w c d cap HR h0 h1 hB hc)
 have HA := Aside0.mk ha
 have HF := Aside0.mk HR.fr
 have hm : ∀ (n : Nat) (g : Nat) (W : World), (method (n + 1) 80 (.pointer (some ⟨g, 0, none⟩)) "Replace").run Tryd.prog W = .ok (105, .pointer (some ⟨g, 0, none⟩)) W := fun _ _ _ => by kernel_rfl
 clear HR h0 h1 hB ha
 go_enter Tryd.func17, Tryd.ntmps17
 go_wp2_with (first | (go_at_call 19; refine HD.out.mono ?_; rintro e w2 ⟨rfl, ⟨g, p, q, p2, q2, A, c2, hT, hg, h3⟩, hB2⟩; have HT := Aside0.mk hT; have HB2 := Aside0.mk hB2; clear hT hB2) | (go_at_call 105; refine (impl_isPattern.bsr g p q p2 q2 A c2 a0 HA.out _ HT.out).mono ?_; rintro e w3 ⟨rfl, hB3⟩; have HB3 := Aside0.mk (below_step HB2.out hB3); clear hB3))
 go_ret
 exact ⟨rfl, HB3.out⟩
def impl_isPattern.f (a0 : ByteArray) : Option Bool := if a0.size ≤ 14 then impl_areLetters.f (impl_isPattern.strip a0) else some false
set_option maxRecDepth 100000 in
set_option maxHeartbeats 1600000 in
theorem impl_isPattern.calls (a0 : ByteArray) (r : Bool) (w : World) (h : impl_isPattern.f a0 = some r) :
  Calls Tryd.prog 10 #[.string a0] w fun e w' => e = .returned (.bool r) ∧ Below w.heap.size w w' := by
 unfold impl_isPattern.f at h
 by_cases ha : a0.size ≤ 14
 ·
  rw [if_pos ha] at h
  have c1 : decide ((a0.size : Int) ≤ 14) = true := decide_eq_true (by omega)
  have c2 : decide (a0.size ≤ 14) = true := decide_eq_true ha
  have HA := Aside0.mk ha
  have HL := Aside0.mk h
  clear h ha
  go_enter Tryd.func10, Tryd.ntmps10
  go_wp2_with (first | ((with_reducible refine gate_dst (N := 7) rfl ?_); (try (refine gate_guard (by rfl) ?_; dsimp only)); refine Kd.R_lit Kd.string (w0 := w) w.heap.size 9 ?hg (N := 7) ?hd (xs := impl_isPattern.olds) (inner := [.string ⟨#[63]⟩, .string ⟨#[]⟩, .string ⟨#[42]⟩, .string ⟨#[]⟩]) (ok := fun _ => True) (okp := fun _ => True) ?hr ?hp (fun _ hk => hk) trivial (Below.refl _ _) (Nat.le_refl _) (by decide) ?_; (case hd => rfl); (case hg => rfl); (case hr => first | (go_simp; done) | (go_simp; rfl)); (case hp => exact (Reps.one (show Kd.M Kd.string _ _ _ (⟨#[63]⟩ : ByteArray) [.string ⟨#[63]⟩] from rfl) (Reps.one (show Kd.M Kd.string _ _ _ (⟨#[]⟩ : ByteArray) [.string ⟨#[]⟩] from rfl) (Reps.one (show Kd.M Kd.string _ _ _ (⟨#[42]⟩ : ByteArray) [.string ⟨#[42]⟩] from rfl) (Reps.one (show Kd.M Kd.string _ _ _ (⟨#[]⟩ : ByteArray) [.string ⟨#[]⟩] from rfl) (Reps.none _ _)))))); intro v1 w1 ho hb hg_ hnew_; obtain ⟨a1, cap1, e1, hb1, hb2, -⟩ := Kd.R_form ho (by decide); subst e1; have HO := Aside0.mk ho; have HB := Aside0.mk hb; clear ho hb hg_ hnew_) | (go_at_call 16; refine (impl_isPattern.newR a1 cap1 _ (Kd.R_reads' HO.out).2.2).mono ?_; rintro e w2 ⟨c, d, cap, rfl, hcw, hRp, h0, h1, hB2⟩; have HRp := Aside0.mk hRp; have H0 := Aside0.mk h0; have H1 := Aside0.mk h1; have HC := Aside0.mk hcw; have HB2 := Aside0.mk (below_step HB.out hB2); clear hRp h0 h1 hB2 hcw) | (go_at_call 17; refine (impl_isPattern.replace w _ c d cap HRp.out H0.out H1.out HB2.out (Nat.le_trans HB.out.size HC.out) a0 HA.out).mono ?_; rintro e w3 ⟨rfl, hB3⟩; have HB3 := Aside0.mk hB3; clear hB3) | (go_at_call 15; refine (impl_areLetters.calls (impl_isPattern.strip a0) r _ HL.out).mono ?_; rintro e w4 ⟨rfl, hd4⟩; have HB4 := Aside0.mk (below_step HB3.out (by first | exact hd4 | exact hd4.below)); clear hd4))
  go_ret
  exact ⟨rfl, HB4.out⟩
 ·
  rw [if_neg ha] at h
  obtain rfl := Option.some.inj h
  have c1 : decide ((a0.size : Int) ≤ 14) = false := decide_eq_false (by omega)
  have c2 : decide (a0.size ≤ 14) = false := decide_eq_false ha
  go_enter Tryd.func10, Tryd.ntmps10
  go_wp2_with fail
  go_ret
  exact ⟨rfl, by repeat (first | exact Below.refl _ _ | apply below_alloc | apply pw_below_drewN | apply below_drew1)⟩
def impl_PlainPattern.l0 : Nat → ByteArray → ByteArray → ByteArray → Int → Int → Option (ByteArray × Bool)
 | 0, _, _, _, _, _ => none
 | k + 1, x0, x4, x5, x11, x12 => if x12 < x11 then (if 0 ≤ x12 then (if x12 < (x0.size : Int) then (if (bt x0 x12) = 42 then (impl_PlainPattern.l0 k x0 x4 (⟨#[42]⟩ : ByteArray) x11 (wrap64 (x12 + 1))) else (if (bt x0 x12) = 63 then (if x4.size + 1 ≤ 9223372036854775807 then (impl_PlainPattern.l0 k x0 (x4 ++ (⟨#[63]⟩ : ByteArray)) x5 x11 (wrap64 (x12 + 1))) else (none)) else (if x12 ≤ (wrap64 (x12 + 1)) then (if (wrap64 (x12 + 1)) ≤ (x0.size : Int) then (if x5.size + (x0.extract (x12 : Int).toNat ((wrap64 (x12 + 1)) : Int).toNat).size ≤ 9223372036854775807 then (if x4.size + (x5 ++ (x0.extract (x12 : Int).toNat ((wrap64 (x12 + 1)) : Int).toNat)).size ≤ 9223372036854775807 then (impl_PlainPattern.l0 k x0 (x4 ++ (x5 ++ (x0.extract (x12 : Int).toNat ((wrap64 (x12 + 1)) : Int).toNat))) (⟨#[]⟩ : ByteArray) x11 (wrap64 (x12 + 1))) else (none)) else (none)) else (none)) else (none)))) else (none)) else (none)) else (if x4.size + x5.size ≤ 9223372036854775807 then (some (x4 ++ x5, true)) else (none))
def impl_PlainPattern.f (k : Nat) (a0 : ByteArray) : Option (ByteArray × Bool) := (impl_isPattern.f a0).bind fun t102 => (if t102 = true then (impl_PlainPattern.l0 k a0 (⟨#[]⟩ : ByteArray) (⟨#[]⟩ : ByteArray) (a0.size : Int) 0) else (some ((⟨#[]⟩ : ByteArray), false)))
theorem impl_PlainPattern.mono_l : ∀ k, (∀ y0 y1 y2 y3 y4, LeO (impl_PlainPattern.l0 k y0 y1 y2 y3 y4) (impl_PlainPattern.l0 (k + 1) y0 y1 y2 y3 y4))
 | 0 => fun _ _ _ _ _ r h => by simp [impl_PlainPattern.l0] at h
 | k + 1 => by
  have ih0 := impl_PlainPattern.mono_l k
  ·
   intro y0 y1 y2 y3 y4
   unfold impl_PlainPattern.l0
   repeat' first
   | (with_reducible exact ih0 _ _ _ _ _)
   | (with_reducible exact LeO.refl _)
   | (with_reducible exact LeO.none _)
   | (with_reducible refine LeO.ite ?_ ?_)
   | (with_reducible refine LeO.bind ?_ (fun _ => ?_))
   | exact ih0 _ _ _ _ _
   | exact LeO.none _
   | refine LeO.ite ?_ ?_
   | refine LeO.bind ?_ (fun _ => ?_)
theorem impl_PlainPattern.mono : ∀ a0 k, LeO (impl_PlainPattern.f k a0) (impl_PlainPattern.f (k + 1) a0) := by
 intro a0 k
 have ih0 := impl_PlainPattern.mono_l k
 unfold impl_PlainPattern.f
 repeat' first
   | (with_reducible exact ih0 _ _ _ _ _)
   | (with_reducible exact LeO.refl _)
   | (with_reducible exact LeO.none _)
   | (with_reducible refine LeO.ite ?_ ?_)
   | (with_reducible refine LeO.bind ?_ (fun _ => ?_))
   | exact ih0 _ _ _ _ _
   | exact LeO.none _
   | refine LeO.ite ?_ ?_
   | refine LeO.bind ?_ (fun _ => ?_)
set_option maxHeartbeats 8000000 in
set_option maxRecDepth 100000 in
theorem impl_PlainPattern.calls (k : Nat) (a0 : ByteArray) (r1 : ByteArray) (r2 : Bool) (w : World) (h : impl_PlainPattern.f k a0 = some (r1, r2)) :
  Calls Tryd.prog 6 #[.string a0] w fun e w' => e = .returned (.tuple #[.string r1, .bool r2]) ∧ Below w.heap.size w w' := by
 have HB := Aside0.mk (Below.refl w.heap.size w)
 have H : ((impl_isPattern.f a0).bind fun t102 => (if t102 = true then (impl_PlainPattern.l0 k a0 (⟨#[]⟩ : ByteArray) (⟨#[]⟩ : ByteArray) (a0.size : Int) 0) else (some ((⟨#[]⟩ : ByteArray), false)))) = some (r1, r2) := h
 clear h
 replace H := Option.bind_eq_some_iff.mp H
 obtain ⟨t102, A20, H⟩ := H
 replace H : (if t102 = true then (impl_PlainPattern.l0 k a0 (⟨#[]⟩ : ByteArray) (⟨#[]⟩ : ByteArray) (a0.size : Int) 0) else (some ((⟨#[]⟩ : ByteArray), false))) = some (r1, r2) := H
 have A2 := Aside0.mk A20
 clear A20
 by_cases c3 : t102 = true
 ·
  subst c3
  have H1 : (impl_PlainPattern.l0 k a0 (⟨#[]⟩ : ByteArray) (⟨#[]⟩ : ByteArray) (a0.size : Int) 0) = some (r1, r2) := by rw [if_pos rfl] at H; exact H
  clear H
  have H := H1
  clear H1
  have H' := Aside0.mk H
  clear H
  go_enter Tryd.func6, Tryd.ntmps6
  go_wp2_with (first | ((with_reducible refine gate_callee (f := 10) rfl ?_); refine goesL_ (some 8) rfl rfl Tryd.func10 (by kernel_rfl) rfl #[.string a0] rfl (by (try simp only [List.map_toArray, List.map_cons, List.map_nil]); first | done | rfl | (simp only [List.length_drop, List.length_take]; rfl)) ?_; (with_reducible refine (impl_isPattern.calls a0 true _ A2.out).mono ?_); rintro e w4 ⟨rfl, hb⟩; refine ⟨_, rfl, ?_⟩; have n0_ := Aside0.mk (below_step (by repeat (first | (with_reducible first | exact HB.out | apply below_alloc | apply pw_below_drewN | apply below_drew1) | exact HB.out)) hb); clear HB; have HB := n0_; clear n0_; (try clear hb); (try clear hb2); (try clear hk); (try clear hi)))
  go_loopg [4, 5, 12] k (fun kq v4 v5 v12 w' => ∃ (x4_1 : ByteArray) (x5_1 : ByteArray) (x12_1 : Int), v4 = .string x4_1 ∧ v5 = .string x5_1 ∧ v12 = .int .i64 x12_1 ∧ Aside0 (impl_PlainPattern.l0 kq a0 x4_1 x5_1 (a0.size : Int) x12_1 = some (r1, r2)) ∧ Aside0 (kq ≤ k) ∧ Aside0 (Below w.heap.size w w'))
  case atStart => exact ⟨((⟨#[]⟩ : ByteArray)), ((⟨#[]⟩ : ByteArray)), (0), (by first | rfl | (simp; done) | (simp [*]; done)), (by first | rfl | (simp; done) | (simp [*]; done)), (by first | rfl | (simp; done) | (simp [*]; done)), H', ⟨Nat.le_refl _⟩, ⟨by repeat (first | (with_reducible first | exact HB.out | apply below_alloc | apply pw_below_drewN | apply below_drew1) | exact HB.out)⟩⟩
  case round =>
   clear H'
   try clear c1
   try clear p2
   try clear c3
   obtain ⟨x4_1, x5_1, x12_1, rfl, rfl, rfl, HA, HK1, HB⟩ := hrel
   cases gk with
   | zero => exact absurd HA.out (by simp [impl_PlainPattern.l0])
   | succ k1 =>
    have H := HA.out
    clear HA
    simp only [impl_PlainPattern.l0] at H
    by_cases c5 : x12_1 < (a0.size : Int)
    ·
     rw [if_pos c5] at H
     have c5b0 : decide (x12_1 < (a0.size : Int)) = true := decide_eq_true c5
     clear c5
     by_cases c6 : 0 ≤ x12_1
     ·
      rw [if_pos c6] at H
      have c6b0 : decide (0 ≤ x12_1) = true := decide_eq_true c6
      clear c6
      by_cases c7 : x12_1 < (a0.size : Int)
      ·
       rw [if_pos c7] at H
       have c7b0 : decide (x12_1 < (a0.size : Int)) = true := decide_eq_true c7
       clear c7
       by_cases c9 : (bt a0 x12_1) = 42
       ·
        rw [if_pos c9] at H
        have c9b0 : ((bt a0 x12_1) == 42) = true := beq_iff_eq.mpr c9
        have c9b1 : ((bt a0 x12_1) != 42) = false := bne_eq_false_iff_eq.mpr c9
        clear c9
        have H' := Aside0.mk H
        clear H
        have p8 : 0 ≤ (x12_1 : Int) := of_decide_eq_true (by first | (with_reducible assumption) | assumption)
        have q8 : x12_1 < (a0.size : Int) := of_decide_eq_true (by first | (with_reducible assumption) | assumption)
        have hx8 := bt_at a0 x12_1
        replace p8 := eq_true p8
        replace q8 := eq_true q8
        go_wp2
        go_roundg k1
        case measure => have := HK1.out; omega
        case rel => exact ⟨(x4_1), ((⟨#[42]⟩ : ByteArray)), (wrap64 (x12_1 + 1)), (by first | rfl | (simp; done) | (simp [*]; done)), (by first | rfl | (simp; done) | (simp [*]; done)), (by first | rfl | (simp; done) | (simp [*]; done)), H', ⟨by have := HK1.out; omega⟩, ⟨by repeat (first | (with_reducible first | exact HB.out | apply below_alloc | apply pw_below_drewN | apply below_drew1) | exact HB.out)⟩⟩
       ·
        rw [if_neg c9] at H
        have c9b0 : ((bt a0 x12_1) == 42) = false := beq_eq_false_iff_ne.mpr c9
        have c9b1 : ((bt a0 x12_1) != 42) = true := bne_iff_ne.mpr c9
        by_cases c10 : (bt a0 x12_1) = 63
        ·
         rw [if_pos c10] at H
         have c10b0 : ((bt a0 x12_1) == 63) = true := beq_iff_eq.mpr c10
         have c10b1 : ((bt a0 x12_1) != 63) = false := bne_eq_false_iff_eq.mpr c10
         clear c10
         by_cases c11 : x4_1.size + 1 ≤ 9223372036854775807
         ·
          rw [if_pos c11] at H
          have c11b0 := eq_true c11
          have c11b1 : decide (x4_1.size + 1 ≤ 9223372036854775807) = true := decide_eq_true c11
          try have c11b2 : (9223372036854775807 < x4_1.size + 1) = False := eq_false (Nat.not_lt.2 c11)
          have H' := Aside0.mk H
          clear H
          have p8 : 0 ≤ (x12_1 : Int) := of_decide_eq_true (by first | (with_reducible assumption) | assumption)
          have q8 : x12_1 < (a0.size : Int) := of_decide_eq_true (by first | (with_reducible assumption) | assumption)
          have hx8 := bt_at a0 x12_1
          replace p8 := eq_true p8
          replace q8 := eq_true q8
          go_wp2
          go_roundg k1
          case measure => have := HK1.out; omega
          case rel => exact ⟨(x4_1 ++ (⟨#[63]⟩ : ByteArray)), (x5_1), (wrap64 (x12_1 + 1)), (by first | rfl | (simp; done) | (simp [*]; done)), (by first | rfl | (simp; done) | (simp [*]; done)), (by first | rfl | (simp; done) | (simp [*]; done)), H', ⟨by have := HK1.out; omega⟩, ⟨by repeat (first | (with_reducible first | exact HB.out | apply below_alloc | apply pw_below_drewN | apply below_drew1) | exact HB.out)⟩⟩
         ·
          rw [if_neg c11] at H
          exact absurd H (by simp)
        ·
         rw [if_neg c10] at H
         have c10b0 : ((bt a0 x12_1) == 63) = false := beq_eq_false_iff_ne.mpr c10
         have c10b1 : ((bt a0 x12_1) != 63) = true := bne_iff_ne.mpr c10
         have c12b0 := eq_true (of_decide_eq_true (by first | (with_reducible assumption) | assumption) : 0 ≤ x12_1)
         by_cases c13 : x12_1 ≤ (wrap64 (x12_1 + 1))
         ·
          rw [if_pos c13] at H
          have c13b0 := eq_true c13
          have c13b1 : decide (x12_1 ≤ (wrap64 (x12_1 + 1))) = true := decide_eq_true c13
          by_cases c14 : (wrap64 (x12_1 + 1)) ≤ (a0.size : Int)
          ·
           rw [if_pos c14] at H
           have c14b0 := eq_true c14
           have c14b1 : decide ((wrap64 (x12_1 + 1)) ≤ (a0.size : Int)) = true := decide_eq_true c14
           by_cases c15 : x5_1.size + (a0.extract (x12_1 : Int).toNat ((wrap64 (x12_1 + 1)) : Int).toNat).size ≤ 9223372036854775807
           ·
            rw [if_pos c15] at H
            have c15b0 := eq_true c15
            have c15b1 : decide (x5_1.size + (a0.extract (x12_1 : Int).toNat ((wrap64 (x12_1 + 1)) : Int).toNat).size ≤ 9223372036854775807) = true := decide_eq_true c15
            try have c15b2 : (9223372036854775807 < x5_1.size + (a0.extract (x12_1 : Int).toNat ((wrap64 (x12_1 + 1)) : Int).toNat).size) = False := eq_false (Nat.not_lt.2 c15)
            by_cases c16 : x4_1.size + (x5_1 ++ (a0.extract (x12_1 : Int).toNat ((wrap64 (x12_1 + 1)) : Int).toNat)).size ≤ 9223372036854775807
            ·
             rw [if_pos c16] at H
             have c16b0 := eq_true c16
             have c16b1 : decide (x4_1.size + (x5_1 ++ (a0.extract (x12_1 : Int).toNat ((wrap64 (x12_1 + 1)) : Int).toNat)).size ≤ 9223372036854775807) = true := decide_eq_true c16
             try have c16b2 : (9223372036854775807 < x4_1.size + (x5_1 ++ (a0.extract (x12_1 : Int).toNat ((wrap64 (x12_1 + 1)) : Int).toNat)).size) = False := eq_false (Nat.not_lt.2 c16)
             have H' := Aside0.mk H
             clear H
             have p8 : 0 ≤ (x12_1 : Int) := of_decide_eq_true (by first | (with_reducible assumption) | assumption)
             have q8 : x12_1 < (a0.size : Int) := of_decide_eq_true (by first | (with_reducible assumption) | assumption)
             have hx8 := bt_at a0 x12_1
             replace p8 := eq_true p8
             replace q8 := eq_true q8
             go_wp2
             go_roundg k1
             case measure => have := HK1.out; omega
             case rel => exact ⟨(x4_1 ++ (x5_1 ++ (a0.extract (x12_1 : Int).toNat ((wrap64 (x12_1 + 1)) : Int).toNat))), ((⟨#[]⟩ : ByteArray)), (wrap64 (x12_1 + 1)), (by first | rfl | (simp; done) | (simp [*]; done)), (by first | rfl | (simp; done) | (simp [*]; done)), (by first | rfl | (simp; done) | (simp [*]; done)), H', ⟨by have := HK1.out; omega⟩, ⟨by repeat (first | (with_reducible first | exact HB.out | apply below_alloc | apply pw_below_drewN | apply below_drew1) | exact HB.out)⟩⟩
            ·
             rw [if_neg c16] at H
             exact absurd H (by simp)
           ·
            rw [if_neg c15] at H
            exact absurd H (by simp)
          ·
           rw [if_neg c14] at H
           exact absurd H (by simp)
         ·
          rw [if_neg c13] at H
          exact absurd H (by simp)
      ·
       rw [if_neg c7] at H
       exact absurd H (by simp)
     ·
      rw [if_neg c6] at H
      exact absurd H (by simp)
    ·
     rw [if_neg c5] at H
     have c5b0 : decide (x12_1 < (a0.size : Int)) = false := decide_eq_false c5
     clear c5
     by_cases c17 : x4_1.size + x5_1.size ≤ 9223372036854775807
     ·
      rw [if_pos c17] at H
      have c17b0 := eq_true c17
      have c17b1 : decide (x4_1.size + x5_1.size ≤ 9223372036854775807) = true := decide_eq_true c17
      try have c17b2 : (9223372036854775807 < x4_1.size + x5_1.size) = False := eq_false (Nat.not_lt.2 c17)
      simp only [Option.some.injEq, Prod.mk.injEq] at H
      obtain ⟨rfl, rfl⟩ := H
      go_wp2
      go_ret2
      exact ⟨by first | rfl | (simp [errW_none, errW_some] <;> rfl) | (simp [*, errW_none, errW_some] <;> rfl), by repeat (first | (with_reducible first | exact HB.out | apply below_alloc | apply pw_below_drewN | apply below_drew1) | exact HB.out)⟩
     ·
      rw [if_neg c17] at H
      exact absurd H (by simp)
 ·
  replace c3 := Bool.eq_false_iff.mpr c3
  subst c3
  have H1 : (some ((⟨#[]⟩ : ByteArray), false)) = some (r1, r2) := by rw [if_neg (show ¬ (false = true) by decide)] at H; exact H
  clear H
  have H := H1
  clear H1
  simp only [Option.some.injEq, Prod.mk.injEq] at H
  obtain ⟨rfl, rfl⟩ := H
  go_enter Tryd.func6, Tryd.ntmps6
  go_wp2_with (first | ((with_reducible refine gate_callee (f := 10) rfl ?_); refine goesL_ (some 8) rfl rfl Tryd.func10 (by kernel_rfl) rfl #[.string a0] rfl (by (try simp only [List.map_toArray, List.map_cons, List.map_nil]); first | done | rfl | (simp only [List.length_drop, List.length_take]; rfl)) ?_; (with_reducible refine (impl_isPattern.calls a0 false _ A2.out).mono ?_); rintro e w18 ⟨rfl, hb⟩; refine ⟨_, rfl, ?_⟩; have n0_ := Aside0.mk (below_step (by repeat (first | (with_reducible first | exact HB.out | apply below_alloc | apply pw_below_drewN | apply below_drew1) | exact HB.out)) hb); clear HB; have HB := n0_; clear n0_; (try clear hb); (try clear hb2); (try clear hk); (try clear hi)))
  go_ret2
  exact ⟨by first | rfl | (simp [errW_none, errW_some] <;> rfl) | (simp [*, errW_none, errW_some] <;> rfl), by repeat (first | (with_reducible first | exact HB.out | apply below_alloc | apply pw_below_drewN | apply below_drew1) | exact HB.out)⟩
def laws_FnExactPlainPattern.f (k : Nat) (a0 : ByteArray) : Option (Bool) := if (a0.size : Int) > 1048576 then (some true) else ((spec_PlainPattern.f k a0).bind fun bt103 => ((impl_PlainPattern.f k a0).bind fun bt105 => (if bt105.1.toList = bt103.1.toList then (if (bt105.2 != bt103.2) = true then (some false) else (some true)) else (some false))))
theorem laws_FnExactPlainPattern.mono : ∀ a0 k, LeO (laws_FnExactPlainPattern.f k a0) (laws_FnExactPlainPattern.f (k + 1) a0) := by
 intro a0 k
 unfold laws_FnExactPlainPattern.f
 repeat' first
   | (with_reducible exact impl_PlainPattern.mono _ _)
   | (with_reducible exact spec_PlainPattern.mono _ _)
   | (with_reducible exact LeO.refl _)
   | (with_reducible exact LeO.none _)
   | (with_reducible refine LeO.ite ?_ ?_)
   | (with_reducible refine LeO.bind ?_ (fun _ => ?_))
   | exact impl_PlainPattern.mono _ _
   | exact spec_PlainPattern.mono _ _
   | exact LeO.none _
   | refine LeO.ite ?_ ?_
   | refine LeO.bind ?_ (fun _ => ?_)
set_option maxHeartbeats 8000000 in
set_option maxRecDepth 100000 in
theorem laws_FnExactPlainPattern.calls (k : Nat) (a0 : ByteArray) (r : Bool) (w : World) (h : laws_FnExactPlainPattern.f k a0 = some r) :
  Calls Tryd.prog 3 #[.string a0] w fun e w' => e = .returned (.bool r) ∧ Below w.heap.size w w' := by
 have HB := Aside0.mk (Below.refl w.heap.size w)
 have H : (if (a0.size : Int) > 1048576 then (some true) else ((spec_PlainPattern.f k a0).bind fun bt103 => ((impl_PlainPattern.f k a0).bind fun bt105 => (if bt105.1.toList = bt103.1.toList then (if (bt105.2 != bt103.2) = true then (some false) else (some true)) else (some false))))) = some r := h
 clear h
 by_cases c2 : (a0.size : Int) > 1048576
 ·
  rw [if_pos c2] at H
  have c2b0 : decide (1048576 < (a0.size : Int)) = true := decide_eq_true c2
  have c2b1 : decide (1048576 < a0.size) = true := decide_eq_true (by omega)
  clear c2
  obtain rfl := Option.some.inj H
  go_enter Tryd.func3, Tryd.ntmps3
  go_wp2
  go_ret
  exact ⟨by first | rfl | (simp [errW_none, errW_some] <;> rfl) | (simp [*, errW_none, errW_some] <;> rfl), by repeat (first | (with_reducible first | exact HB.out | apply below_alloc | apply pw_below_drewN | apply below_drew1) | exact HB.out)⟩
 ·
  rw [if_neg c2] at H
  have c2b0 : decide (1048576 < (a0.size : Int)) = false := decide_eq_false c2
  have c2b1 : decide (1048576 < a0.size) = false := decide_eq_false (by omega)
  clear c2
  replace H := Option.bind_eq_some_iff.mp H
  obtain ⟨⟨t103, t104⟩, A30, H⟩ := H
  replace H : ((impl_PlainPattern.f k a0).bind fun bt105 => (if bt105.1.toList = t103.toList then (if (bt105.2 != t104) = true then (some false) else (some true)) else (some false))) = some r := H
  have A3 := Aside0.mk A30
  clear A30
  replace H := Option.bind_eq_some_iff.mp H
  obtain ⟨⟨t105, t106⟩, A40, H⟩ := H
  replace H : (if t105.toList = t103.toList then (if (t106 != t104) = true then (some false) else (some true)) else (some false)) = some r := H
  have A4 := Aside0.mk A40
  clear A40
  by_cases c5 : t105.toList = t103.toList
  ·
   rw [if_pos c5] at H
   have c5b0 : (t105.toList == t103.toList) = true := beq_iff_eq.mpr c5
   have c5b1 : (t105.toList != t103.toList) = false := bne_eq_false_iff_eq.mpr c5
   clear c5
   by_cases c6 : (t106 != t104) = true
   ·
    rw [if_pos c6] at H
    have c6b0 : (t106 != t104) = true := c6
    (try (have c6b1 : decide (t106 = t104) = false := by simpa using c6))
    (try (have c6b2 : (t106 == t104) = false := by simpa using c6))
    (try (have c6b3 : ¬ (t106 = t104) := by simpa using c6))
    clear c6
    obtain rfl := Option.some.inj H
    go_enter Tryd.func3, Tryd.ntmps3
    go_wp2_with (first | ((with_reducible refine gate_callee (f := 5) rfl ?_); refine goesL_ (some 12) rfl rfl Tryd.func5 (by kernel_rfl) rfl #[.string a0] rfl (by (try simp only [List.map_toArray, List.map_cons, List.map_nil]); first | done | rfl | (simp only [List.length_drop, List.length_take]; rfl)) ?_; (with_reducible refine (spec_PlainPattern.calls k a0 t103 t104 _ A3.out).mono ?_); rintro e w' ⟨rfl, ⟨nd, rfl⟩⟩; refine ⟨_, rfl, ?_⟩) | ((with_reducible refine gate_callee (f := 6) rfl ?_); refine goesL_ (some 17) rfl rfl Tryd.func6 (by kernel_rfl) rfl #[.string a0] rfl (by (try simp only [List.map_toArray, List.map_cons, List.map_nil]); first | done | rfl | (simp only [List.length_drop, List.length_take]; rfl)) ?_; (with_reducible refine (impl_PlainPattern.calls k a0 t105 t106 _ A4.out).mono ?_); rintro e w7 ⟨rfl, hb⟩; refine ⟨_, rfl, ?_⟩; have n0_ := Aside0.mk (below_step (by repeat (first | (with_reducible first | exact HB.out | apply below_alloc | apply pw_below_drewN | apply below_drew1) | exact HB.out)) hb); clear HB; have HB := n0_; clear n0_; (try clear hb); (try clear hb2); (try clear hk); (try clear hi)))
    go_ret
    exact ⟨by first | rfl | (simp [errW_none, errW_some] <;> rfl) | (simp [*, errW_none, errW_some] <;> rfl), by repeat (first | (with_reducible first | exact HB.out | apply below_alloc | apply pw_below_drewN | apply below_drew1) | exact HB.out)⟩
   ·
    rw [if_neg c6] at H
    have c6b0 : (t106 != t104) = false := by simpa using c6
    (try (have c6b1 : decide (t106 = t104) = true := by simpa using c6))
    (try (have c6b2 : (t106 == t104) = true := by simpa using c6))
    clear c6
    obtain rfl := Option.some.inj H
    go_enter Tryd.func3, Tryd.ntmps3
    go_wp2_with (first | ((with_reducible refine gate_callee (f := 5) rfl ?_); refine goesL_ (some 12) rfl rfl Tryd.func5 (by kernel_rfl) rfl #[.string a0] rfl (by (try simp only [List.map_toArray, List.map_cons, List.map_nil]); first | done | rfl | (simp only [List.length_drop, List.length_take]; rfl)) ?_; (with_reducible refine (spec_PlainPattern.calls k a0 t103 t104 _ A3.out).mono ?_); rintro e w' ⟨rfl, ⟨nd, rfl⟩⟩; refine ⟨_, rfl, ?_⟩) | ((with_reducible refine gate_callee (f := 6) rfl ?_); refine goesL_ (some 17) rfl rfl Tryd.func6 (by kernel_rfl) rfl #[.string a0] rfl (by (try simp only [List.map_toArray, List.map_cons, List.map_nil]); first | done | rfl | (simp only [List.length_drop, List.length_take]; rfl)) ?_; (with_reducible refine (impl_PlainPattern.calls k a0 t105 t106 _ A4.out).mono ?_); rintro e w8 ⟨rfl, hb⟩; refine ⟨_, rfl, ?_⟩; have n0_ := Aside0.mk (below_step (by repeat (first | (with_reducible first | exact HB.out | apply below_alloc | apply pw_below_drewN | apply below_drew1) | exact HB.out)) hb); clear HB; have HB := n0_; clear n0_; (try clear hb); (try clear hb2); (try clear hk); (try clear hi)))
    go_ret
    exact ⟨by first | rfl | (simp [errW_none, errW_some] <;> rfl) | (simp [*, errW_none, errW_some] <;> rfl), by repeat (first | (with_reducible first | exact HB.out | apply below_alloc | apply pw_below_drewN | apply below_drew1) | exact HB.out)⟩
  ·
   rw [if_neg c5] at H
   have c5b0 : (t105.toList == t103.toList) = false := beq_eq_false_iff_ne.mpr c5
   have c5b1 : (t105.toList != t103.toList) = true := bne_iff_ne.mpr c5
   obtain rfl := Option.some.inj H
   go_enter Tryd.func3, Tryd.ntmps3
   go_wp2_with (first | ((with_reducible refine gate_callee (f := 5) rfl ?_); refine goesL_ (some 12) rfl rfl Tryd.func5 (by kernel_rfl) rfl #[.string a0] rfl (by (try simp only [List.map_toArray, List.map_cons, List.map_nil]); first | done | rfl | (simp only [List.length_drop, List.length_take]; rfl)) ?_; (with_reducible refine (spec_PlainPattern.calls k a0 t103 t104 _ A3.out).mono ?_); rintro e w' ⟨rfl, ⟨nd, rfl⟩⟩; refine ⟨_, rfl, ?_⟩) | ((with_reducible refine gate_callee (f := 6) rfl ?_); refine goesL_ (some 17) rfl rfl Tryd.func6 (by kernel_rfl) rfl #[.string a0] rfl (by (try simp only [List.map_toArray, List.map_cons, List.map_nil]); first | done | rfl | (simp only [List.length_drop, List.length_take]; rfl)) ?_; (with_reducible refine (impl_PlainPattern.calls k a0 t105 t106 _ A4.out).mono ?_); rintro e w9 ⟨rfl, hb⟩; refine ⟨_, rfl, ?_⟩; have n0_ := Aside0.mk (below_step (by repeat (first | (with_reducible first | exact HB.out | apply below_alloc | apply pw_below_drewN | apply below_drew1) | exact HB.out)) hb); clear HB; have HB := n0_; clear n0_; (try clear hb); (try clear hb2); (try clear hk); (try clear hi)))
   go_ret
   exact ⟨by first | rfl | (simp [errW_none, errW_some] <;> rfl) | (simp [*, errW_none, errW_some] <;> rfl), by repeat (first | (with_reducible first | exact HB.out | apply below_alloc | apply pw_below_drewN | apply below_drew1) | exact HB.out)⟩
def laws_FnExactPlainPattern.Pure : Prop := ∀ (a0 : ByteArray), a0.size ≤ 140737488351232 → ∃ k, laws_FnExactPlainPattern.f k a0 = some true
theorem laws_FnExactPlainPattern.walk (P : laws_FnExactPlainPattern.Pure) (a0 : ByteArray) (w : World) (w0 : a0.size ≤ 140737488351232) :
  Calls Tryd.prog 3 #[.string a0] w fun e w' => e = .returned (.bool true) ∧ Below w.heap.size w w' := by
 obtain ⟨k, h⟩ := P a0 w0
 refine (laws_FnExactPlainPattern.calls k a0 true w h).mono ?_
 rintro e w' ⟨rfl, hd⟩
 exact ⟨rfl, hd⟩
end Go.Proofs.YtjpepfdpihojfaaDoor.P
namespace Go.Proofs.YtjpepfdpihojfaaDoor.M
open Go.RowKit Go.Proofs.YtjpepfdpihojfaaDoorW.PrintWords
theorem wrap64_id {x : Int} (h0 : -9223372036854775808 ≤ x) (h1 : x ≤ 9223372036854775807) : wrap64 x = x := by unfold wrap64; omega
theorem wrap64_succ (n : Nat) (h : n < 4611686018427387904) : wrap64 ((n : Int) + 1) = ((n + 1 : Nat) : Int) := by rw [wrap64_id (by omega) (by omega)]; rfl
theorem rd_nat (xs : List Int) (n : Nat) : rd xs (n : Int) = xs.getD n 0 := by simp [rd]
theorem getD_lt {α : Type} (z : α) {xs : List α} {n : Nat} (h : n < xs.length) : xs.getD n z = xs[n] := by simp [List.getD_eq_getElem?_getD, h]
theorem drop_cons_getD {α : Type} (z : α) {xs : List α} {n : Nat} (h : n < xs.length) : xs.drop n = xs.getD n z :: xs.drop (n + 1) := by
 rw [getD_lt z h]; exact List.drop_eq_getElem_cons h
theorem take_succ_getD {α : Type} (z : α) {xs : List α} {n : Nat} (h : n < xs.length) : xs.take (n + 1) = xs.take n ++ [xs.getD n z] := by
 rw [getD_lt z h, List.take_succ_eq_append_getElem h]
theorem fill_set {α : Type} (z : α) (xs : List α) (n : Nat) (h : n < xs.length) (y : α) : (xs.take n ++ List.replicate (xs.length - n) y).set n (xs.getD n z) = xs.take (n + 1) ++ List.replicate (xs.length - (n + 1)) y := by
 have hl : (xs.take n).length = n := by simp; omega
 rw [List.set_append_right _ _ (by omega), hl, Nat.sub_self, show xs.length - n = (xs.length - (n + 1)) + 1 from by omega, List.replicate_succ, List.set_cons_zero, take_succ_getD z h, List.append_assoc]
 rfl
theorem ite_eqT {α : Type} {c : Prop} [Decidable c] {a b : α} (h : c) : (if c then a else b) = a := if_pos h
theorem ite_eqF {α : Type} {c : Prop} [Decidable c] {a b : α} (h : ¬ c) : (if c then a else b) = b := if_neg h
theorem Ev.bind' {α β : Type} {g : Nat → Option α} {f : Nat → α → Option β} {a : α} {r : β} (h : Ev g a) (k : Ev (fun n => f n a) r) : Ev (fun n => (g n).bind fun t => f n t) r := Ev.bind h k
theorem Ev.pure {α : Type} {r : α} : Ev (fun _ => some r) r := Ev.now r
theorem Ev.some_bind {α β : Type} {a : α} {f : Nat → α → Option β} {r : β} (k : Ev (fun n => f n a) r) : Ev (fun n => (some a).bind fun t => f n t) r := k
theorem Ev.ifT {α : Type} {c : Prop} [Decidable c] {f g : Nat → Option α} {r : α} (h : c) (k : Ev f r) : Ev (fun n => if c then f n else g n) r := by simpa only [if_pos h] using k
theorem Ev.ifF {α : Type} {c : Prop} [Decidable c] {f g : Nat → Option α} {r : α} (h : ¬ c) (k : Ev g r) : Ev (fun n => if c then f n else g n) r := by simpa only [if_neg h] using k
def B (l : List UInt8) : ByteArray := ⟨l.toArray⟩
theorem exB (a : ByteArray) : ∃ l, a = B l := ⟨a.data.toList, ByteArray.ext (by simp [B])⟩
@[simp] theorem data_B (l : List UInt8) : (B l).data.toList = l := by simp [B]
@[simp] theorem toList_B (l : List UInt8) : (B l).toList = l := by rw [Go.ByteArray.toList_eq]; simp
@[simp] theorem size_B (l : List UInt8) : (B l).size = l.length := by rw [← ByteArray.size_data, ← Array.length_toList, data_B]
theorem B_data (a : ByteArray) : B a.data.toList = a := ByteArray.ext (by simp [B])
theorem B_inj {l m : List UInt8} (h : B l = B m) : l = m := by rw [← data_B l, h, data_B]
theorem B_eq {l m : List UInt8} : B l = B m ↔ l = m := ⟨B_inj, fun h => by rw [h]⟩
theorem eq_B {a : ByteArray} {l : List UInt8} (h : a.data.toList = l) : a = B l := by rw [← h, B_data]
@[simp] theorem append_B (l m : List UInt8) : B l ++ B m = B (l ++ m) := eq_B (by simp)
@[simp] theorem extract_B (l : List UInt8) (a b : Nat) : (B l).extract a b = B ((l.drop a).take (b - a)) := eq_B (by simp)
@[simp] theorem nil_B : (⟨#[]⟩ : ByteArray) = B [] := rfl
theorem bt_B (l : List UInt8) (n : Nat) (h : n < l.length) : bt (B l) (n : Int) = ((l.getD n 0).toNat : Int) := by
 have h2 : ((n : Int).toNat) < (B l).size := by simpa using h
 rw [bt, dif_pos h2, getD_lt 0 h]
 simp [B, ByteArray.getElem_eq_getElem_data]
def letterB (c : UInt8) : Bool := decide (97 ≤ c.toNat ∧ c.toNat ≤ 122)
end Go.Proofs.YtjpepfdpihojfaaDoor.M
namespace Go.Proofs.YtjpepfdpihojfaaDoor.M
abbrev Txt := List UInt8
theorem txt_irrefl (a : Txt) : ¬ a < a := List.lt_irrefl a
theorem txt_trans {a b c : Txt} (h : a < b) (k : b < c) : a < c := List.lt_trans h k
theorem txt_asymm {a b : Txt} (h : a < b) : ¬ b < a := fun k => txt_irrefl a (txt_trans h k)
theorem txt_tri {a b : Txt} (h : ¬ a < b) (k : ¬ b < a) : a = b := List.le_antisymm (List.not_lt.1 k) (List.not_lt.1 h)
def putL : List Txt → Txt → List Txt
 | [], w => [w]
 | x :: r, w => if x < w then x :: putL r w else if x = w then x :: r else w :: x :: r
def foundL : List Txt → Txt → Bool
 | [], _ => false
 | x :: r, w => if x < w then foundL r w else decide (x = w)
theorem putL_found : ∀ (l : List Txt) (w : Txt), foundL l w = true → putL l w = l
 | [], _, h => by simp [foundL] at h
 | x :: r, w, h => by
  by_cases h1 : x < w
  ·
   simp only [foundL, if_pos h1] at h; simp only [putL, if_pos h1, putL_found r w h]
  ·
   simp only [foundL, if_neg h1, decide_eq_true_eq] at h; simp only [putL, if_neg h1, if_pos h]
def Asc (l : List Txt) : Prop := l.Pairwise (· < ·)
theorem mem_putL : ∀ (l : List Txt) (w y : Txt), y ∈ putL l w ↔ y = w ∨ y ∈ l
 | [], w, y => by simp [putL]
 | x :: r, w, y => by
  by_cases h1 : x < w
  ·
   simp only [putL, if_pos h1, List.mem_cons, mem_putL r w y]
   constructor
   ·
    rintro (h | h | h)
    ·
     exact .inr (.inl h)
    ·
     exact .inl h
    ·
     exact .inr (.inr h)
   ·
    rintro (h | h | h)
    ·
     exact .inr (.inl h)
    ·
     exact .inl h
    ·
     exact .inr (.inr h)
  ·
   by_cases h2 : x = w
   ·
    simp only [putL, if_neg h1, if_pos h2, List.mem_cons]
    constructor
    ·
     exact fun h => .inr h
    ·
     rintro (h | h)
     ·
      exact .inl (h.trans h2.symm)
     ·
      exact h
   ·
    simp [putL, h1, h2]
theorem asc_putL : ∀ (l : List Txt) (w : Txt), Asc l → Asc (putL l w)
 | [], w, _ => by simp [putL, Asc]
 | x :: r, w, h => by
  unfold Asc at h ⊢
  rw [List.pairwise_cons] at h
  by_cases h1 : x < w
  ·
   simp only [putL, if_pos h1, List.pairwise_cons]
   refine ⟨fun y hy => ?_, asc_putL r w h.2⟩
   rcases (mem_putL r w y).1 hy with rfl | hy
   ·
    exact h1
   ·
    exact h.1 y hy
  ·
   by_cases h2 : x = w
   ·
    simp only [putL, if_neg h1, if_pos h2]; exact List.pairwise_cons.2 h
   ·
    simp only [putL, if_neg h1, if_neg h2, List.pairwise_cons]
    have hw : w < x := by
     by_cases h3 : w < x
     ·
      exact h3
     ·
      exact absurd (txt_tri h1 h3) h2
    refine ⟨fun y hy => ?_, h⟩
    rcases List.mem_cons.1 hy with rfl | hy
    ·
     exact hw
    ·
     exact txt_trans hw (h.1 y hy)
theorem asc_ext : ∀ (l m : List Txt), Asc l → Asc m → (∀ y, y ∈ l ↔ y ∈ m) → l = m
 | [], [], _, _, _ => rfl
 | [], y :: m, _, _, h => absurd ((h y).2 (by simp)) (by simp)
 | x :: l, [], _, _, h => absurd ((h x).1 (by simp)) (by simp)
 | x :: l, y :: m, hl, hm, h => by
  unfold Asc at hl hm
  rw [List.pairwise_cons] at hl hm
  have hxy : x = y := by
   rcases List.mem_cons.1 ((h x).1 (by simp)) with e | hx
   ·
    exact e
   rcases List.mem_cons.1 ((h y).2 (by simp)) with e | hy
   ·
    exact e.symm
   exact absurd (hm.1 x hx) (txt_asymm (hl.1 y hy))
  subst hxy
  rw [asc_ext l m hl.2 hm.2 ?_]
  intro z
  have := h z
  simp only [List.mem_cons] at this
  constructor
  ·
   intro hz
   rcases this.1 (.inr hz) with e | hz'
   ·
    exact absurd (hl.1 z hz) (by rw [e]; exact txt_irrefl _)
   ·
    exact hz'
  ·
   intro hz
   rcases this.2 (.inr hz) with e | hz'
   ·
    exact absurd (hm.1 z hz) (by rw [e]; exact txt_irrefl _)
   ·
    exact hz'
def setL (l : List Txt) : List Txt := l.foldl putL []
theorem foldl_putL_mem : ∀ (l acc : List Txt) (y : Txt), y ∈ l.foldl putL acc ↔ y ∈ l ∨ y ∈ acc
 | [], acc, y => by simp
 | x :: l, acc, y => by
  rw [List.foldl_cons, foldl_putL_mem l, mem_putL]
  simp only [List.mem_cons]
  constructor
  ·
   rintro (h | h | h)
   ·
    exact .inl (.inr h)
   ·
    exact .inl (.inl h)
   ·
    exact .inr h
  ·
   rintro ((h | h) | h)
   ·
    exact .inr (.inl h)
   ·
    exact .inl h
   ·
    exact .inr (.inr h)
theorem foldl_putL_asc : ∀ (l acc : List Txt), Asc acc → Asc (l.foldl putL acc)
 | [], _, h => h
 | _ :: l, acc, h => foldl_putL_asc l _ (asc_putL acc _ h)
theorem mem_setL (l : List Txt) (y : Txt) : y ∈ setL l ↔ y ∈ l := by simp [setL, foldl_putL_mem]
theorem asc_setL (l : List Txt) : Asc (setL l) := foldl_putL_asc l [] List.Pairwise.nil
theorem setL_of_asc {l : List Txt} (h : Asc l) : setL l = l := asc_ext _ _ (asc_setL l) h (mem_setL l)
theorem putL_length_le : ∀ (l : List Txt) (w : Txt), (putL l w).length ≤ l.length + 1
 | [], w => by simp [putL]
 | x :: r, w => by
  have := putL_length_le r w
  by_cases h1 : x < w
  ·
   simp only [putL, if_pos h1, List.length_cons]; omega
  ·
   by_cases h2 : x = w
   ·
    simp only [putL, if_neg h1, if_pos h2, List.length_cons]; omega
   ·
    simp only [putL, if_neg h1, if_neg h2, List.length_cons]; omega
end Go.Proofs.YtjpepfdpihojfaaDoor.M
namespace Go.Proofs.YtjpepfdpihojfaaDoor.L
open Go.RowKit Go.Proofs.YtjpepfdpihojfaaDoor.P Go.Proofs.YtjpepfdpihojfaaDoor.M Go.Proofs.YtjpepfdpihojfaaDoorW.PrintWords Go.Proofs.YtjpepfdpihojfaaDoorW.PrintLast Go.Proofs.YtjpepfdpihojfaaDoorW.PrintMore
set_option linter.unusedVariables false
def sgn (c : UInt8) : Bool := c == 63 || c == 42 || letterB c
def pat (l : Txt) : Bool := l.all sgn && decide (l.length ≤ 14)
theorem sgn_63 (c : UInt8) (h : (c.toNat : Int) = 63) : sgn c = true := by
 have : c = 63 := UInt8.toNat_inj.1 (by show c.toNat = 63; omega)
 subst this; rfl
theorem sgn_42 (c : UInt8) (h : (c.toNat : Int) = 42) : sgn c = true := by
 have : c = 42 := UInt8.toNat_inj.1 (by show c.toNat = 42; omega)
 subst this; rfl
theorem sgn_else (c : UInt8) (h1 : ¬ (c.toNat : Int) = 63) (h2 : ¬ (c.toNat : Int) = 42) : sgn c = letterB c := by
 have a1 : (c == 63) = false := beq_eq_false_iff_ne.2 (fun e => h1 (by rw [e]; rfl))
 have a2 : (c == 42) = false := beq_eq_false_iff_ne.2 (fun e => h2 (by rw [e]; rfl))
 unfold sgn
 rw [a1, a2]; rfl
theorem l6Pattern_loop (l : Txt) (hl : l.length ≤ 4611686018427387903) : ∀ (d n : Nat), n + d = l.length → Ev (fun k => spec_l6Pattern.l0 k (B l) (n : Int)) ((l.drop n).all sgn && decide (l.length ≤ 14)) := by
 have last : ∀ n : Nat, Ev (fun k => spec_l6Pattern.j1 k (B l) (n : Int) false) (decide (l.length ≤ 14)) := by
  intro n
  refine Ev.step (fun k => spec_l6Pattern.j1.eq_2 ..) (Ev.ifF (by simp) ?_)
  have : decide (((B l).size : Int) ≤ 14) = decide (l.length ≤ 14) := by simp; omega
  rw [this]; exact Ev.now _
 intro d
 induction d with
 | zero =>
  intro n hn
  refine Ev.step (fun k => spec_l6Pattern.l0.eq_2 ..) (Ev.ifF (by simp; omega) ?_)
  rw [List.drop_of_length_le (by omega)]; simpa using last n
 | succ d ih =>
  intro n hn
  have h1 : n < l.length := by omega
  refine Ev.step (fun k => spec_l6Pattern.l0.eq_2 ..) (Ev.ifT (by simp; omega) ?_)
  rw [drop_cons_getD 0 h1]
  by_cases h14 : n ≤ 14
  ·
   rw [show decide ((n : Int) ≤ 14) = true from by simp; omega]
   refine Ev.step (fun k => spec_l6Pattern.j1.eq_2 ..) (Ev.ifT rfl (Ev.ifT (by omega) (Ev.ifT (by simp; omega) ?_)))
   simp only [bt_B l n h1]
   have tl := ih (n + 1) (by omega)
   by_cases c63 : ((l.getD n 0).toNat : Int) = 63
   ·
    refine Ev.ifT c63 ?_
    simpa only [wrap64_succ n (by omega), List.all_cons, sgn_63 _ c63, Bool.true_and] using tl
   refine Ev.ifF c63 ?_
   by_cases c42 : ((l.getD n 0).toNat : Int) = 42
   ·
    refine Ev.ifT c42 ?_
    simpa only [wrap64_succ n (by omega), List.all_cons, sgn_42 _ c42, Bool.true_and] using tl
   refine Ev.ifF c42 ?_
   by_cases ha : ((l.getD n 0).toNat : Int) < 97
   ·
    refine Ev.ifT ha ?_
    have : letterB (l.getD n 0) = false := by simp only [letterB, decide_eq_false_iff_not]; omega
    simpa only [List.all_cons, sgn_else _ c63 c42, this, Bool.false_and] using Ev.now false
   refine Ev.ifF ha ?_
   by_cases hz : ((l.getD n 0).toNat : Int) > 122
   ·
    refine Ev.ifT hz ?_
    have : letterB (l.getD n 0) = false := by simp only [letterB, decide_eq_false_iff_not]; omega
    simpa only [List.all_cons, sgn_else _ c63 c42, this, Bool.false_and] using Ev.now false
   refine Ev.ifF hz ?_
   have : letterB (l.getD n 0) = true := by simp only [letterB, decide_eq_true_eq]; omega
   simpa only [wrap64_succ n (by omega), List.all_cons, sgn_else _ c63 c42, this, Bool.true_and] using tl
  ·
   rw [show decide ((n : Int) ≤ 14) = false from by simp; omega]
   have : ((l.getD n 0 :: l.drop (n + 1)).all sgn && decide (l.length ≤ 14)) = decide (l.length ≤ 14) := by
    have : decide (l.length ≤ 14) = false := by simp; omega
    rw [this]; simp
   rw [this]; exact last n
theorem l6Pattern_ev (l : Txt) (hl : l.length ≤ 4611686018427387903) : Ev (fun k => spec_l6Pattern.f k (B l)) (pat l) := by
 simpa [spec_l6Pattern.f, pat] using l6Pattern_loop l hl l.length 0 (by omega)
theorem areLettersP_eq (l : List UInt8) (hl : l.length ≤ 9223372036854775807) : impl_areLetters.f (B l) = some (l.all letterB) := by
 unfold impl_areLetters.f
 rw [if_pos (by simpa using hl), data_B]
 rfl
theorem keep_all : ∀ l : Txt, (l.filter impl_isPattern.keep).all letterB = l.all sgn
 | [] => rfl
 | c :: l => by
  rw [List.filter_cons, List.all_cons, ← keep_all l]
  by_cases h1 : c = 63
  ·
   subst h1; rfl
  by_cases h2 : c = 42
  ·
   subst h2; rfl
  have hk : impl_isPattern.keep c = true := by
   unfold impl_isPattern.keep
   rw [Bool.and_eq_true, bne_iff_ne, bne_iff_ne]; exact ⟨h2, h1⟩
  rw [if_pos hk, List.all_cons, sgn_else c (fun e => h1 (UInt8.toNat_inj.1 (by show c.toNat = 63; omega))) (fun e => h2 (UInt8.toNat_inj.1 (by show c.toNat = 42; omega)))]
theorem isPattern_eq (l : Txt) : impl_isPattern.f (B l) = some (pat l) := by
 unfold impl_isPattern.f pat
 by_cases h : l.length ≤ 14
 ·
  rw [if_pos (by simpa using h)]
  have e : impl_isPattern.strip (B l) = B (l.filter impl_isPattern.keep) := by
   unfold impl_isPattern.strip
   rw [data_B]; rfl
  have hl := List.length_filter_le impl_isPattern.keep l
  rw [e, areLettersP_eq _ (by omega), keep_all]
  simp [h]
 ·
  rw [if_neg (by simpa using h)]; simp [h]
end Go.Proofs.YtjpepfdpihojfaaDoor.L
namespace Go.Proofs.YtjpepfdpihojfaaDoor.Pure
open Go.RowKit Go.Proofs.YtjpepfdpihojfaaDoor.P Go.Proofs.YtjpepfdpihojfaaDoor.M Go.Proofs.YtjpepfdpihojfaaDoorW.PrintWords Go.Proofs.YtjpepfdpihojfaaDoorW.PrintLast Go.Proofs.YtjpepfdpihojfaaDoorW.PrintMore
set_option linter.unusedVariables false
open Go.Proofs.YtjpepfdpihojfaaDoor.L
namespace Plain
def st (s : Bool) : Txt := if s = true then [42] else []
def plainL : Txt → Txt → Bool → Txt
 | [], out, s => out ++ st s
 | c :: r, out, s => if (c.toNat : Int) = 42 then plainL r out true else if (c.toNat : Int) = 63 then plainL r (out ++ [63]) s else plainL r (out ++ st s ++ [c]) false
theorem st_len (s : Bool) : (st s).length ≤ 1 := by cases s <;> simp [st]
theorem one (l : Txt) (n : Nat) (h : n < l.length) : (B l).extract (n : Int).toNat ((n + 1 : Nat) : Int).toNat = B [l.getD n 0] := by
 simp only [Int.toNat_natCast, extract_B]
 rw [drop_cons_getD 0 h, show n + 1 - n = 1 from by omega]; rfl
theorem spec_loop (l : Txt) (hl : l.length ≤ 14) : ∀ (d n : Nat) (out : Txt) (s : Bool), n + d = l.length → out.length ≤ 2 * n → Ev (fun k => spec_PlainPattern.l0 k (B l) (B out) s (n : Int)) (B (plainL (l.drop n) out s), true) := by
 intro d
 induction d with
 | zero =>
  intro n out s h ho
  refine Ev.step (fun k => spec_PlainPattern.l0.eq_2 ..) (Ev.ifF (by simp; omega) ?_)
  rw [List.drop_of_length_le (by omega), plainL]
  cases s with
  | true => refine Ev.ifT rfl (Ev.ifT (by rw [size_B]; omega) ?_); exact (append_B out [42]) ▸ Ev.now _
  | false => refine Ev.ifF (by simp) ?_; rw [st, if_neg (by simp), List.append_nil]; exact Ev.now _
 | succ d ih =>
  intro n out s h ho
  have h1 : n < l.length := by omega
  refine Ev.step (fun k => spec_PlainPattern.l0.eq_2 ..) (Ev.ifT (by simp; omega) (Ev.ifT (by omega) ?_))
  rw [drop_cons_getD 0 h1, plainL]
  simp only [bt_B l n h1, wrap64_succ n (by omega), one l n h1]
  generalize l.getD n 0 = c
  by_cases c42 : (c.toNat : Int) = 42
  ·
   refine Ev.ifT c42 ?_
   rw [if_pos c42]
   exact ih (n + 1) out true (by omega) (by omega)
  refine Ev.ifF c42 ?_
  rw [if_neg c42]
  by_cases c63 : (c.toNat : Int) = 63
  ·
   refine Ev.ifT c63 (Ev.ifT (by rw [size_B]; omega) ?_)
   rw [if_pos c63, show (⟨#[63]⟩ : ByteArray) = B [63] from rfl, append_B]
   exact ih (n + 1) (out ++ [63]) s (by omega) (by rw [List.length_append, List.length_singleton]; omega)
  refine Ev.ifF c63 ?_
  rw [if_neg c63]
  have tl := ih (n + 1) (out ++ st s ++ [c]) false (by omega) (by have := st_len s; simp only [List.length_append, List.length_singleton]; omega)
  cases s with
  | true =>
   refine Ev.ifT rfl (Ev.ifT (by rw [size_B]; omega) (Ev.ifT (by omega) (Ev.ifT (by rw [size_B]; omega) ?_)))
   rw [show (⟨#[42]⟩ : ByteArray) = B [42] from rfl, append_B]
   refine Ev.ifT (by rw [size_B, size_B]; simp only [List.length_append, List.length_singleton]; omega) ?_
   rw [append_B]
   exact tl
  | false =>
   rw [st, if_neg (by simp), List.append_nil] at tl ⊢
   refine Ev.ifF (by simp) (Ev.ifT (by omega) (Ev.ifT (by rw [size_B]; omega) (Ev.ifT (by rw [size_B, size_B]; simp only [List.length_singleton]; omega) ?_)))
   rw [append_B]
   exact tl
theorem impl_loop (l : Txt) (hl : l.length ≤ 14) : ∀ (d n : Nat) (out : Txt) (s : Bool), n + d = l.length → out.length ≤ 2 * n → Ev (fun k => impl_PlainPattern.l0 k (B l) (B out) (B (st s)) (l.length : Int) (n : Int)) (B (plainL (l.drop n) out s), true) := by
 intro d
 induction d with
 | zero =>
  intro n out s h ho
  have := st_len s
  refine Ev.step (fun k => impl_PlainPattern.l0.eq_2 ..) (Ev.ifF (by omega) (Ev.ifT (by rw [size_B, size_B]; omega) ?_))
  rw [List.drop_of_length_le (by omega), plainL, append_B]
  exact Ev.now _
 | succ d ih =>
  intro n out s h ho
  have h1 : n < l.length := by omega
  have hs := st_len s
  refine Ev.step (fun k => impl_PlainPattern.l0.eq_2 ..) (Ev.ifT (by omega) (Ev.ifT (by omega) (Ev.ifT (by simp; omega) ?_)))
  rw [drop_cons_getD 0 h1, plainL]
  simp only [bt_B l n h1, wrap64_succ n (by omega), one l n h1]
  generalize l.getD n 0 = c
  by_cases c42 : (c.toNat : Int) = 42
  ·
   refine Ev.ifT c42 ?_
   rw [if_pos c42]
   exact ih (n + 1) out true (by omega) (by omega)
  refine Ev.ifF c42 ?_
  rw [if_neg c42]
  by_cases c63 : (c.toNat : Int) = 63
  ·
   refine Ev.ifT c63 (Ev.ifT (by rw [size_B]; omega) ?_)
   rw [if_pos c63, show (⟨#[63]⟩ : ByteArray) = B [63] from rfl, append_B]
   exact ih (n + 1) (out ++ [63]) s (by omega) (by rw [List.length_append, List.length_singleton]; omega)
  refine Ev.ifF c63 ?_
  rw [if_neg c63]
  refine Ev.ifT (by omega) (Ev.ifT (by rw [size_B]; omega) (Ev.ifT (by rw [size_B, size_B]; simp only [List.length_singleton]; omega) ?_))
  rw [append_B]
  refine Ev.ifT (by rw [size_B, size_B]; simp only [List.length_append, List.length_singleton]; omega) ?_
  rw [append_B, ← List.append_assoc]
  exact ih (n + 1) (out ++ st s ++ [c]) false (by omega) (by simp only [List.length_append, List.length_singleton]; omega)
end Plain
theorem FnExactPlainPattern : laws_FnExactPlainPattern.Pure := by
 intro a _
 obtain ⟨l, rfl⟩ := exB a
 by_cases hb : ((B l).size : Int) > 1048576
 ·
  exact ⟨0, by unfold laws_FnExactPlainPattern.f; rw [if_pos hb]⟩
 have hl : l.length ≤ 1048576 := by rw [size_B] at hb; omega
 have both : ∃ r : ByteArray × Bool, Ev (fun k => spec_PlainPattern.f k (B l)) r ∧ Ev (fun k => impl_PlainPattern.f k (B l)) r := by
  unfold spec_PlainPattern.f impl_PlainPattern.f
  rw [isPattern_eq]
  have e1 := l6Pattern_ev l (by omega)
  cases h1 : pat l with
  | false => rw [h1] at e1; exact ⟨(⟨#[]⟩, false), Ev.bind e1 (Ev.ifF (by simp) (Ev.now _)), Ev.some_bind (Ev.ifF (by simp) (Ev.now _))⟩
  | true =>
   rw [h1] at e1
   have h14 : l.length ≤ 14 := by unfold pat at h1; simp at h1; exact h1.2
   refine ⟨(B (Plain.plainL l [] false), true), Ev.bind e1 (Ev.ifT rfl ?_), Ev.some_bind (Ev.ifT rfl ?_)⟩
   ·
    simpa using Plain.spec_loop l h14 l.length 0 [] false (by omega) (by simp)
   ·
    rw [size_B]
    exact Plain.impl_loop l h14 l.length 0 [] false (by omega) (by simp)
 obtain ⟨r, h1, h2⟩ := both
 refine Ev.rounds ?_
 unfold laws_FnExactPlainPattern.f
 exact Ev.ifF hb (Ev.bind h1 (Ev.bind h2 (Ev.ifT rfl (Ev.ifF (by simp) (Ev.now _)))))
end Go.Proofs.YtjpepfdpihojfaaDoor.Pure
namespace Go.Proofs.YtjpepfdpihojfaaDoor.fnExactPlainPattern
open Go.ChangeShapes Go.WideShapes Go.ChangeAt Go.RowKit
open Go.ChangeMaps (open_string shut_string)
set_option linter.unusedVariables false
def laidL : List (String × DataW Unit) := [("unicode/utf8.acceptRanges", Rows.laid_unicode_utf8_acceptRanges), ("unicode/utf8.first", Rows.laid_unicode_utf8_first)]
theorem own : ownKnob Tryd.prog.godebug = none := by kernel_rfl
set_option maxRecDepth 100000 in
theorem lifted (os : Os) (started : os.Started) (H : Type) (enc : TypeId × Value → H) :
    ReturnsInHanded {} Tryd.checked os 3 .any (fun w args => (Rows.fnExactPlainPatternSpec.pre enc Tryd.prog Tryd.f3 [] false w args ∧ laidMetH Tryd.prog laidL w) ∧ sizedMet enc Tryd.prog Tryd.f3 (OpenSpec.ofChange Rows.fnExactPlainPatternSpec) false w args) (Rows.fnExactPlainPatternSpec.post enc Tryd.prog Tryd.f3 false true false false) := by
  refine returnsInHanded_of_change_and (C := Tryd.checked) (X := fun w _ => laidMetH Tryd.prog laidL w) (fun _ _ _ hh h => h.of_heap hh) own started (by kernel_rfl) Tryd.func3
    (ChangeSpec.witness_shaped (enc := enc) (C := Tryd.checked) (os := os) (X := fun w _ => laidMetH Tryd.prog laidL w) false (World.laidAll Tryd.prog os laidL) #[.string ByteArray.empty] 8 (World.laidAll_os _ _ _) (World.shaped_of_ZipB (by kernel_rfl) (by kernel_rfl)) (by kernel_rfl) (by kernel_rfl) (by kernel_rfl)
      (by rw [MakeChecks.laidMetH_plain _ _ _ (by kernel_rfl)]; exact laidMet_laidAll _ (by kernel_rfl) (by kernel_rfl))) ?_
  intro W base args ds gs before hval0 hW hcnd hsz0 hL_ _
  have hsz : (DataW.weightsEach Tryd.prog (Tryd.f3.params.toList ++ Rows.fnExactPlainPatternSpec.plain.varTypes Tryd.prog) (ds ++ gs)).all (· ≤ reachBytes) = true := hsz0
  have hval : ∀ (j : Nat) t v, Tryd.f3.params[j]? = some t → args[j]? = some v → Value.okWide Tryd.prog W .any base t v := hval0
  have hW' := hW
  obtain ⟨p, q, hA0, hV, rfl, hfz, hnd⟩ := hW
  have hA : DataW.TrodAll enc Tryd.prog W 0 (fun _ => true) true Tryd.f3.params.toList args.toList ds p := hA0
  rw [Tryd.params3] at hA hval hsz
  obtain ⟨v0, vs0, d0, ds0, p0, q0, hargs, rfl, rfl, h0, r0⟩ := trodAll_cons hA
  obtain ⟨rfl, rfl, rfl⟩ := trodAll_nil r0
  obtain rfl : args = #[v0] := by cases args; simp_all
  obtain ⟨rfl, rfl⟩ := trodVars_none hV
  obtain ⟨a0, rfl, rfl, rfl, y0⟩ := open_string Tryd.underlying9 (hval 0 9 v0 rfl rfl) h0
  have w0 : a0.size ≤ 140737488351232 := by
    have z := sized_string hsz (j := 0) (t := 9) rfl rfl
    rw [Array.length_toList] at z
    exact z
  clear hA0 hval0 hsz0 hsz
  refine (P.laws_FnExactPlainPattern.walk Pure.FnExactPlainPattern a0 W w0).mono fun e W' ⟨he, bel⟩ => ?_
  subst he
  exact ⟨_, rfl, _, _, _, [], _, [], hW', trodAll_mk1 (shut_bool Tryd.underlying4 _), (trodAll_cons_mk (shut_string Tryd.underlying9 y0) trodAll_mk0), rfl, bel.frame _, fun h => by cases h⟩
theorem over : Rows.fnExactPlainPatternRow.holds Tryd.pinned (OpenSpec.ofChange Rows.fnExactPlainPatternSpec) :=
  OpenClaim.holds_of_wide 3 Tryd.f3 rfl rfl rfl rfl rfl rfl rfl ⟨rfl, rfl, rfl, rfl, rfl⟩ rfl rfl rfl rfl rfl (by kernel_rfl) Tryd.func3 (by kernel_rfl)
    (of_decide_eq_true (by kernel_rfl)) (by unfold Func.isWrapper; first | (rw [if_pos (by decide +kernel)]; kernel_rfl) | (rw [if_neg (by decide +kernel)]; exact ⟨rfl, rfl⟩))
    (fun os started H enc _ => lifted os started H enc)
theorem proved : Rows.FnExactPlainPatternSaid := over
end Go.Proofs.YtjpepfdpihojfaaDoor.fnExactPlainPattern
namespace Go.Proofs.YtjpepfdpihojfaaDoor
theorem fnExactPlainPattern_holds : Rows.FnExactPlainPatternSaid := fnExactPlainPattern.proved
theorem fnExactPlainPattern_card : Rows.FnExactPlainPatternCardSaid :=
  Claim7.holds_tied_plain_at .later [] [.data, .pinned] true (true, "497999dd9593592e935f961e182575549c7f0a2124567c0f76f3c62c40878dc6") true
    fnExactPlainPattern_holds (fun _ h => by cases h) (by kernel_rfl) (fun _ h => by cases h) fnExactPlainPattern_row_tie rfl ⟨rfl, rfl⟩ (by kernel_rfl) rfl
    (fun f fn hf hfn => by
      obtain rfl : f = 3 := Option.some.inj ((show Tryd.prog.funcNamed "loop.example/g01243/laws.FnExactPlainPattern" = some 3 by kernel_rfl).symm.trans hf) |>.symm
      obtain rfl : fn = Tryd.f3 := (Option.some.inj (Tryd.func3.symm.trans hfn)).symm
      exact ⟨by kernel_rfl, fun j t ht => by
        rw [Tryd.params3] at ht
        have hm : t ∈ [9] := by simpa using Array.mem_of_getElem? ht
        have hall : ([9].all fun u => !Tryd.prog.wantsStandIn u) = true := by kernel_rfl
        exact (show Tryd.prog.wantsStandIn t = false by simpa using List.all_eq_true.1 hall t hm)⟩)
    (by kernel_rfl)
end Go.Proofs.YtjpepfdpihojfaaDoor
