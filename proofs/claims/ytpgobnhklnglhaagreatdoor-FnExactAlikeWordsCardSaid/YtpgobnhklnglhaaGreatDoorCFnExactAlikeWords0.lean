/-
  Part 1 of the proof that FnExactAlikeWords returns true for every input: the functions that it reaches, each with its contract, and the law.
  Conditions: those of the given statement, no others.
-/
import Derived.Test.YtpgobnhklnglhaaGreatDoorKNW0
import Derived.Shelf.Abstract
import Derived.Deep.RegionWith
import Derived.Deep.QuietTactic
import Derived.BigQuiet
import Derived.Test.YtpgobnhklnglhaaGreatDoorRows
import Derived.WalkKit
import Derived.ProofKit
import Derived.OpenShut
import Derived.ShutString
import Derived.ChangeOld
import Derived.Below
import Derived.SizedLaws
import Derived.Lay
import Derived.LaidOnce
import Derived.SevenTiedAt
import Derived.Test.YtpgobnhklnglhaaGreatDoorCards
import Derived.Test.YtpgobnhklnglhaaGreatDoorTie
import Derived.Test.YtpgobnhklnglhaaGreatDoorKN0
import Derived.Test.YtpgobnhklnglhaaGreatDoorKN1
import Derived.Test.YtpgobnhklnglhaaGreatDoorKN2
import Derived.Test.YtpgobnhklnglhaaGreatDoorKN3
set_option linter.unusedVariables false
set_option linter.unusedSimpArgs false
set_option maxHeartbeats 8000000
set_option maxRecDepth 100000
namespace Go.Proofs.YtpgobnhklnglhaaGreatDoor.P
open Go.RowKit Go.Proofs.YtpgobnhklnglhaaGreatDoorW.PrintWords Go.Proofs.YtpgobnhklnglhaaGreatDoorW.PrintLast Go.Proofs.YtpgobnhklnglhaaGreatDoorW.PrintMore
attribute [local go_sem] max2_int min2_int max_two min_two max_three min_three max_four min_four
def spec_l6Difference.l0 : Nat → ByteArray → ByteArray → Int → Int → Option (Int)
 | 0, _, _, _, _ => none
 | k + 1, x0, x1, x5, x6 => if x6 < (x0.size : Int) then (if 0 ≤ x6 then (if x6 < (x1.size : Int) then (if (bt x0 x6) = (bt x1 x6) then (spec_l6Difference.l0 k x0 x1 x5 (wrap64 (x6 + 1))) else (spec_l6Difference.l0 k x0 x1 (wrap64 (x5 + 1)) (wrap64 (x6 + 1)))) else (none)) else (none)) else (some x5)
def spec_l6Difference.f (k : Nat) (a0 : ByteArray) (a1 : ByteArray) : Option (Int) := spec_l6Difference.l0 k a0 a1 0 0
theorem spec_l6Difference.mono_l : ∀ k, (∀ y0 y1 y2 y3, LeO (spec_l6Difference.l0 k y0 y1 y2 y3) (spec_l6Difference.l0 (k + 1) y0 y1 y2 y3))
 | 0 => fun _ _ _ _ r h => by simp [spec_l6Difference.l0] at h
 | k + 1 => by
  have ih0 := spec_l6Difference.mono_l k
  ·
   intro y0 y1 y2 y3
   unfold spec_l6Difference.l0
   repeat' with_reducible first | exact ih0 _ _ _ _ | exact LeO.refl _ | exact LeO.none _ | refine LeO.ite ?_ ?_ | refine LeO.bind ?_ (fun _ => ?_)
theorem spec_l6Difference.mono : ∀ a0 a1 k, LeO (spec_l6Difference.f k a0 a1) (spec_l6Difference.f (k + 1) a0 a1) := by
 intro a0 a1 k
 have ih0 := spec_l6Difference.mono_l k
 unfold spec_l6Difference.f
 repeat' with_reducible first | exact ih0 _ _ _ _ | exact LeO.refl _ | exact LeO.none _ | refine LeO.ite ?_ ?_ | refine LeO.bind ?_ (fun _ => ?_)
theorem spec_l6Difference.calls (k : Nat) (a0 : ByteArray) (a1 : ByteArray) (r : Int) (w : World) (h : spec_l6Difference.f k a0 a1 = some r) :
  Calls Tryz.prog 23 #[.string a0, .string a1] w fun e w' => e = .returned (.int .i64 r) ∧ Drawn0 w w' := by
 have H : (spec_l6Difference.l0 k a0 a1 0 0) = some r := h
 clear h
 have H' := Aside0.mk H
 clear H
 go_enter Tryz.func23, Tryz.ntmps23
 go_wp2
 repeat (go_quiet (fail); try go_wp2)
 go_loopg [5, 6] k (fun kq v5 v6 w' => ∃ (x5_1 : Int) (x6_1 : Int), v5 = .int .i64 x5_1 ∧ v6 = .int .i64 x6_1 ∧ Aside0 (spec_l6Difference.l0 kq a0 a1 x5_1 x6_1 = some r) ∧ Aside0 (kq ≤ k) ∧ Drawn0 w w')
 case atStart => exact ⟨(0), (0), (by first | rfl | (simp; done) | (simp [*]; done)), (by first | rfl | (simp; done) | (simp [*]; done)), H', ⟨Nat.le_refl _⟩, by repeat (first | exact Drawn0.refl _ | apply Drawn0.step)⟩
 case round =>
  clear H'
  try clear c2
  try clear p2
  obtain ⟨x5_1, x6_1, rfl, rfl, HA, HK1, ⟨m1, rfl⟩⟩ := hrel
  cases gk with
  | zero => exact absurd HA.out (by simp [spec_l6Difference.l0])
  | succ k1 =>
   have H := HA.out
   clear HA
   simp only [spec_l6Difference.l0] at H
   by_cases c3 : x6_1 < (a0.size : Int)
   ·
    rw [if_pos c3] at H
    have c3b0 : decide (x6_1 < (a0.size : Int)) = true := decide_eq_true c3
    clear c3
    by_cases c4 : 0 ≤ x6_1
    ·
     rw [if_pos c4] at H
     have c4b0 : decide (0 ≤ x6_1) = true := decide_eq_true c4
     clear c4
     by_cases c6 : x6_1 < (a1.size : Int)
     ·
      rw [if_pos c6] at H
      have c6b0 : decide (x6_1 < (a1.size : Int)) = true := decide_eq_true c6
      clear c6
      by_cases c8 : (bt a0 x6_1) = (bt a1 x6_1)
      ·
       rw [if_pos c8] at H
       have c8b0 : ((bt a0 x6_1) == (bt a1 x6_1)) = true := beq_iff_eq.mpr c8
       have c8b1 : ((bt a0 x6_1) != (bt a1 x6_1)) = false := bne_eq_false_iff_eq.mpr c8
       clear c8
       have H' := Aside0.mk H
       clear H
       have p5 : 0 ≤ (x6_1 : Int) := of_decide_eq_true (by first | (with_reducible assumption) | assumption)
       have q5 : x6_1 < (a0.size : Int) := of_decide_eq_true (by first | (with_reducible assumption) | assumption)
       have hx5 := bt_at a0 x6_1
       replace p5 := eq_true p5
       replace q5 := eq_true q5
       have p7 : 0 ≤ (x6_1 : Int) := of_decide_eq_true (by first | (with_reducible assumption) | assumption)
       have q7 : x6_1 < (a1.size : Int) := of_decide_eq_true (by first | (with_reducible assumption) | assumption)
       have hx7 := bt_at a1 x6_1
       replace p7 := eq_true p7
       replace q7 := eq_true q7
       go_wp2
       repeat (go_quiet (fail); try go_wp2)
       go_roundg k1
       case measure => have := HK1.out; omega
       case rel => exact ⟨(x5_1), (wrap64 (x6_1 + 1)), (by first | rfl | (simp; done) | (simp [*]; done)), (by first | rfl | (simp; done) | (simp [*]; done)), H', ⟨by have := HK1.out; omega⟩, by repeat (first | exact Drawn0.refl _ | apply Drawn0.step)⟩
      ·
       rw [if_neg c8] at H
       have c8b0 : ((bt a0 x6_1) == (bt a1 x6_1)) = false := beq_eq_false_iff_ne.mpr c8
       have c8b1 : ((bt a0 x6_1) != (bt a1 x6_1)) = true := bne_iff_ne.mpr c8
       have H' := Aside0.mk H
       clear H
       have p5 : 0 ≤ (x6_1 : Int) := of_decide_eq_true (by first | (with_reducible assumption) | assumption)
       have q5 : x6_1 < (a0.size : Int) := of_decide_eq_true (by first | (with_reducible assumption) | assumption)
       have hx5 := bt_at a0 x6_1
       replace p5 := eq_true p5
       replace q5 := eq_true q5
       have p7 : 0 ≤ (x6_1 : Int) := of_decide_eq_true (by first | (with_reducible assumption) | assumption)
       have q7 : x6_1 < (a1.size : Int) := of_decide_eq_true (by first | (with_reducible assumption) | assumption)
       have hx7 := bt_at a1 x6_1
       replace p7 := eq_true p7
       replace q7 := eq_true q7
       go_wp2
       repeat (go_quiet (fail); try go_wp2)
       go_roundg k1
       case measure => have := HK1.out; omega
       case rel => exact ⟨(wrap64 (x5_1 + 1)), (wrap64 (x6_1 + 1)), (by first | rfl | (simp; done) | (simp [*]; done)), (by first | rfl | (simp; done) | (simp [*]; done)), H', ⟨by have := HK1.out; omega⟩, by repeat (first | exact Drawn0.refl _ | apply Drawn0.step)⟩
     ·
      rw [if_neg c6] at H
      exact absurd H (by simp)
    ·
     rw [if_neg c4] at H
     exact absurd H (by simp)
   ·
    rw [if_neg c3] at H
    have c3b0 : decide (x6_1 < (a0.size : Int)) = false := decide_eq_false c3
    clear c3
    obtain rfl := Option.some.inj H
    go_wp2
    repeat (go_quiet (fail); try go_wp2)
    go_ret
    exact ⟨by first | rfl | (simp; done) | (simp [*]; done), by repeat (first | exact Drawn0.refl _ | apply Drawn0.step)⟩
def impl_difference.l0 : Nat → ByteArray → ByteArray → Int → Int → Int → Option (Int)
 | 0, _, _, _, _, _ => none
 | k + 1, x0, x1, x5, x8, x9 => if x9 < x8 then (if 0 ≤ x9 then (if x9 < (x0.size : Int) then (if x9 < (x1.size : Int) then (if (bt x0 x9) = (bt x1 x9) then (impl_difference.l0 k x0 x1 x5 x8 (wrap64 (x9 + 1))) else (impl_difference.l0 k x0 x1 (wrap64 (x5 + 1)) x8 (wrap64 (x9 + 1)))) else (none)) else (none)) else (none)) else (some x5)
def impl_difference.f (k : Nat) (a0 : ByteArray) (a1 : ByteArray) : Option (Int) := impl_difference.l0 k a0 a1 0 (a0.size : Int) 0
theorem impl_difference.mono_l : ∀ k, (∀ y0 y1 y2 y3 y4, LeO (impl_difference.l0 k y0 y1 y2 y3 y4) (impl_difference.l0 (k + 1) y0 y1 y2 y3 y4))
 | 0 => fun _ _ _ _ _ r h => by simp [impl_difference.l0] at h
 | k + 1 => by
  have ih0 := impl_difference.mono_l k
  ·
   intro y0 y1 y2 y3 y4
   unfold impl_difference.l0
   repeat' with_reducible first | exact ih0 _ _ _ _ _ | exact LeO.refl _ | exact LeO.none _ | refine LeO.ite ?_ ?_ | refine LeO.bind ?_ (fun _ => ?_)
theorem impl_difference.mono : ∀ a0 a1 k, LeO (impl_difference.f k a0 a1) (impl_difference.f (k + 1) a0 a1) := by
 intro a0 a1 k
 have ih0 := impl_difference.mono_l k
 unfold impl_difference.f
 repeat' with_reducible first | exact ih0 _ _ _ _ _ | exact LeO.refl _ | exact LeO.none _ | refine LeO.ite ?_ ?_ | refine LeO.bind ?_ (fun _ => ?_)
theorem impl_difference.calls (k : Nat) (a0 : ByteArray) (a1 : ByteArray) (r : Int) (w : World) (h : impl_difference.f k a0 a1 = some r) :
  Calls Tryz.prog 29 #[.string a0, .string a1] w fun e w' => e = .returned (.int .i64 r) ∧ Drawn0 w w' := by
 have H : (impl_difference.l0 k a0 a1 0 (a0.size : Int) 0) = some r := h
 clear h
 have H' := Aside0.mk H
 clear H
 go_enter Tryz.func29, Tryz.ntmps29
 go_wp2
 repeat (go_quiet (fail); try go_wp2)
 go_loopg [5, 9] k (fun kq v5 v9 w' => ∃ (x5_1 : Int) (x9_1 : Int), v5 = .int .i64 x5_1 ∧ v9 = .int .i64 x9_1 ∧ Aside0 (impl_difference.l0 kq a0 a1 x5_1 (a0.size : Int) x9_1 = some r) ∧ Aside0 (kq ≤ k) ∧ Drawn0 w w')
 case atStart => exact ⟨(0), (0), (by first | rfl | (simp; done) | (simp [*]; done)), (by first | rfl | (simp; done) | (simp [*]; done)), H', ⟨Nat.le_refl _⟩, by repeat (first | exact Drawn0.refl _ | apply Drawn0.step)⟩
 case round =>
  clear H'
  try clear c2
  try clear p2
  obtain ⟨x5_1, x9_1, rfl, rfl, HA, HK1, ⟨m1, rfl⟩⟩ := hrel
  cases gk with
  | zero => exact absurd HA.out (by simp [impl_difference.l0])
  | succ k1 =>
   have H := HA.out
   clear HA
   simp only [impl_difference.l0] at H
   by_cases c3 : x9_1 < (a0.size : Int)
   ·
    rw [if_pos c3] at H
    have c3b0 : decide (x9_1 < (a0.size : Int)) = true := decide_eq_true c3
    clear c3
    by_cases c4 : 0 ≤ x9_1
    ·
     rw [if_pos c4] at H
     have c4b0 : decide (0 ≤ x9_1) = true := decide_eq_true c4
     clear c4
     by_cases c5 : x9_1 < (a0.size : Int)
     ·
      rw [if_pos c5] at H
      have c5b0 : decide (x9_1 < (a0.size : Int)) = true := decide_eq_true c5
      clear c5
      by_cases c7 : x9_1 < (a1.size : Int)
      ·
       rw [if_pos c7] at H
       have c7b0 : decide (x9_1 < (a1.size : Int)) = true := decide_eq_true c7
       clear c7
       by_cases c9 : (bt a0 x9_1) = (bt a1 x9_1)
       ·
        rw [if_pos c9] at H
        have c9b0 : ((bt a0 x9_1) == (bt a1 x9_1)) = true := beq_iff_eq.mpr c9
        have c9b1 : ((bt a0 x9_1) != (bt a1 x9_1)) = false := bne_eq_false_iff_eq.mpr c9
        clear c9
        have H' := Aside0.mk H
        clear H
        have p6 : 0 ≤ (x9_1 : Int) := of_decide_eq_true (by first | (with_reducible assumption) | assumption)
        have q6 : x9_1 < (a0.size : Int) := of_decide_eq_true (by first | (with_reducible assumption) | assumption)
        have hx6 := bt_at a0 x9_1
        replace p6 := eq_true p6
        replace q6 := eq_true q6
        have p8 : 0 ≤ (x9_1 : Int) := of_decide_eq_true (by first | (with_reducible assumption) | assumption)
        have q8 : x9_1 < (a1.size : Int) := of_decide_eq_true (by first | (with_reducible assumption) | assumption)
        have hx8 := bt_at a1 x9_1
        replace p8 := eq_true p8
        replace q8 := eq_true q8
        go_wp2
        repeat (go_quiet (fail); try go_wp2)
        go_roundg k1
        case measure => have := HK1.out; omega
        case rel => exact ⟨(x5_1), (wrap64 (x9_1 + 1)), (by first | rfl | (simp; done) | (simp [*]; done)), (by first | rfl | (simp; done) | (simp [*]; done)), H', ⟨by have := HK1.out; omega⟩, by repeat (first | exact Drawn0.refl _ | apply Drawn0.step)⟩
       ·
        rw [if_neg c9] at H
        have c9b0 : ((bt a0 x9_1) == (bt a1 x9_1)) = false := beq_eq_false_iff_ne.mpr c9
        have c9b1 : ((bt a0 x9_1) != (bt a1 x9_1)) = true := bne_iff_ne.mpr c9
        have H' := Aside0.mk H
        clear H
        have p6 : 0 ≤ (x9_1 : Int) := of_decide_eq_true (by first | (with_reducible assumption) | assumption)
        have q6 : x9_1 < (a0.size : Int) := of_decide_eq_true (by first | (with_reducible assumption) | assumption)
        have hx6 := bt_at a0 x9_1
        replace p6 := eq_true p6
        replace q6 := eq_true q6
        have p8 : 0 ≤ (x9_1 : Int) := of_decide_eq_true (by first | (with_reducible assumption) | assumption)
        have q8 : x9_1 < (a1.size : Int) := of_decide_eq_true (by first | (with_reducible assumption) | assumption)
        have hx8 := bt_at a1 x9_1
        replace p8 := eq_true p8
        replace q8 := eq_true q8
        go_wp2
        repeat (go_quiet (fail); try go_wp2)
        go_roundg k1
        case measure => have := HK1.out; omega
        case rel => exact ⟨(wrap64 (x5_1 + 1)), (wrap64 (x9_1 + 1)), (by first | rfl | (simp; done) | (simp [*]; done)), (by first | rfl | (simp; done) | (simp [*]; done)), H', ⟨by have := HK1.out; omega⟩, by repeat (first | exact Drawn0.refl _ | apply Drawn0.step)⟩
      ·
       rw [if_neg c7] at H
       exact absurd H (by simp)
     ·
      rw [if_neg c5] at H
      exact absurd H (by simp)
    ·
     rw [if_neg c4] at H
     exact absurd H (by simp)
   ·
    rw [if_neg c3] at H
    have c3b0 : decide (x9_1 < (a0.size : Int)) = false := decide_eq_false c3
    clear c3
    obtain rfl := Option.some.inj H
    go_wp2
    repeat (go_quiet (fail); try go_wp2)
    go_ret
    exact ⟨by first | rfl | (simp; done) | (simp [*]; done), by repeat (first | exact Drawn0.refl _ | apply Drawn0.step)⟩
def impl_AlikeWords.p (k : Nat) (a1 : ByteArray) (a2 : Int) (x : ByteArray) : Option Bool := if (x.size : Int) = (a1.size : Int) then (impl_difference.f k x a1).bind fun d => some (decide (d ≤ a2)) else some false
def impl_AlikeWords.g (k : Nat) (l0_0 : List S64) (a1 : ByteArray) (a2 : Int) : Option (List ByteArray) := (impl_Trie_words.f k l0_0).bind fun ws => if ws.length ≤ 9223372036854775807 then (filt (impl_AlikeWords.p k a1 a2) ws).bind fun fs => (impl_trieOf.f k fs).bind fun N => impl_Trie_words.f k N else none
def impl_AlikeWords.f (k : Nat) (l0_0 : List S64) (a1 : ByteArray) (a2 : Int) : Option (List ByteArray × Bool) := (impl_areKept.f k l0_0 a1).bind fun t => if t = true then (impl_in.f a2 0 3).bind fun b => (if b = true then (impl_AlikeWords.g k l0_0 a1 a2).bind fun r => some (r, true) else some ([], false)) else some ([], false)
theorem impl_AlikeWords.pmono (k : Nat) (a1 : ByteArray) (a2 : Int) (x : ByteArray) : LeO (impl_AlikeWords.p k a1 a2 x) (impl_AlikeWords.p (k + 1) a1 a2 x) := LeO.ite (LeO.bind (impl_difference.mono _ _ _) fun d => LeO.refl _) (LeO.refl _)
theorem impl_AlikeWords.mono : ∀ a0 a1 a2 k, LeO (impl_AlikeWords.f k a0 a1 a2) (impl_AlikeWords.f (k + 1) a0 a1 a2) := by
 intro a0 a1 a2 k
 exact LeO.bind (impl_areKept.mono _ _ _) fun t => LeO.ite (LeO.bind (LeO.refl _) fun b => LeO.ite (LeO.bind (LeO.bind (impl_Trie_words.mono _ _) fun ws => LeO.ite (LeO.bind (filt_mono ws fun x => impl_AlikeWords.pmono k a1 a2 x) fun fs => LeO.bind (impl_trieOf.mono _ _) fun N => impl_Trie_words.mono _ _) (LeO.refl _)) fun r => LeO.refl _) (LeO.refl _)) (LeO.refl _)
set_option maxHeartbeats 1000000 in
theorem impl_AlikeWords.lit (k : Nat) (a1 : ByteArray) (a2 : Int) (x : ByteArray) (b : Bool) (Bw Bf : Nat) (W : World) (hw : W.cell? ⟨Bw, 0, none⟩ = some (.string a1)) (hf : W.cell? ⟨Bf, 0, none⟩ = some (.int .i64 a2)) (h : impl_AlikeWords.p k a1 a2 x = some b) :
  Calls Tryz.prog 28 (#[.string x] ++ #[.pointer (some ⟨Bw, 0, none⟩), .pointer (some ⟨Bf, 0, none⟩)]) W fun e W' => e = .returned (.bool b) ∧ Below W.heap.size W W' := by
 show Calls Tryz.prog 28 #[.string x, .pointer (some ⟨Bw, 0, none⟩), .pointer (some ⟨Bf, 0, none⟩)] W _
 unfold impl_AlikeWords.p at h
 have HW := Aside0.mk hw
 have HF := Aside0.mk hf
 by_cases hx : (x.size : Int) = (a1.size : Int)
 ·
  rw [if_pos hx] at h
  have e0 : ((x.size : Int) == (a1.size : Int)) = true := beq_iff_eq.mpr hx
  have e1 : (x.size == a1.size) = true := beq_iff_eq.mpr (by omega)
  obtain ⟨d, hd, h⟩ := Option.bind_eq_some_iff.1 h
  have HD := Aside0.mk (fun W' => impl_difference.calls k x a1 d W' hd)
  have HR := Aside0.mk (Option.some.inj h)
  clear h hd hx
  go_enter Tryz.func28, Tryz.ntmps28
  go_wp2
  go_region_with (first | (go_at_call 29; refine (HD.out _).mono ?_; rintro e w' ⟨rfl, hb⟩; have HB := Aside0.mk hb.below; have hf2 := (hb.below.cell (p := ⟨Bf, 0, none⟩) (World.block_lt_of_cell? W _ HF.out)).trans HF.out; clear hb))
  all_goals
   go_wp2
   go_ret
   exact ⟨by rw [← HR.out]; rfl, below_step (below_drew1 (Below.refl W.heap.size W)) HB.out⟩
 ·
  rw [if_neg hx] at h
  have e0 : ((x.size : Int) == (a1.size : Int)) = false := beq_eq_false_iff_ne.mpr hx
  have e1 : (x.size == a1.size) = false := beq_eq_false_iff_ne.mpr (by omega)
  obtain rfl := Option.some.inj h
  clear h hx
  go_enter Tryz.func28, Tryz.ntmps28
  go_wp2
  go_quiet (fail)
  go_wp2
  go_ret
  exact ⟨rfl, by repeat (first | exact Below.refl _ _ | apply below_alloc | apply pw_below_drewN | apply below_drew1)⟩
set_option maxHeartbeats 4000000 in
theorem impl_AlikeWords.calls (k : Nat) (A0_0 : Option Addr) (c0_0 : Nat) (l0_0 : List S64) (a1 : ByteArray) (a2 : Int) (r1 : List ByteArray) (r2 : Bool) (w : World) (hr0_0 : Kd.C k64 w A0_0 l0_0.length l0_0) (hc0_0 : l0_0.length ≤ c0_0) (h : impl_AlikeWords.f k l0_0 a1 a2 = some (r1, r2)) :
  Calls Tryz.prog 9 #[.agg #[.slice A0_0 l0_0.length c0_0], .string a1, .int .i64 a2] w fun e w' => ∃ v0_ : Value, e = .returned (.tuple #[v0_, .bool r2]) ∧ Kd.R Kd.string 9 w' w.heap.size (fun _ => True) v0_ r1 ∧ Below w.heap.size w w' := by
 obtain ⟨V, hV⟩ : ∃ V, V = ((w.alloc (.cells #[.slice A0_0 l0_0.length c0_0] 31)).alloc (.cells #[.string a1] 9)).alloc (.cells #[.int .i64 a2] 3) := ⟨_, rfl⟩
 have HW1 := Aside0.mk ((Below.refl w.heap.size w).alloc (Nat.le_refl _) (.cells #[.slice A0_0 l0_0.length c0_0] 31))
 have HW2 := Aside0.mk (HW1.out.alloc (by simp) (.cells #[.string a1] 9))
 have HW3 := HW2.out.alloc (by simp; omega) (.cells #[.int .i64 a2] 3)
 rw [← hV] at HW3
 have HV := Aside0.mk HW3
 have HVS := Aside0.mk (show V.heap.size = w.heap.size + 3 from by rw [hV]; simp)
 have c0 := Aside0.mk (show V.cell? ⟨w.heap.size, 0, none⟩ = some (.slice A0_0 l0_0.length c0_0) from (blk_cell (show V.heap[w.heap.size]? = some (.cells #[.slice A0_0 l0_0.length c0_0] 31 (0, 0)) from by rw [hV]; show (((w.heap.push _).push _).push _)[w.heap.size]? = _; rw [Array.getElem?_push, if_neg (by simp <;> omega)]; rw [Array.getElem?_push, if_neg (by simp <;> omega)]; rw [Array.getElem?_push, if_pos (by simp)]) 0).trans rfl)
 have c1 := Aside0.mk (show V.cell? ⟨w.heap.size + 1, 0, none⟩ = some (.string a1) from (blk_cell (show V.heap[w.heap.size + 1]? = some (.cells #[.string a1] 9 (0, 0)) from by rw [hV]; show (((w.heap.push _).push _).push _)[w.heap.size + 1]? = _; rw [Array.getElem?_push, if_neg (by simp <;> omega)]; rw [Array.getElem?_push, if_pos (by simp)]) 0).trans rfl)
 have c2 := Aside0.mk (show V.cell? ⟨w.heap.size + 2, 0, none⟩ = some (.int .i64 a2) from (blk_cell (show V.heap[w.heap.size + 2]? = some (.cells #[.int .i64 a2] 3 (0, 0)) from by rw [hV]; show (((w.heap.push _).push _).push _)[w.heap.size + 2]? = _; rw [Array.getElem?_push, if_pos (by simp)]) 0).trans rfl)
 have HCC := Aside0.mk (fun (W : World) (hb : Below V.heap.size V W) => Kd.C_below (Kd.C_below hr0_0 HW3) hb)
 have HC0 := Aside0.mk hc0_0
 unfold impl_AlikeWords.f at h
 obtain ⟨t, ht, h⟩ := Option.bind_eq_some_iff.1 h
 have HT := Aside0.mk (impl_areKept.calls k A0_0 c0_0 l0_0 a1 t V (Kd.C_below hr0_0 HW3) hc0_0 ht)
 clear HW3 hr0_0 hc0_0 ht
 cases t with
 | false =>
  simp only [Bool.false_eq_true, if_false, Option.some.injEq, Prod.mk.injEq] at h
  obtain ⟨rfl, rfl⟩ := h
  go_enter Tryz.func9, Tryz.ntmps9
  go_wp2_with fail
  rw [← hV]
  clear hV
  refine HT.out.mono ?_
  clear HT
  rintro e w1 ⟨rfl, hb⟩
  have HB := Aside0.mk (HV.out.trans (hb.mono HV.out.size))
  clear hb
  go_wp2_with fail
  go_ret2
  exact ⟨_, rfl, Kd.R_nil _ _ _ _ _, HB.out⟩
 | true =>
  simp only [if_true] at h
  obtain ⟨b, hb0, h⟩ := Option.bind_eq_some_iff.1 h
  have HRN := Aside0.mk (fun W => impl_in.calls a2 0 3 b W hb0)
  clear hb0
  cases b with
  | false =>
   simp only [Bool.false_eq_true, if_false, Option.some.injEq, Prod.mk.injEq] at h
   obtain ⟨rfl, rfl⟩ := h
   go_enter Tryz.func9, Tryz.ntmps9
   go_wp2_with fail
   rw [← hV]
   clear hV
   refine HT.out.mono ?_
   clear HT
   rintro e w1 ⟨rfl, hb⟩
   have d2 := (hb.cell (p := ⟨w.heap.size + 2, 0, none⟩) (by have := HVS.out; simp; omega)).trans c2.out
   have HB1 := Aside0.mk hb
   clear hb
   go_wp2_with fail
   refine (HRN.out w1).mono ?_
   clear d2
   rintro e w2 ⟨rfl, hd⟩
   have HB := Aside0.mk (HV.out.trans ((HB1.out.trans (hd.below.mono HB1.out.size)).mono HV.out.size))
   clear hd
   go_wp2_with fail
   go_ret2
   exact ⟨_, rfl, Kd.R_nil _ _ _ _ _, HB.out⟩
  | true =>
   simp only [if_true] at h
   obtain ⟨p1, hg, h⟩ := Option.bind_eq_some_iff.1 h
   simp only [Option.some.injEq, Prod.mk.injEq] at h
   obtain ⟨rfl, rfl⟩ := h
   unfold impl_AlikeWords.g at hg
   obtain ⟨ws, hw, hg⟩ := Option.bind_eq_some_iff.1 hg
   by_cases hl : ws.length ≤ 9223372036854775807
   ·
    rw [if_pos hl] at hg
    obtain ⟨fs, hfs, hg⟩ := Option.bind_eq_some_iff.1 hg
    obtain ⟨q, hq, rfl⟩ := filt_some hfs
    obtain ⟨N, hN, hg⟩ := Option.bind_eq_some_iff.1 hg
    have HCH := Aside0.mk (fun (W : World) (hb : Below V.heap.size V W) => Chosen.calls k q 28 #[.pointer (some ⟨w.heap.size + 1, 0, none⟩), .pointer (some ⟨w.heap.size + 2, 0, none⟩)] (Go.Proofs.enters_of Tryz.func28 (by kernel_rfl) rfl) A0_0 c0_0 l0_0 ws N W (HCC.out W hb) HC0.out hw hl hN
     (fun W' x hm hk => impl_AlikeWords.lit k a1 a2 x (q x) (w.heap.size + 1) (w.heap.size + 2) W' (Go.Proofs.YtpgobnhklnglhaaGreatDoorW.PrintWords.cell_kept ((hb.cell (p := ⟨w.heap.size + 1, 0, none⟩) (by have := HVS.out; simp; omega)).trans c1.out) hk (fun h => h)) (Go.Proofs.YtpgobnhklnglhaaGreatDoorW.PrintWords.cell_kept ((hb.cell (p := ⟨w.heap.size + 2, 0, none⟩) (by have := HVS.out; simp; omega)).trans c2.out) hk (fun h => h)) (hq x hm)))
    have HWS := Aside0.mk (fun A c W hr hc => impl_Trie_words.calls k A c N p1 W hr hc hg)
    clear hg hN hfs hw hl hq
    go_enter Tryz.func9, Tryz.ntmps9
    go_wp2_with fail
    rw [← hV]
    clear hV
    refine HT.out.mono ?_
    clear HT
    rintro e w1 ⟨rfl, hb⟩
    have d2 := (hb.cell (p := ⟨w.heap.size + 2, 0, none⟩) (by have := HVS.out; simp; omega)).trans c2.out
    have HB1 := Aside0.mk hb
    clear hb
    go_wp2_with fail
    refine (HRN.out w1).mono ?_
    clear d2
    rintro e w2 ⟨rfl, hd⟩
    have HB2 := Aside0.mk (HB1.out.trans (hd.below.mono HB1.out.size))
    have d0 := (HB2.out.cell (p := ⟨w.heap.size, 0, none⟩) (by have := HVS.out; simp; omega)).trans c0.out
    have eg := Go.Proofs.enters_of Tryz.func28 (by kernel_rfl) rfl
    clear hd
    go_wp2_with fail
    refine (HCH.out w2 HB2.out).mono ?_
    clear HCH d0 eg
    rintro e w3 ⟨v3, rfl, hr3, hb3⟩
    obtain ⟨A3, c3, hv3⟩ := Kd.R_slice hr3
    subst hv3
    have HB3 := Aside0.mk (HB2.out.trans (hb3.mono HB2.out.size))
    have HX3 := Aside0.mk (HWS.out A3 c3 w3 (Kd.R_reads' hr3).2.2 (Kd.R_reads' hr3).2.1)
    clear hr3 hb3
    go_wp2_with fail
    refine HX3.out.mono ?_
    clear HX3
    rintro e w4 ⟨v4, rfl, hr4, hb4⟩
    have HB4 := Aside0.mk (HV.out.trans ((HB3.out.trans (hb4.mono HB3.out.size)).mono HV.out.size))
    have HR4 := Aside0.mk (Kd.R_lower hr4 (show w.heap.size ≤ w3.heap.size from by have := HB3.out.size; have := HVS.out; omega))
    clear hr4 hb4
    go_wp2_with fail
    go_ret2
    exact ⟨_, rfl, HR4.out, HB4.out⟩
   ·
    rw [if_neg hl] at hg; cases hg
def spec_AlikeWords.l0 : Nat → ByteArray → Int → List ByteArray → List ByteArray → Int → Option (List ByteArray × Bool)
 | 0, _, _, _, _, _ => none
 | k + 1, x1, x2, x8, x9, x10 => if x10 < (x9.length : Int) then (if 0 ≤ x10 then (if ((rdOf ByteArray.empty x9 x10).size : Int) = (x1.size : Int) then ((spec_l6Difference.f k (rdOf ByteArray.empty x9 x10) x1).bind fun t227 => (if t227 ≤ x2 then (if x8.length < 8796093022208 then (spec_AlikeWords.l0 k x1 x2 (x8 ++ [rdOf ByteArray.empty x9 x10]) x9 (wrap64 (x10 + 1))) else (none)) else (spec_AlikeWords.l0 k x1 x2 x8 x9 (wrap64 (x10 + 1))))) else (spec_AlikeWords.l0 k x1 x2 x8 x9 (wrap64 (x10 + 1)))) else (none)) else (some (x8, true))
def spec_AlikeWords.f (k : Nat) (l0_0 : List (S64)) (a1 : ByteArray) (a2 : Int) : Option (List ByteArray × Bool) := (some (([] : List ByteArray) : List ByteArray)).bind fun y218 => ((spec_l6Good.f k l0_0 a1 a2).bind fun t221 => (if t221 = true then ((spec_l2Words.f k l0_0).bind fun t222 => (spec_AlikeWords.l0 k a1 a2 y218 t222 0)) else (some (y218, false))))
theorem spec_AlikeWords.mono_l : ∀ k, (∀ y0 y1 y2 y3 y4, LeO (spec_AlikeWords.l0 k y0 y1 y2 y3 y4) (spec_AlikeWords.l0 (k + 1) y0 y1 y2 y3 y4))
 | 0 => fun _ _ _ _ _ r h => by simp [spec_AlikeWords.l0] at h
 | k + 1 => by
  have ih0 := spec_AlikeWords.mono_l k
  ·
   intro y0 y1 y2 y3 y4
   unfold spec_AlikeWords.l0
   repeat' with_reducible first | exact ih0 _ _ _ _ _ | exact spec_l2Words.mono _ _ | exact spec_l6Difference.mono _ _ _ | exact spec_l6Good.mono _ _ _ _ | exact LeO.refl _ | exact LeO.none _ | refine LeO.ite ?_ ?_ | refine LeO.bind ?_ (fun _ => ?_)
theorem spec_AlikeWords.mono : ∀ a0 a1 a2 k, LeO (spec_AlikeWords.f k a0 a1 a2) (spec_AlikeWords.f (k + 1) a0 a1 a2) := by
 intro a0 a1 a2 k
 have ih0 := spec_AlikeWords.mono_l k
 unfold spec_AlikeWords.f
 repeat' with_reducible first | exact ih0 _ _ _ _ _ | exact spec_l2Words.mono _ _ | exact spec_l6Difference.mono _ _ _ | exact spec_l6Good.mono _ _ _ _ | exact LeO.refl _ | exact LeO.none _ | refine LeO.ite ?_ ?_ | refine LeO.bind ?_ (fun _ => ?_)
theorem spec_AlikeWords.calls (k : Nat) (A0_0 : Option Addr) (c0_0 : Nat) (l0_0 : List (S64)) (a1 : ByteArray) (a2 : Int) (r1 : List ByteArray) (r2 : Bool) (w : World) (hr0_0 : Kd.C k64 w A0_0 l0_0.length l0_0) (hc0_0 : l0_0.length ≤ c0_0) (h : spec_AlikeWords.f k l0_0 a1 a2 = some (r1, r2)) :
  Calls Tryz.prog 7 #[.agg #[.slice A0_0 l0_0.length c0_0], .string a1, .int .i64 a2] w fun e w' => ∃ v0_ : Value, e = .returned (.tuple #[v0_, .bool r2]) ∧ Kd.R Kd.string 9 w' w.heap.size (fun _ => True) v0_ r1 ∧ Below w.heap.size w w' := by
 have hu31 := Tryz.underlying31
 have HR0_0 := Aside0.mk hr0_0
 have HC0_0 := Aside0.mk hc0_0
 clear hr0_0 hc0_0
 have HB := Aside0.mk (Below.refl w.heap.size w)
 have H : ((some (([] : List ByteArray) : List ByteArray)).bind fun y218 => ((spec_l6Good.f k l0_0 a1 a2).bind fun t221 => (if t221 = true then ((spec_l2Words.f k l0_0).bind fun t222 => (spec_AlikeWords.l0 k a1 a2 y218 t222 0)) else (some (y218, false))))) = some (r1, r2) := h
 clear h
 obtain ⟨y218, hy218⟩ : ∃ y_ : List ByteArray, y_ = (([] : List ByteArray)) := ⟨_, rfl⟩
 replace H : ((spec_l6Good.f k l0_0 a1 a2).bind fun t221 => (if t221 = true then ((spec_l2Words.f k l0_0).bind fun t222 => (spec_AlikeWords.l0 k a1 a2 y218 t222 0)) else (some (y218, false)))) = some (r1, r2) := by first | (rw [hy218]; with_reducible exact H) | (have H2_ := (Option.bind_some _ _).symm.trans H; rw [hy218]; with_reducible exact H2_) | (have H2_ := (Option.bind_some _ _).symm.trans H; with_reducible exact H2_) | with_reducible exact H | (rw [hy218]; exact H) | exact H
 have Ny218 := Aside0.mk hy218
 clear hy218
 replace H := Option.bind_eq_some_iff.mp H
 obtain ⟨t221, A40, H⟩ := H
 replace H : (if t221 = true then ((spec_l2Words.f k l0_0).bind fun t222 => (spec_AlikeWords.l0 k a1 a2 y218 t222 0)) else (some (y218, false))) = some (r1, r2) := H
 have A4 := Aside0.mk A40
 clear A40
 by_cases c5 : t221 = true
 ·
  subst c5
  replace H : ((spec_l2Words.f k l0_0).bind fun t222 => (spec_AlikeWords.l0 k a1 a2 y218 t222 0)) = some (r1, r2) := by rw [if_pos rfl] at H; exact H
  replace H := Option.bind_eq_some_iff.mp H
  obtain ⟨t222, A60, H⟩ := H
  replace H : (spec_AlikeWords.l0 k a1 a2 y218 t222 0) = some (r1, r2) := H
  have A6 := Aside0.mk A60
  clear A60
  have H' := Aside0.mk H
  clear H
  go_enter Tryz.func7, Tryz.ntmps7
  go_wp2_with (first | ((with_reducible refine gate_dst (N := 3) rfl ?_); refine box_event ?hg (N := 3) ?hd (cs := #[.slice A0_0 l0_0.length c0_0]) (t := 31) ?hr ?_; (case hd => rfl); (case hg => rfl); (case hr => first | (go_simp; done) | (go_simp; rfl)); intro gb217 hg w7 hbox hb; have n0_ := Aside0.mk (below_step (by repeat (first | (with_reducible first | exact HB.out | apply below_alloc | apply pw_below_drewN | apply below_drew1) | exact HB.out)) hb); have n1_ := Aside0.mk (hbox); have n2_ := Aside0.mk ((by rw [hg]; exact (below_size (by repeat (first | (with_reducible first | exact HB.out | apply below_alloc | apply pw_below_drewN | apply below_drew1) | exact HB.out))) : w.heap.size ≤ gb217)); have n3_ := Aside0.mk ((by rw [hg]; exact (below_size (by repeat (first | (with_reducible first | exact HB.out | apply below_alloc | apply pw_below_drewN | apply below_drew1) | exact HB.out))) : w.heap.size ≤ gb217)); clear HB; have HB := n0_; have BK217 := n1_; have GW217 := n2_; have GE217 := n3_; clear n0_ n1_ n2_ n3_; clear hb hbox hg) | ((with_reducible refine gate_dst (N := 11) rfl ?_); refine Kd.R_lit Kd.string _ 9 ?hg (N := 11) ?hd (xs := ([] : List ByteArray)) (inner := []) (ok := fun _ => True) (okp := fun _ => True) ?hr ?hp (fun _ hk => hk) trivial (Below.refl _ _) (Nat.le_refl _) (by simp) ?_; (case hd => rfl); (case hg => rfl); (case hr => first | (go_simp; done) | (go_simp; rfl)); (case hp => exact (Reps.none _ _)); intro v219 w8 ho9 hb hg_ hnew_; clear hg_ hnew_; (first | rw [← Ny218.out] at ho9 | (simp only [Int.reduceToNat] at ho9; rw [← Ny218.out] at ho9)); have n0_ := Aside0.mk (Kd.R_lower ho9 (below_size (by repeat (first | (with_reducible first | exact HB.out | apply below_alloc | apply pw_below_drewN | apply below_drew1 | refine below_set ?_ GE217.out) | exact HB.out)))); have n1_ := Aside0.mk (blk_below (g := gb217) (o := .cells #[.slice A0_0 l0_0.length c0_0] 31 (0, 0)) (by (with_reducible repeat (first | refine blk_drewN ?_ _ | refine blk_drew ?_ | refine blk_alloc ?_ _)); exact BK217.out) hb); have n2_ := Aside0.mk (below_step (by repeat (first | (with_reducible first | exact HB.out | apply below_alloc | apply pw_below_drewN | apply below_drew1 | refine below_set ?_ GE217.out) | exact HB.out)) hb); clear BK217; clear HB; have HO220 := n0_; have BK217 := n1_; have HB := n2_; clear n0_ n1_ n2_; clear hb ho9; have hcz10_0 : w8.cell? ⟨gb217, 0, none⟩ = some (.slice A0_0 l0_0.length c0_0) := (blk_cell BK217.out 0).trans rfl; have hfz10_0 := blk_frozen BK217.out 0) | ((with_reducible refine gate_callee (f := 21) rfl ?_); refine goesL_ (some 15) rfl rfl Tryz.func21 (by kernel_rfl) rfl #[.agg #[.slice A0_0 l0_0.length c0_0], .string a1, .int .i64 a2] rfl (by (try simp only [List.map_toArray, List.map_cons, List.map_nil]); first | done | rfl | (simp only [List.length_drop, List.length_take]; rfl)) ?_; (with_reducible refine (spec_l6Good.calls k _ _ l0_0 a1 a2 true _ ?side1 ?side2 A4.out).mono ?_); (case side1 => repeat (first | exact (Kd.C_below HR0_0.out HB.out) | (with_reducible refine Kd.C_alloc ?_ _) | (with_reducible refine Kd.C_drewN ?_ _) | (with_reducible refine Kd.C_drew ?_))); (case side2 => exact HC0_0.out); rintro e w11 ⟨rfl, hb⟩; refine ⟨_, rfl, ?_⟩; have n0_ := Aside0.mk (Kd.R_below (by (with_reducible repeat (first | apply Kd.R_alloc | apply Kd.R_drewN | apply Kd.R_drew)); exact HO220.out) hb); have n1_ := Aside0.mk (blk_below (g := gb217) (o := .cells #[.slice A0_0 l0_0.length c0_0] 31 (0, 0)) (by (with_reducible repeat (first | refine blk_drewN ?_ _ | refine blk_drew ?_ | refine blk_alloc ?_ _)); exact BK217.out) hb); have n2_ := Aside0.mk (below_step (by repeat (first | (with_reducible first | exact HB.out | apply below_alloc | apply pw_below_drewN | apply below_drew1 | refine below_set ?_ GE217.out) | exact HB.out)) hb); clear HO220; clear BK217; clear HB; have HO220 := n0_; have BK217 := n1_; have HB := n2_; clear n0_ n1_ n2_; (try clear hb); (try clear hb2); (try clear hk); (try clear hi); have hcz12_0 : w11.cell? ⟨gb217, 0, none⟩ = some (.slice A0_0 l0_0.length c0_0) := (blk_cell BK217.out 0).trans rfl; have hfz12_0 := blk_frozen BK217.out 0) | ((with_reducible refine gate_callee (f := 22) rfl ?_); refine goesL_ (some 19) rfl rfl Tryz.func22 (by kernel_rfl) rfl #[.agg #[.slice A0_0 l0_0.length c0_0]] rfl (by (try simp only [List.map_toArray, List.map_cons, List.map_nil]); first | done | rfl | (simp only [List.length_drop, List.length_take]; rfl)) ?_; (with_reducible refine (spec_l2Words.calls k _ _ l0_0 t222 _ ?side1 ?side2 A6.out).mono ?_); (case side1 => repeat (first | exact (Kd.C_below HR0_0.out HB.out) | (with_reducible refine Kd.C_alloc ?_ _) | (with_reducible refine Kd.C_drewN ?_ _) | (with_reducible refine Kd.C_drew ?_))); (case side2 => exact HC0_0.out); rintro e w13 ⟨v223, rfl, ho0, hb⟩; refine ⟨_, rfl, ?_⟩; have n0_ := Aside0.mk (Kd.R_elder' (by (with_reducible repeat (first | apply Kd.R_alloc | apply Kd.R_drewN | apply Kd.R_drew)); exact HO220.out) (Kd.R_base ho0) hb); have n1_ := Aside0.mk (Kd.R_lower (Kd.R_new' ho0 (Kd.R_lt (by (with_reducible repeat (first | apply Kd.R_alloc | apply Kd.R_drewN | apply Kd.R_drew)); exact HO220.out))) (below_size (by repeat (first | (with_reducible first | exact HB.out | apply below_alloc | apply pw_below_drewN | apply below_drew1 | refine below_set ?_ GE217.out) | exact HB.out)))); have n2_ := Aside0.mk (blk_below (g := gb217) (o := .cells #[.slice A0_0 l0_0.length c0_0] 31 (0, 0)) (by (with_reducible repeat (first | refine blk_drewN ?_ _ | refine blk_drew ?_ | refine blk_alloc ?_ _)); exact BK217.out) hb); have n3_ := Aside0.mk (below_step (by repeat (first | (with_reducible first | exact HB.out | apply below_alloc | apply pw_below_drewN | apply below_drew1 | refine below_set ?_ GE217.out) | exact HB.out)) hb); clear HO220; clear BK217; clear HB; have HO220 := n0_; have HO224 := n1_; have BK217 := n2_; have HB := n3_; clear n0_ n1_ n2_ n3_; (try clear hb); (try clear hb2); (try clear hk); (try clear hi); (try clear ho0)))
  go_loopg [8, 10] k (fun kq v8 v10 w' => ∃ (x8_1 : List ByteArray) (x10_1 : Int), v10 = .int .i64 x10_1 ∧ Aside0 (spec_AlikeWords.l0 kq a1 a2 x8_1 t222 x10_1 = some (r1, r2)) ∧ Aside0 (kq ≤ k) ∧ Aside0 (Kd.R Kd.string 9 w' w.heap.size (fun k_ => some k_ ≠ (v223 : Value).ownBlock) v8 x8_1) ∧ Aside0 (Kd.R Kd.string 9 w' w.heap.size (fun k_ => some k_ ≠ (v8 : Value).ownBlock) v223 t222) ∧ Aside0 (w'.heap[gb217]? = some (.cells #[(.slice A0_0 l0_0.length c0_0)] 31 (0, 0))) ∧ Aside0 (Below w.heap.size w w'))
  case atStart => exact ⟨(y218), (0), (by first | rfl | (simp; done) | (simp [*]; done)), H', ⟨Nat.le_refl _⟩, ⟨by (with_reducible repeat (first | apply Kd.R_alloc | apply Kd.R_drewN | apply Kd.R_drew)); exact Kd.R_mono HO220.out (fun _ hk => hk.2)⟩, ⟨by (with_reducible repeat (first | apply Kd.R_alloc | apply Kd.R_drewN | apply Kd.R_drew)); exact Kd.R_mono HO224.out (fun _ hk => hk.2)⟩, ⟨by (with_reducible repeat (first | refine blk_drewN ?_ _ | refine blk_drew ?_ | refine blk_alloc ?_ _)); exact BK217.out⟩, ⟨by repeat (first | (with_reducible first | exact HB.out | apply below_alloc | apply pw_below_drewN | apply below_drew1 | refine below_set ?_ GE217.out) | exact HB.out)⟩⟩
  case round =>
   clear H'
   try clear c2
   try clear p2
   try clear c5
   try clear c7
   try clear hcz10_0
   try clear hcz12_0
   try clear hfz10_0
   try clear hfz12_0
   obtain ⟨x8_1, x10_1, rfl, HA, HK1, HO_8, HO_9, BK217, HB⟩ := hrel
   cases gk with
   | zero => exact absurd HA.out (by simp [spec_AlikeWords.l0])
   | succ k1 =>
    have H := HA.out
    clear HA
    simp only [spec_AlikeWords.l0] at H
    by_cases c14 : x10_1 < (t222.length : Int)
    ·
     rw [if_pos c14] at H
     have c14b0 : decide (x10_1 < (t222.length : Int)) = true := decide_eq_true c14
     clear c14
     by_cases c15 : 0 ≤ x10_1
     ·
      rw [if_pos c15] at H
      have c15b0 : decide (0 ≤ x10_1) = true := decide_eq_true c15
      clear c15
      by_cases c16 : ((rdOf ByteArray.empty t222 x10_1).size : Int) = (a1.size : Int)
      ·
       rw [if_pos c16] at H
       have c16b0 : (((rdOf ByteArray.empty t222 x10_1).size : Int) == (a1.size : Int)) = true := beq_iff_eq.mpr c16
       have c16b1 : (((rdOf ByteArray.empty t222 x10_1).size : Int) != (a1.size : Int)) = false := bne_eq_false_iff_eq.mpr c16
       have c16b2 : ((rdOf ByteArray.empty t222 x10_1).size == a1.size) = true := by first | simpa using c16 | (simp at c16 ⊢; omega)
       clear c16
       replace H := Option.bind_eq_some_iff.mp H
       obtain ⟨t227, A170, H⟩ := H
       replace H : (if t227 ≤ a2 then (if x8_1.length < 8796093022208 then (spec_AlikeWords.l0 k1 a1 a2 (x8_1 ++ [rdOf ByteArray.empty t222 x10_1]) t222 (wrap64 (x10_1 + 1))) else (none)) else (spec_AlikeWords.l0 k1 a1 a2 x8_1 t222 (wrap64 (x10_1 + 1)))) = some (r1, r2) := H
       have A17 := Aside0.mk A170
       clear A170
       by_cases c18 : t227 ≤ a2
       ·
        rw [if_pos c18] at H
        have c18b0 : decide (t227 ≤ a2) = true := decide_eq_true c18
        clear c18
        by_cases c19 : x8_1.length < 8796093022208
        ·
         rw [if_pos c19] at H
         have LMc19 := Aside0.mk c19
         clear c19
         obtain ⟨y229, hy229⟩ : ∃ y_ : List ByteArray, y_ = (x8_1 ++ [rdOf ByteArray.empty t222 x10_1]) := ⟨_, rfl⟩
         replace H : (spec_AlikeWords.l0 k1 a1 a2 y229 t222 (wrap64 (x10_1 + 1))) = some (r1, r2) := by first | (rw [hy229]; with_reducible exact H) | (have H2_ := (Option.bind_some _ _).symm.trans H; rw [hy229]; with_reducible exact H2_) | (have H2_ := (Option.bind_some _ _).symm.trans H; with_reducible exact H2_) | with_reducible exact H | (rw [hy229]; exact H) | exact H
         have Ny229 := Aside0.mk hy229
         clear hy229
         have H' := Aside0.mk H
         clear H
         obtain ⟨Ao20, co20, eo20⟩ := Kd.R_slice HO_9.out
         subst eo20
         have p225 : 0 ≤ (x10_1 : Int) := of_decide_eq_true (by first | (with_reducible assumption) | assumption)
         have q225 : x10_1 < (t222.length : Int) := of_decide_eq_true (by first | (with_reducible assumption) | assumption)
         obtain ⟨ad225, e225, hx225_0⟩ := Kd.at_string (Kd.R_reads' HO_9.out).2.2 x10_1 p225 q225
         cases e225
         replace p225 := eq_true p225
         replace q225 := eq_true q225
         have p226 : 0 ≤ (x10_1 : Int) := of_decide_eq_true (by first | (with_reducible assumption) | assumption)
         have q226 : x10_1 < (t222.length : Int) := of_decide_eq_true (by first | (with_reducible assumption) | assumption)
         obtain ⟨ad226, e226, hx226_0⟩ := Kd.at_string (Kd.R_reads' HO_9.out).2.2 x10_1 p226 q226
         obtain rfl : ad225 = ad226 := (by injection e226)
         replace p226 := eq_true p226
         replace q226 := eq_true q226
         go_wp2_with (first | (go_at_call 23; (with_reducible refine (spec_l6Difference.calls k1 (rdOf ByteArray.empty t222 x10_1) a1 t227 _ A17.out).mono ?_); rintro e w' ⟨rfl, ⟨nd, rfl⟩⟩; have p228 : 0 ≤ (x10_1 : Int) := of_decide_eq_true (by first | (with_reducible assumption) | assumption); have q228 : x10_1 < (t222.length : Int) := of_decide_eq_true (by first | (with_reducible assumption) | assumption); obtain ⟨ad228, e228, hx228_0⟩ := Kd.at_string (Kd.R_reads' HO_9.out).2.2 x10_1 p228 q228; obtain rfl : ad225 = ad228 := (by injection e228); replace p228 := eq_true p228; replace q228 := eq_true q228) | ((with_reducible refine gate_builtin (b := .append) (xs := #[.tmp 44, .tmp 49]) rfl ?_); at_builtin; refine Kd.R_append Kd.string (w0 := w) w.heap.size rfl (.tmp 44) (.tmp 49) 26 9 (.string ⟨#[]⟩) 16 rfl Tryz.underlying26 info9 rfl (by decide) (by omega) u8 x8_1 (rdOf ByteArray.empty t222 x10_1) [.string (rdOf ByteArray.empty t222 x10_1)] (fun k_ => some k_ ≠ (.slice (some ad225) t222.length co20 : Value).ownBlock) (fun _ => False) rfl rfl ?aP (fun _ hk => hk.elim) ?aF ?aO ?aB ?aS ?aL ?_; (case aP => exact rfl); (case aB => exact (by repeat (first | (with_reducible first | exact HB.out | apply below_alloc | apply pw_below_drewN | apply below_drew1 | refine below_set ?_ GE217.out) | exact HB.out))); (case aF => exact (fun k_ hk => Kd.fresh' (Kd.R_lt (by (with_reducible repeat (first | apply Kd.R_alloc | apply Kd.R_drewN | apply Kd.R_drew)); exact HO_9.out)) k_ hk)); (case aO => exact (by (with_reducible repeat (first | apply Kd.R_alloc | apply Kd.R_drewN | apply Kd.R_drew)); exact HO_8.out)); (case aS => exact (below_size (by repeat (first | (with_reducible first | exact HB.out | apply below_alloc | apply pw_below_drewN | apply below_drew1 | refine below_set ?_ GE217.out) | exact HB.out)))); (case aL => have := LMc19.out; omega); intro v230 w21 ho hb hg hat; rw [← Ny229.out] at ho; have n0_ := Aside0.mk (Kd.R_after (ok := (fun _ => True)) (by (with_reducible repeat (first | apply Kd.R_alloc | apply Kd.R_drewN | apply Kd.R_drew)); exact Kd.R_mono HO_9.out (fun _ hk => ⟨trivial, hk⟩)) hg hat); have n1_ := Aside0.mk (blk_grown (g := gb217) (o := .cells #[.slice A0_0 l0_0.length c0_0] 31 (0, 0)) (by (with_reducible repeat (first | refine blk_drewN ?_ _ | refine blk_drew ?_ | refine blk_alloc ?_ _)); exact BK217.out) hg (Kd.R_ne HO_8.out BK217.out (by decide))); have n2_ := Aside0.mk (hb); have n3_ := Aside0.mk (ho); clear HO_9; clear BK217; clear HB; clear HO_8; have HO_9 := n0_; have BK217 := n1_; have HB := n2_; have HO231 := n3_; clear n0_ n1_ n2_ n3_; clear ho hb hg hat))
         go_roundg k1
         case measure => have := HK1.out; omega
         case rel => exact ⟨(y229), (wrap64 (x10_1 + 1)), (by first | rfl | (simp; done) | (simp [*]; done)), H', ⟨by have := HK1.out; omega⟩, ⟨by (with_reducible repeat (first | apply Kd.R_alloc | apply Kd.R_drewN | apply Kd.R_drew)); exact HO231.out⟩, ⟨by (with_reducible repeat (first | apply Kd.R_alloc | apply Kd.R_drewN | apply Kd.R_drew)); exact Kd.R_mono HO_9.out (fun _ hk => hk.2)⟩, ⟨by (with_reducible repeat (first | refine blk_drewN ?_ _ | refine blk_drew ?_ | refine blk_alloc ?_ _)); exact BK217.out⟩, ⟨by repeat (first | (with_reducible first | exact HB.out | apply below_alloc | apply pw_below_drewN | apply below_drew1 | refine below_set ?_ GE217.out) | exact HB.out)⟩⟩
        ·
         rw [if_neg c19] at H
         exact absurd H (by simp)
       ·
        rw [if_neg c18] at H
        have c18b0 : decide (t227 ≤ a2) = false := decide_eq_false c18
        clear c18
        have H' := Aside0.mk H
        clear H
        obtain ⟨Ao22, co22, eo22⟩ := Kd.R_slice HO_9.out
        subst eo22
        have p225 : 0 ≤ (x10_1 : Int) := of_decide_eq_true (by first | (with_reducible assumption) | assumption)
        have q225 : x10_1 < (t222.length : Int) := of_decide_eq_true (by first | (with_reducible assumption) | assumption)
        obtain ⟨ad225, e225, hx225_0⟩ := Kd.at_string (Kd.R_reads' HO_9.out).2.2 x10_1 p225 q225
        cases e225
        replace p225 := eq_true p225
        replace q225 := eq_true q225
        have p226 : 0 ≤ (x10_1 : Int) := of_decide_eq_true (by first | (with_reducible assumption) | assumption)
        have q226 : x10_1 < (t222.length : Int) := of_decide_eq_true (by first | (with_reducible assumption) | assumption)
        obtain ⟨ad226, e226, hx226_0⟩ := Kd.at_string (Kd.R_reads' HO_9.out).2.2 x10_1 p226 q226
        obtain rfl : ad225 = ad226 := (by injection e226)
        replace p226 := eq_true p226
        replace q226 := eq_true q226
        go_wp2_with (first | (go_at_call 23; (with_reducible refine (spec_l6Difference.calls k1 (rdOf ByteArray.empty t222 x10_1) a1 t227 _ A17.out).mono ?_); rintro e w' ⟨rfl, ⟨nd, rfl⟩⟩))
        go_roundg k1
        case measure => have := HK1.out; omega
        case rel => exact ⟨(x8_1), (wrap64 (x10_1 + 1)), (by first | rfl | (simp; done) | (simp [*]; done)), H', ⟨by have := HK1.out; omega⟩, ⟨by (with_reducible repeat (first | apply Kd.R_alloc | apply Kd.R_drewN | apply Kd.R_drew)); exact HO_8.out⟩, ⟨by (with_reducible repeat (first | apply Kd.R_alloc | apply Kd.R_drewN | apply Kd.R_drew)); exact HO_9.out⟩, ⟨by (with_reducible repeat (first | refine blk_drewN ?_ _ | refine blk_drew ?_ | refine blk_alloc ?_ _)); exact BK217.out⟩, ⟨by repeat (first | (with_reducible first | exact HB.out | apply below_alloc | apply pw_below_drewN | apply below_drew1 | refine below_set ?_ GE217.out) | exact HB.out)⟩⟩
      ·
       rw [if_neg c16] at H
       have c16b0 : (((rdOf ByteArray.empty t222 x10_1).size : Int) == (a1.size : Int)) = false := beq_eq_false_iff_ne.mpr c16
       have c16b1 : (((rdOf ByteArray.empty t222 x10_1).size : Int) != (a1.size : Int)) = true := bne_iff_ne.mpr c16
       have c16b2 : ((rdOf ByteArray.empty t222 x10_1).size == a1.size) = false := by first | simpa using c16 | (simp at c16 ⊢; omega)
       have H' := Aside0.mk H
       clear H
       obtain ⟨Ao23, co23, eo23⟩ := Kd.R_slice HO_9.out
       subst eo23
       have p225 : 0 ≤ (x10_1 : Int) := of_decide_eq_true (by first | (with_reducible assumption) | assumption)
       have q225 : x10_1 < (t222.length : Int) := of_decide_eq_true (by first | (with_reducible assumption) | assumption)
       obtain ⟨ad225, e225, hx225_0⟩ := Kd.at_string (Kd.R_reads' HO_9.out).2.2 x10_1 p225 q225
       cases e225
       replace p225 := eq_true p225
       replace q225 := eq_true q225
       go_wp2
       go_roundg k1
       case measure => have := HK1.out; omega
       case rel => exact ⟨(x8_1), (wrap64 (x10_1 + 1)), (by first | rfl | (simp; done) | (simp [*]; done)), H', ⟨by have := HK1.out; omega⟩, ⟨by (with_reducible repeat (first | apply Kd.R_alloc | apply Kd.R_drewN | apply Kd.R_drew)); exact HO_8.out⟩, ⟨by (with_reducible repeat (first | apply Kd.R_alloc | apply Kd.R_drewN | apply Kd.R_drew)); exact HO_9.out⟩, ⟨by (with_reducible repeat (first | refine blk_drewN ?_ _ | refine blk_drew ?_ | refine blk_alloc ?_ _)); exact BK217.out⟩, ⟨by repeat (first | (with_reducible first | exact HB.out | apply below_alloc | apply pw_below_drewN | apply below_drew1 | refine below_set ?_ GE217.out) | exact HB.out)⟩⟩
     ·
      rw [if_neg c15] at H
      exact absurd H (by simp)
    ·
     rw [if_neg c14] at H
     have c14b0 : decide (x10_1 < (t222.length : Int)) = false := decide_eq_false c14
     clear c14
     simp only [Option.some.injEq, Prod.mk.injEq] at H
     obtain ⟨rfl, rfl⟩ := H
     obtain ⟨Ao24, co24, eo24⟩ := Kd.R_slice HO_9.out
     subst eo24
     go_wp2
     go_ret2
     exact ⟨_, by first | rfl | (simp [errW_none, errW_some] <;> rfl) | (simp [*, errW_none, errW_some] <;> rfl), by (with_reducible repeat (first | apply Kd.R_alloc | apply Kd.R_drewN | apply Kd.R_drew)); exact Kd.R_mono HO_8.out (fun _ hk => trivial), by repeat (first | (with_reducible first | exact HB.out | apply below_alloc | apply pw_below_drewN | apply below_drew1 | refine below_set ?_ GE217.out) | exact HB.out)⟩
 ·
  replace c5 := Bool.eq_false_iff.mpr c5
  subst c5
  replace H : (some (y218, false)) = some (r1, r2) := by rw [if_neg (show ¬ (false = true) by decide)] at H; exact H
  simp only [Option.some.injEq, Prod.mk.injEq] at H
  obtain ⟨rfl, rfl⟩ := H
  go_enter Tryz.func7, Tryz.ntmps7
  go_wp2_with (first | ((with_reducible refine gate_dst (N := 3) rfl ?_); refine box_event ?hg (N := 3) ?hd (cs := #[.slice A0_0 l0_0.length c0_0]) (t := 31) ?hr ?_; (case hd => rfl); (case hg => rfl); (case hr => first | (go_simp; done) | (go_simp; rfl)); intro gb217 hg w25 hbox hb; have n0_ := Aside0.mk (below_step (by repeat (first | (with_reducible first | exact HB.out | apply below_alloc | apply pw_below_drewN | apply below_drew1) | exact HB.out)) hb); have n1_ := Aside0.mk (hbox); have n2_ := Aside0.mk ((by rw [hg]; exact (below_size (by repeat (first | (with_reducible first | exact HB.out | apply below_alloc | apply pw_below_drewN | apply below_drew1) | exact HB.out))) : w.heap.size ≤ gb217)); have n3_ := Aside0.mk ((by rw [hg]; exact (below_size (by repeat (first | (with_reducible first | exact HB.out | apply below_alloc | apply pw_below_drewN | apply below_drew1) | exact HB.out))) : w.heap.size ≤ gb217)); clear HB; have HB := n0_; have BK217 := n1_; have GW217 := n2_; have GE217 := n3_; clear n0_ n1_ n2_ n3_; clear hb hbox hg) | ((with_reducible refine gate_dst (N := 11) rfl ?_); refine Kd.R_lit Kd.string _ 9 ?hg (N := 11) ?hd (xs := ([] : List ByteArray)) (inner := []) (ok := fun _ => True) (okp := fun _ => True) ?hr ?hp (fun _ hk => hk) trivial (Below.refl _ _) (Nat.le_refl _) (by simp) ?_; (case hd => rfl); (case hg => rfl); (case hr => first | (go_simp; done) | (go_simp; rfl)); (case hp => exact (Reps.none _ _)); intro v219 w26 ho27 hb hg_ hnew_; clear hg_ hnew_; (first | rw [← Ny218.out] at ho27 | (simp only [Int.reduceToNat] at ho27; rw [← Ny218.out] at ho27)); have n0_ := Aside0.mk (Kd.R_lower ho27 (below_size (by repeat (first | (with_reducible first | exact HB.out | apply below_alloc | apply pw_below_drewN | apply below_drew1 | refine below_set ?_ GE217.out) | exact HB.out)))); have n1_ := Aside0.mk (blk_below (g := gb217) (o := .cells #[.slice A0_0 l0_0.length c0_0] 31 (0, 0)) (by (with_reducible repeat (first | refine blk_drewN ?_ _ | refine blk_drew ?_ | refine blk_alloc ?_ _)); exact BK217.out) hb); have n2_ := Aside0.mk (below_step (by repeat (first | (with_reducible first | exact HB.out | apply below_alloc | apply pw_below_drewN | apply below_drew1 | refine below_set ?_ GE217.out) | exact HB.out)) hb); clear BK217; clear HB; have HO220 := n0_; have BK217 := n1_; have HB := n2_; clear n0_ n1_ n2_; clear hb ho27; have hcz28_0 : w26.cell? ⟨gb217, 0, none⟩ = some (.slice A0_0 l0_0.length c0_0) := (blk_cell BK217.out 0).trans rfl; have hfz28_0 := blk_frozen BK217.out 0) | ((with_reducible refine gate_callee (f := 21) rfl ?_); refine goesL_ (some 15) rfl rfl Tryz.func21 (by kernel_rfl) rfl #[.agg #[.slice A0_0 l0_0.length c0_0], .string a1, .int .i64 a2] rfl (by (try simp only [List.map_toArray, List.map_cons, List.map_nil]); first | done | rfl | (simp only [List.length_drop, List.length_take]; rfl)) ?_; (with_reducible refine (spec_l6Good.calls k _ _ l0_0 a1 a2 false _ ?side1 ?side2 A4.out).mono ?_); (case side1 => repeat (first | exact (Kd.C_below HR0_0.out HB.out) | (with_reducible refine Kd.C_alloc ?_ _) | (with_reducible refine Kd.C_drewN ?_ _) | (with_reducible refine Kd.C_drew ?_))); (case side2 => exact HC0_0.out); rintro e w29 ⟨rfl, hb⟩; refine ⟨_, rfl, ?_⟩; have n0_ := Aside0.mk (Kd.R_below (by (with_reducible repeat (first | apply Kd.R_alloc | apply Kd.R_drewN | apply Kd.R_drew)); exact HO220.out) hb); have n1_ := Aside0.mk (blk_below (g := gb217) (o := .cells #[.slice A0_0 l0_0.length c0_0] 31 (0, 0)) (by (with_reducible repeat (first | refine blk_drewN ?_ _ | refine blk_drew ?_ | refine blk_alloc ?_ _)); exact BK217.out) hb); have n2_ := Aside0.mk (below_step (by repeat (first | (with_reducible first | exact HB.out | apply below_alloc | apply pw_below_drewN | apply below_drew1 | refine below_set ?_ GE217.out) | exact HB.out)) hb); clear HO220; clear BK217; clear HB; have HO220 := n0_; have BK217 := n1_; have HB := n2_; clear n0_ n1_ n2_; (try clear hb); (try clear hb2); (try clear hk); (try clear hi)))
  go_ret2
  exact ⟨_, by first | rfl | (simp [errW_none, errW_some] <;> rfl) | (simp [*, errW_none, errW_some] <;> rfl), by (with_reducible repeat (first | apply Kd.R_alloc | apply Kd.R_drewN | apply Kd.R_drew)); exact HO220.out, by repeat (first | (with_reducible first | exact HB.out | apply below_alloc | apply pw_below_drewN | apply below_drew1 | refine below_set ?_ GE217.out) | exact HB.out)⟩
mutual
def laws_FnExactAlikeWords.j0 : Nat → ByteArray → Int → List ByteArray → Bool → List ByteArray → Bool → Bool → List (S67) → List (S64) → Option (Bool)
 | 0, _, _, _, _, _, _, _, _, _ => none
 | k + 1, x1, x2, x8, x9, x11, x12, x51, x361000, x373000 => if x51 = true then (some false) else ((laws_toTrie.f k x361000).bind fun t378 => ((laws_eqTrie.f k x373000 t378).bind fun t381 => (if t381 = true then ((laws_markTrie.f k x373000 1).bind fun bt382 => (if bt382.1 < 0 then (laws_FnExactAlikeWords.j1 k x1 x2 x8 x9 x11 true x361000) else ((laws_eqStringS.f k x11 x8).bind fun t384 => (if t384 = true then (laws_FnExactAlikeWords.j1 k x1 x2 x8 x9 x11 (x12 != x9) x361000) else (laws_FnExactAlikeWords.j1 k x1 x2 x8 x9 x11 true x361000))))) else (some false))))
def laws_FnExactAlikeWords.j1 : Nat → ByteArray → Int → List ByteArray → Bool → List ByteArray → Bool → List (S67) → Option (Bool)
 | 0, _, _, _, _, _, _, _ => none
 | k + 1, x1, x2, x8, x9, x11, x72, x361000 => if x72 = true then (some false) else ((laws_markStringS.f k x11 1).bind fun bt385 => ((laws_heldStringS.f k bt385.2 1).bind fun t387 => (if t387 < 0 then (some false) else (if t387 = bt385.1 then ((laws_toTrie.f k x361000).bind fun t388 => ((impl_AlikeWords.f k t388 x1 x2).bind fun bt391 => ((laws_eqStringS.f k bt391.1 x8).bind fun t395 => (if t395 = true then (laws_FnExactAlikeWords.j2 k bt385.2 bt385.1 (bt391.2 != x9)) else (laws_FnExactAlikeWords.j2 k bt385.2 bt385.1 true))))) else (some false)))))
def laws_FnExactAlikeWords.j2 : Nat → List ByteArray → Int → Bool → Option (Bool)
 | 0, _, _, _ => none
 | k + 1, x11, x14, x100 => if x100 = true then (some false) else ((laws_heldStringS.f k x11 1).bind fun t396 => (if t396 < 0 then (some false) else (if t396 = x14 then (some true) else (some false))))
end
def laws_FnExactAlikeWords.f (k : Nat) (l0_0 : List (S67)) (a1 : ByteArray) (a2 : Int) : Option (Bool) := if (a1.size : Int) > 1048576 then (some true) else ((laws_szTrie.f l0_0 1048576).bind fun t361 => (if t361 < 0 then (some true) else ((laws_toTrie.f k l0_0).bind fun t362 => ((spec_AlikeWords.f k t362 a1 a2).bind fun bt365 => ((laws_toTrie.f k l0_0).bind fun t369 => ((impl_AlikeWords.f k t369 a1 a2).bind fun bt373 => ((laws_eqStringS.f k bt373.1 bt365.1).bind fun t377 => (if t377 = true then (laws_FnExactAlikeWords.j0 k a1 a2 bt365.1 bt365.2 bt373.1 bt373.2 (bt373.2 != bt365.2) l0_0 t369) else (laws_FnExactAlikeWords.j0 k a1 a2 bt365.1 bt365.2 bt373.1 bt373.2 true l0_0 t369)))))))))
theorem laws_FnExactAlikeWords.mono_l : ∀ k, (∀ y0 y1 y2 y3 y4 y5 y6 y7 y8, LeO (laws_FnExactAlikeWords.j0 k y0 y1 y2 y3 y4 y5 y6 y7 y8) (laws_FnExactAlikeWords.j0 (k + 1) y0 y1 y2 y3 y4 y5 y6 y7 y8)) ∧ (∀ y0 y1 y2 y3 y4 y5 y6, LeO (laws_FnExactAlikeWords.j1 k y0 y1 y2 y3 y4 y5 y6) (laws_FnExactAlikeWords.j1 (k + 1) y0 y1 y2 y3 y4 y5 y6)) ∧ (∀ y0 y1 y2, LeO (laws_FnExactAlikeWords.j2 k y0 y1 y2) (laws_FnExactAlikeWords.j2 (k + 1) y0 y1 y2))
 | 0 => ⟨fun _ _ _ _ _ _ _ _ _ r h => by simp [laws_FnExactAlikeWords.j0] at h, fun _ _ _ _ _ _ _ r h => by simp [laws_FnExactAlikeWords.j1] at h, fun _ _ _ r h => by simp [laws_FnExactAlikeWords.j2] at h⟩
 | k + 1 => by
  obtain ⟨ih0, ih1, ih2⟩ := laws_FnExactAlikeWords.mono_l k
  refine ⟨?_, ?_, ?_⟩
  ·
   intro y0 y1 y2 y3 y4 y5 y6 y7 y8
   unfold laws_FnExactAlikeWords.j0
   repeat' with_reducible first | exact ih0 _ _ _ _ _ _ _ _ _ | exact ih1 _ _ _ _ _ _ _ | exact ih2 _ _ _ | exact impl_AlikeWords.mono _ _ _ _ | exact laws_eqStringS.mono _ _ _ | exact laws_eqTrie.mono _ _ _ | exact laws_heldStringS.mono _ _ _ | exact laws_markStringS.mono _ _ _ | exact laws_markTrie.mono _ _ _ | exact laws_toTrie.mono _ _ | exact spec_AlikeWords.mono _ _ _ _ | exact LeO.refl _ | exact LeO.none _ | refine LeO.ite ?_ ?_ | refine LeO.bind ?_ (fun _ => ?_)
  ·
   intro y0 y1 y2 y3 y4 y5 y6
   unfold laws_FnExactAlikeWords.j1
   repeat' with_reducible first | exact ih0 _ _ _ _ _ _ _ _ _ | exact ih1 _ _ _ _ _ _ _ | exact ih2 _ _ _ | exact impl_AlikeWords.mono _ _ _ _ | exact laws_eqStringS.mono _ _ _ | exact laws_eqTrie.mono _ _ _ | exact laws_heldStringS.mono _ _ _ | exact laws_markStringS.mono _ _ _ | exact laws_markTrie.mono _ _ _ | exact laws_toTrie.mono _ _ | exact spec_AlikeWords.mono _ _ _ _ | exact LeO.refl _ | exact LeO.none _ | refine LeO.ite ?_ ?_ | refine LeO.bind ?_ (fun _ => ?_)
  ·
   intro y0 y1 y2
   unfold laws_FnExactAlikeWords.j2
   repeat' with_reducible first | exact ih0 _ _ _ _ _ _ _ _ _ | exact ih1 _ _ _ _ _ _ _ | exact ih2 _ _ _ | exact impl_AlikeWords.mono _ _ _ _ | exact laws_eqStringS.mono _ _ _ | exact laws_eqTrie.mono _ _ _ | exact laws_heldStringS.mono _ _ _ | exact laws_markStringS.mono _ _ _ | exact laws_markTrie.mono _ _ _ | exact laws_toTrie.mono _ _ | exact spec_AlikeWords.mono _ _ _ _ | exact LeO.refl _ | exact LeO.none _ | refine LeO.ite ?_ ?_ | refine LeO.bind ?_ (fun _ => ?_)
theorem laws_FnExactAlikeWords.mono : ∀ a0 a1 a2 k, LeO (laws_FnExactAlikeWords.f k a0 a1 a2) (laws_FnExactAlikeWords.f (k + 1) a0 a1 a2) := by
 intro a0 a1 a2 k
 obtain ⟨ih0, ih1, ih2⟩ := laws_FnExactAlikeWords.mono_l k
 unfold laws_FnExactAlikeWords.f
 repeat' with_reducible first | exact ih0 _ _ _ _ _ _ _ _ _ | exact ih1 _ _ _ _ _ _ _ | exact ih2 _ _ _ | exact impl_AlikeWords.mono _ _ _ _ | exact laws_eqStringS.mono _ _ _ | exact laws_eqTrie.mono _ _ _ | exact laws_heldStringS.mono _ _ _ | exact laws_markStringS.mono _ _ _ | exact laws_markTrie.mono _ _ _ | exact laws_toTrie.mono _ _ | exact spec_AlikeWords.mono _ _ _ _ | exact LeO.refl _ | exact LeO.none _ | refine LeO.ite ?_ ?_ | refine LeO.bind ?_ (fun _ => ?_)
theorem laws_FnExactAlikeWords.calls (k : Nat) (A0_0 : Option Addr) (c0_0 : Nat) (l0_0 : List (S67)) (a1 : ByteArray) (a2 : Int) (r : Bool) (w : World) (hr0_0 : Kd.C k67 w A0_0 l0_0.length l0_0) (hc0_0 : l0_0.length ≤ c0_0) (h : laws_FnExactAlikeWords.f k l0_0 a1 a2 = some r) :
  Calls Tryz.prog 3 #[.agg #[.slice A0_0 l0_0.length c0_0], .string a1, .int .i64 a2] w fun e w' => e = .returned (.bool r) ∧ Below w.heap.size w w' := by
 have hu24 := Tryz.underlying24
 have hu31 := Tryz.underlying31
 have HR0_0 := Aside0.mk hr0_0
 have HC0_0 := Aside0.mk hc0_0
 clear hr0_0 hc0_0
 have HB := Aside0.mk (Below.refl w.heap.size w)
 have H : (if (a1.size : Int) > 1048576 then (some true) else ((laws_szTrie.f l0_0 1048576).bind fun t361 => (if t361 < 0 then (some true) else ((laws_toTrie.f k l0_0).bind fun t362 => ((spec_AlikeWords.f k t362 a1 a2).bind fun bt365 => ((laws_toTrie.f k l0_0).bind fun t369 => ((impl_AlikeWords.f k t369 a1 a2).bind fun bt373 => ((laws_eqStringS.f k bt373.1 bt365.1).bind fun t377 => (if t377 = true then (laws_FnExactAlikeWords.j0 k a1 a2 bt365.1 bt365.2 bt373.1 bt373.2 (bt373.2 != bt365.2) l0_0 t369) else (laws_FnExactAlikeWords.j0 k a1 a2 bt365.1 bt365.2 bt373.1 bt373.2 true l0_0 t369)))))))))) = some r := h
 clear h
 by_cases c4 : (a1.size : Int) > 1048576
 ·
  rw [if_pos c4] at H
  have c4b0 : decide (1048576 < (a1.size : Int)) = true := decide_eq_true c4
  have c4b1 : decide (1048576 < a1.size) = true := decide_eq_true (by omega)
  clear c4
  obtain rfl := Option.some.inj H
  go_enter Tryz.func3, Tryz.ntmps3
  go_wp2_with (first | ((with_reducible refine gate_dst (N := 3) rfl ?_); refine box_event ?hg (N := 3) ?hd (cs := #[.slice A0_0 l0_0.length c0_0]) (t := 24) ?hr ?_; (case hd => rfl); (case hg => rfl); (case hr => first | (go_simp; done) | (go_simp; rfl)); intro gb360 hg w5 hbox hb; have n0_ := Aside0.mk (below_step (by repeat (first | (with_reducible first | exact HB.out | apply below_alloc | apply pw_below_drewN | apply below_drew1) | exact HB.out)) hb); have n1_ := Aside0.mk (hbox); have n2_ := Aside0.mk ((by rw [hg]; exact (below_size (by repeat (first | (with_reducible first | exact HB.out | apply below_alloc | apply pw_below_drewN | apply below_drew1) | exact HB.out))) : w.heap.size ≤ gb360)); have n3_ := Aside0.mk ((by rw [hg]; exact (below_size (by repeat (first | (with_reducible first | exact HB.out | apply below_alloc | apply pw_below_drewN | apply below_drew1) | exact HB.out))) : w.heap.size ≤ gb360)); clear HB; have HB := n0_; have BK360 := n1_; have GW360 := n2_; have GE360 := n3_; clear n0_ n1_ n2_ n3_; clear hb hbox hg))
  go_ret
  exact ⟨by first | rfl | (simp [errW_none, errW_some] <;> rfl) | (simp [*, errW_none, errW_some] <;> rfl), by repeat (first | (with_reducible first | exact HB.out | apply below_alloc | apply pw_below_drewN | apply below_drew1 | refine below_set ?_ GE360.out) | exact HB.out)⟩
 ·
  rw [if_neg c4] at H
  have c4b0 : decide (1048576 < (a1.size : Int)) = false := decide_eq_false c4
  have c4b1 : decide (1048576 < a1.size) = false := decide_eq_false (by omega)
  clear c4
  replace H := Option.bind_eq_some_iff.mp H
  obtain ⟨t361, A60, H⟩ := H
  replace H : (if t361 < 0 then (some true) else ((laws_toTrie.f k l0_0).bind fun t362 => ((spec_AlikeWords.f k t362 a1 a2).bind fun bt365 => ((laws_toTrie.f k l0_0).bind fun t369 => ((impl_AlikeWords.f k t369 a1 a2).bind fun bt373 => ((laws_eqStringS.f k bt373.1 bt365.1).bind fun t377 => (if t377 = true then (laws_FnExactAlikeWords.j0 k a1 a2 bt365.1 bt365.2 bt373.1 bt373.2 (bt373.2 != bt365.2) l0_0 t369) else (laws_FnExactAlikeWords.j0 k a1 a2 bt365.1 bt365.2 bt373.1 bt373.2 true l0_0 t369)))))))) = some r := H
  have A6 := Aside0.mk A60
  clear A60
  by_cases c7 : t361 < 0
  ·
   rw [if_pos c7] at H
   have c7b0 : decide (t361 < 0) = true := decide_eq_true c7
   clear c7
   obtain rfl := Option.some.inj H
   go_enter Tryz.func3, Tryz.ntmps3
   go_wp2_with (first | ((with_reducible refine gate_dst (N := 3) rfl ?_); refine box_event ?hg (N := 3) ?hd (cs := #[.slice A0_0 l0_0.length c0_0]) (t := 24) ?hr ?_; (case hd => rfl); (case hg => rfl); (case hr => first | (go_simp; done) | (go_simp; rfl)); intro gb360 hg w8 hbox hb; have n0_ := Aside0.mk (below_step (by repeat (first | (with_reducible first | exact HB.out | apply below_alloc | apply pw_below_drewN | apply below_drew1) | exact HB.out)) hb); have n1_ := Aside0.mk (hbox); have n2_ := Aside0.mk ((by rw [hg]; exact (below_size (by repeat (first | (with_reducible first | exact HB.out | apply below_alloc | apply pw_below_drewN | apply below_drew1) | exact HB.out))) : w.heap.size ≤ gb360)); have n3_ := Aside0.mk ((by rw [hg]; exact (below_size (by repeat (first | (with_reducible first | exact HB.out | apply below_alloc | apply pw_below_drewN | apply below_drew1) | exact HB.out))) : w.heap.size ≤ gb360)); clear HB; have HB := n0_; have BK360 := n1_; have GW360 := n2_; have GE360 := n3_; clear n0_ n1_ n2_ n3_; clear hb hbox hg; have hcz9_0 : w8.cell? ⟨gb360, 0, none⟩ = some (.slice A0_0 l0_0.length c0_0) := (blk_cell BK360.out 0).trans rfl; have hfz9_0 := blk_frozen BK360.out 0) | ((with_reducible refine gate_callee (f := 6) rfl ?_); refine goesL_ (some 23) rfl rfl Tryz.func6 (by kernel_rfl) rfl #[.agg #[.slice A0_0 l0_0.length c0_0], .int .i64 1048576] rfl (by (try simp only [List.map_toArray, List.map_cons, List.map_nil]); first | done | rfl | (simp only [List.length_drop, List.length_take]; rfl)) ?_; (with_reducible refine (laws_szTrie.calls _ _ l0_0 1048576 t361 _ ?side1 ?side2 A6.out).mono ?_); (case side1 => repeat (first | exact (Kd.C_below HR0_0.out HB.out) | (with_reducible refine Kd.C_alloc ?_ _) | (with_reducible refine Kd.C_drewN ?_ _) | (with_reducible refine Kd.C_drew ?_))); (case side2 => exact HC0_0.out); rintro e w10 ⟨rfl, hb⟩; refine ⟨_, rfl, ?_⟩; have n0_ := Aside0.mk (blk_below (g := gb360) (o := .cells #[.slice A0_0 l0_0.length c0_0] 24 (0, 0)) (by (with_reducible repeat (first | refine blk_drewN ?_ _ | refine blk_drew ?_ | refine blk_alloc ?_ _)); exact BK360.out) hb); have n1_ := Aside0.mk (below_step (by repeat (first | (with_reducible first | exact HB.out | apply below_alloc | apply pw_below_drewN | apply below_drew1 | refine below_set ?_ GE360.out) | exact HB.out)) hb); clear BK360; clear HB; have BK360 := n0_; have HB := n1_; clear n0_ n1_; (try clear hb); (try clear hb2); (try clear hk); (try clear hi)))
   go_ret
   exact ⟨by first | rfl | (simp [errW_none, errW_some] <;> rfl) | (simp [*, errW_none, errW_some] <;> rfl), by repeat (first | (with_reducible first | exact HB.out | apply below_alloc | apply pw_below_drewN | apply below_drew1 | refine below_set ?_ GE360.out) | exact HB.out)⟩
  ·
   rw [if_neg c7] at H
   have c7b0 : decide (t361 < 0) = false := decide_eq_false c7
   clear c7
   replace H := Option.bind_eq_some_iff.mp H
   obtain ⟨t362, A110, H⟩ := H
   replace H : ((spec_AlikeWords.f k t362 a1 a2).bind fun bt365 => ((laws_toTrie.f k l0_0).bind fun t369 => ((impl_AlikeWords.f k t369 a1 a2).bind fun bt373 => ((laws_eqStringS.f k bt373.1 bt365.1).bind fun t377 => (if t377 = true then (laws_FnExactAlikeWords.j0 k a1 a2 bt365.1 bt365.2 bt373.1 bt373.2 (bt373.2 != bt365.2) l0_0 t369) else (laws_FnExactAlikeWords.j0 k a1 a2 bt365.1 bt365.2 bt373.1 bt373.2 true l0_0 t369)))))) = some r := H
   have A11 := Aside0.mk A110
   clear A110
   replace H := Option.bind_eq_some_iff.mp H
   obtain ⟨⟨t365, t368⟩, A120, H⟩ := H
   replace H : ((laws_toTrie.f k l0_0).bind fun t369 => ((impl_AlikeWords.f k t369 a1 a2).bind fun bt373 => ((laws_eqStringS.f k bt373.1 t365).bind fun t377 => (if t377 = true then (laws_FnExactAlikeWords.j0 k a1 a2 t365 t368 bt373.1 bt373.2 (bt373.2 != t368) l0_0 t369) else (laws_FnExactAlikeWords.j0 k a1 a2 t365 t368 bt373.1 bt373.2 true l0_0 t369))))) = some r := H
   have A12 := Aside0.mk A120
   clear A120
   replace H := Option.bind_eq_some_iff.mp H
   obtain ⟨t369, A130, H⟩ := H
   replace H : ((impl_AlikeWords.f k t369 a1 a2).bind fun bt373 => ((laws_eqStringS.f k bt373.1 t365).bind fun t377 => (if t377 = true then (laws_FnExactAlikeWords.j0 k a1 a2 t365 t368 bt373.1 bt373.2 (bt373.2 != t368) l0_0 t369) else (laws_FnExactAlikeWords.j0 k a1 a2 t365 t368 bt373.1 bt373.2 true l0_0 t369)))) = some r := H
   have A13 := Aside0.mk A130
   clear A130
   replace H := Option.bind_eq_some_iff.mp H
   obtain ⟨⟨t373, t376⟩, A140, H⟩ := H
   replace H : ((laws_eqStringS.f k t373 t365).bind fun t377 => (if t377 = true then (laws_FnExactAlikeWords.j0 k a1 a2 t365 t368 t373 t376 (t376 != t368) l0_0 t369) else (laws_FnExactAlikeWords.j0 k a1 a2 t365 t368 t373 t376 true l0_0 t369))) = some r := H
   have A14 := Aside0.mk A140
   clear A140
   have HC15 := Aside0.mk H
   clear H
   go_enter Tryz.func3, Tryz.ntmps3
   go_upto_region 10 with (first | ((with_reducible refine gate_dst (N := 3) rfl ?_); refine box_event ?hg (N := 3) ?hd (cs := #[.slice A0_0 l0_0.length c0_0]) (t := 24) ?hr ?_; (case hd => rfl); (case hg => rfl); (case hr => first | (go_simp; done) | (go_simp; rfl)); intro gb360 hg w16 hbox hb; have n0_ := Aside0.mk (below_step (by repeat (first | (with_reducible first | exact HB.out | apply below_alloc | apply pw_below_drewN | apply below_drew1) | exact HB.out)) hb); have n1_ := Aside0.mk (hbox); have n2_ := Aside0.mk ((by rw [hg]; exact (below_size (by repeat (first | (with_reducible first | exact HB.out | apply below_alloc | apply pw_below_drewN | apply below_drew1) | exact HB.out))) : w.heap.size ≤ gb360)); have n3_ := Aside0.mk ((by rw [hg]; exact (below_size (by repeat (first | (with_reducible first | exact HB.out | apply below_alloc | apply pw_below_drewN | apply below_drew1) | exact HB.out))) : w.heap.size ≤ gb360)); clear HB; have HB := n0_; have BK360 := n1_; have GW360 := n2_; have GE360 := n3_; clear n0_ n1_ n2_ n3_; clear hb hbox hg; have hcz17_0 : w16.cell? ⟨gb360, 0, none⟩ = some (.slice A0_0 l0_0.length c0_0) := (blk_cell BK360.out 0).trans rfl; have hfz17_0 := blk_frozen BK360.out 0) | ((with_reducible refine gate_callee (f := 6) rfl ?_); refine goesL_ (some 23) rfl rfl Tryz.func6 (by kernel_rfl) rfl #[.agg #[.slice A0_0 l0_0.length c0_0], .int .i64 1048576] rfl (by (try simp only [List.map_toArray, List.map_cons, List.map_nil]); first | done | rfl | (simp only [List.length_drop, List.length_take]; rfl)) ?_; (with_reducible refine (laws_szTrie.calls _ _ l0_0 1048576 t361 _ ?side1 ?side2 A6.out).mono ?_); (case side1 => repeat (first | exact (Kd.C_below HR0_0.out HB.out) | (with_reducible refine Kd.C_alloc ?_ _) | (with_reducible refine Kd.C_drewN ?_ _) | (with_reducible refine Kd.C_drew ?_))); (case side2 => exact HC0_0.out); rintro e w18 ⟨rfl, hb⟩; refine ⟨_, rfl, ?_⟩; have n0_ := Aside0.mk (blk_below (g := gb360) (o := .cells #[.slice A0_0 l0_0.length c0_0] 24 (0, 0)) (by (with_reducible repeat (first | refine blk_drewN ?_ _ | refine blk_drew ?_ | refine blk_alloc ?_ _)); exact BK360.out) hb); have n1_ := Aside0.mk (below_step (by repeat (first | (with_reducible first | exact HB.out | apply below_alloc | apply pw_below_drewN | apply below_drew1 | refine below_set ?_ GE360.out) | exact HB.out)) hb); clear BK360; clear HB; have BK360 := n0_; have HB := n1_; clear n0_ n1_; (try clear hb); (try clear hb2); (try clear hk); (try clear hi); have hcz19_0 : w18.cell? ⟨gb360, 0, none⟩ = some (.slice A0_0 l0_0.length c0_0) := (blk_cell BK360.out 0).trans rfl; have hfz19_0 := blk_frozen BK360.out 0) | ((with_reducible refine gate_callee (f := 8) rfl ?_); refine goesL_ (some 28) rfl rfl Tryz.func8 (by kernel_rfl) rfl #[.agg #[.slice A0_0 l0_0.length c0_0]] rfl (by (try simp only [List.map_toArray, List.map_cons, List.map_nil]); first | done | rfl | (simp only [List.length_drop, List.length_take]; rfl)) ?_; (with_reducible refine (laws_toTrie.calls k _ _ l0_0 t362 _ ?side1 ?side2 A11.out).mono ?_); (case side1 => repeat (first | exact (Kd.C_below HR0_0.out HB.out) | (with_reducible refine Kd.C_alloc ?_ _) | (with_reducible refine Kd.C_drewN ?_ _) | (with_reducible refine Kd.C_drew ?_))); (case side2 => exact HC0_0.out); rintro e w20 ⟨v363, rfl, ho0, hb⟩; refine ⟨_, rfl, ?_⟩; have n0_ := Aside0.mk (Kd.R_lower ho0 (below_size (by repeat (first | (with_reducible first | exact HB.out | apply below_alloc | apply pw_below_drewN | apply below_drew1 | refine below_set ?_ GE360.out) | exact HB.out)))); have n1_ := Aside0.mk (blk_below (g := gb360) (o := .cells #[.slice A0_0 l0_0.length c0_0] 24 (0, 0)) (by (with_reducible repeat (first | refine blk_drewN ?_ _ | refine blk_drew ?_ | refine blk_alloc ?_ _)); exact BK360.out) hb); have n2_ := Aside0.mk (below_step (by repeat (first | (with_reducible first | exact HB.out | apply below_alloc | apply pw_below_drewN | apply below_drew1 | refine below_set ?_ GE360.out) | exact HB.out)) hb); clear BK360; clear HB; have HO364 := n0_; have BK360 := n1_; have HB := n2_; clear n0_ n1_ n2_; (try clear hb); (try clear hb2); (try clear hk); (try clear hi); (try clear ho0); obtain ⟨Ao21, co21, eo21⟩ := Kd.R_slice HO364.out; subst eo21) | ((with_reducible refine gate_callee (f := 7) rfl ?_); refine goesL_ (some 31) rfl rfl Tryz.func7 (by kernel_rfl) rfl #[.agg #[.slice Ao21 t362.length co21], .string a1, .int .i64 a2] rfl (by (try simp only [List.map_toArray, List.map_cons, List.map_nil]); first | done | rfl | (simp only [List.length_drop, List.length_take]; rfl)) ?_; (with_reducible refine (spec_AlikeWords.calls k _ _ t362 a1 a2 t365 t368 _ ?side1 ?side2 A12.out).mono ?_); (case side1 => repeat (first | exact (Kd.R_reads' HO364.out).2.2 | (with_reducible refine Kd.C_alloc ?_ _) | (with_reducible refine Kd.C_drewN ?_ _) | (with_reducible refine Kd.C_drew ?_))); (case side2 => exact (Kd.R_reads' HO364.out).2.1); rintro e w22 ⟨v366, rfl, ho0, hb⟩; refine ⟨_, rfl, ?_⟩; have n0_ := Aside0.mk (Kd.R_below (by (with_reducible repeat (first | apply Kd.R_alloc | apply Kd.R_drewN | apply Kd.R_drew)); exact HO364.out) hb); have n1_ := Aside0.mk (Kd.R_lower ho0 (below_size (by repeat (first | (with_reducible first | exact HB.out | apply below_alloc | apply pw_below_drewN | apply below_drew1 | refine below_set ?_ GE360.out) | exact HB.out)))); have n2_ := Aside0.mk (blk_below (g := gb360) (o := .cells #[.slice A0_0 l0_0.length c0_0] 24 (0, 0)) (by (with_reducible repeat (first | refine blk_drewN ?_ _ | refine blk_drew ?_ | refine blk_alloc ?_ _)); exact BK360.out) hb); have n3_ := Aside0.mk (below_step (by repeat (first | (with_reducible first | exact HB.out | apply below_alloc | apply pw_below_drewN | apply below_drew1 | refine below_set ?_ GE360.out) | exact HB.out)) hb); clear HO364; clear BK360; clear HB; have HO364 := n0_; have HO367 := n1_; have BK360 := n2_; have HB := n3_; clear n0_ n1_ n2_ n3_; (try clear hb); (try clear hb2); (try clear hk); (try clear hi); (try clear ho0); have hcz23_0 : w22.cell? ⟨gb360, 0, none⟩ = some (.slice A0_0 l0_0.length c0_0) := (blk_cell BK360.out 0).trans rfl; have hfz23_0 := blk_frozen BK360.out 0) | ((with_reducible refine gate_callee (f := 8) rfl ?_); refine goesL_ (some 35) rfl rfl Tryz.func8 (by kernel_rfl) rfl #[.agg #[.slice A0_0 l0_0.length c0_0]] rfl (by (try simp only [List.map_toArray, List.map_cons, List.map_nil]); first | done | rfl | (simp only [List.length_drop, List.length_take]; rfl)) ?_; (with_reducible refine (laws_toTrie.calls k _ _ l0_0 t369 _ ?side1 ?side2 A13.out).mono ?_); (case side1 => repeat (first | exact (Kd.C_below HR0_0.out HB.out) | (with_reducible refine Kd.C_alloc ?_ _) | (with_reducible refine Kd.C_drewN ?_ _) | (with_reducible refine Kd.C_drew ?_))); (case side2 => exact HC0_0.out); rintro e w24 ⟨v370, rfl, ho0, hb⟩; refine ⟨_, rfl, ?_⟩; have n0_ := Aside0.mk (Kd.R_elder' (by (with_reducible repeat (first | apply Kd.R_alloc | apply Kd.R_drewN | apply Kd.R_drew)); exact HO364.out) (Kd.R_base ho0) hb); have n1_ := Aside0.mk (Kd.R_below (by (with_reducible repeat (first | apply Kd.R_alloc | apply Kd.R_drewN | apply Kd.R_drew)); exact HO367.out) hb); have n2_ := Aside0.mk (Kd.R_lower (Kd.R_new' ho0 (Kd.R_lt (by (with_reducible repeat (first | apply Kd.R_alloc | apply Kd.R_drewN | apply Kd.R_drew)); exact HO364.out))) (below_size (by repeat (first | (with_reducible first | exact HB.out | apply below_alloc | apply pw_below_drewN | apply below_drew1 | refine below_set ?_ GE360.out) | exact HB.out)))); have n3_ := Aside0.mk (blk_below (g := gb360) (o := .cells #[.slice A0_0 l0_0.length c0_0] 24 (0, 0)) (by (with_reducible repeat (first | refine blk_drewN ?_ _ | refine blk_drew ?_ | refine blk_alloc ?_ _)); exact BK360.out) hb); have n4_ := Aside0.mk (below_step (by repeat (first | (with_reducible first | exact HB.out | apply below_alloc | apply pw_below_drewN | apply below_drew1 | refine below_set ?_ GE360.out) | exact HB.out)) hb); clear HO364; clear HO367; clear BK360; clear HB; have HO364 := n0_; have HO367 := n1_; have HO371 := n2_; have BK360 := n3_; have HB := n4_; clear n0_ n1_ n2_ n3_ n4_; (try clear hb); (try clear hb2); (try clear hk); (try clear hi); (try clear ho0)) | ((with_reducible refine gate_dst (N := 10) rfl ?_); refine box_event ?hg (N := 10) ?hd (cs := #[.slice none 0 0]) (t := 31) ?hr ?_; (case hd => rfl); (case hg => rfl); (case hr => first | (go_simp; done) | (go_simp; rfl)); intro gb372 hg w25 hbox hb; have n0_ := Aside0.mk (Kd.R_below (by (with_reducible repeat (first | apply Kd.R_alloc | apply Kd.R_drewN | apply Kd.R_drew)); exact HO364.out) hb); have n1_ := Aside0.mk (Kd.R_below (by (with_reducible repeat (first | apply Kd.R_alloc | apply Kd.R_drewN | apply Kd.R_drew)); exact HO367.out) hb); have n2_ := Aside0.mk (Kd.R_below (by (with_reducible repeat (first | apply Kd.R_alloc | apply Kd.R_drewN | apply Kd.R_drew)); exact HO371.out) hb); have n3_ := Aside0.mk (blk_below (g := gb360) (o := .cells #[.slice A0_0 l0_0.length c0_0] 24 (0, 0)) (by (with_reducible repeat (first | refine blk_drewN ?_ _ | refine blk_drew ?_ | refine blk_alloc ?_ _)); exact BK360.out) hb); have n4_ := Aside0.mk (below_step (by repeat (first | (with_reducible first | exact HB.out | apply below_alloc | apply pw_below_drewN | apply below_drew1 | refine below_set ?_ GE360.out) | exact HB.out)) hb); have n5_ := Aside0.mk (hbox); have n6_ := Aside0.mk ((by rw [hg]; exact (below_size (by repeat (first | (with_reducible first | exact HB.out | apply below_alloc | apply pw_below_drewN | apply below_drew1 | refine below_set ?_ GE360.out) | exact HB.out))) : w.heap.size ≤ gb372)); have n7_ := Aside0.mk ((by rw [hg]; exact (below_size (by repeat (first | (with_reducible first | exact HB.out | apply below_alloc | apply pw_below_drewN | apply below_drew1 | refine below_set ?_ GE360.out) | exact HB.out))) : w.heap.size ≤ gb372)); have n8_ := Aside0.mk ((by rw [hg]; exact Nat.ne_of_lt (blk_lt (g := gb360) (o := .cells #[.slice A0_0 l0_0.length c0_0] 24 (0, 0)) (by (with_reducible repeat (first | refine blk_drewN ?_ _ | refine blk_drew ?_ | refine blk_alloc ?_ _)); exact BK360.out)) : gb360 ≠ gb372)); have n9_ := Aside0.mk ((by rw [hg]; exact Nat.ne_of_gt (blk_lt (g := gb360) (o := .cells #[.slice A0_0 l0_0.length c0_0] 24 (0, 0)) (by (with_reducible repeat (first | refine blk_drewN ?_ _ | refine blk_drew ?_ | refine blk_alloc ?_ _)); exact BK360.out)) : gb372 ≠ gb360)); clear HO364; clear HO367; clear HO371; clear BK360; clear HB; have HO364 := n0_; have HO367 := n1_; have HO371 := n2_; have BK360 := n3_; have HB := n4_; have BK372 := n5_; have GW372 := n6_; have GE372 := n7_; have NB360_372 := n8_; have NB372_360 := n9_; clear n0_ n1_ n2_ n3_ n4_ n5_ n6_ n7_ n8_ n9_; clear hb hbox hg; obtain ⟨Ao26, co26, eo26⟩ := Kd.R_slice HO371.out; subst eo26; have hnb27 := NB372_360.out; have hnc27 := NB360_372.out; have hcz28_0 : w25.cell? ⟨gb372, 0, none⟩ = some (.slice none 0 0) := (blk_cell BK372.out 0).trans rfl; have hfz28_0 := blk_frozen BK372.out 0) | ((with_reducible refine gate_callee (f := 9) rfl ?_); refine goesL_ (some 40) rfl rfl Tryz.func9 (by kernel_rfl) rfl #[.agg #[.slice Ao26 t369.length co26], .string a1, .int .i64 a2] rfl (by (try simp only [List.map_toArray, List.map_cons, List.map_nil]); first | done | rfl | (simp only [List.length_drop, List.length_take]; rfl)) ?_; (with_reducible refine (impl_AlikeWords.calls k _ _ t369 a1 a2 t373 t376 _ ?side1 ?side2 A14.out).mono ?_); (case side1 => refine (Kd.R_reads' (e := 64) (base := w.heap.size) (ok := fun k_ => (True ∧ some k_ ≠ (.slice Ao21 t362.length co21 : Value).ownBlock)) (n := t369.length) (c := co26) ?_).2.2; exact (by (with_reducible repeat (first | apply Kd.R_alloc | apply Kd.R_drewN | apply Kd.R_drew)); exact (Kd.R_mono (Kd.R_far (p := ⟨gb372, 0, none⟩) (Kd.R_types HO371.out BK372.out (by decide)) (fun _ hk => hk.2) (.slice Ao26 t369.length co26)) (fun _ h_ => h_.1)))); (case side2 => exact (Kd.R_reads' HO371.out).2.1); rintro e w29 ⟨v374, rfl, ho0, hb⟩; refine ⟨_, rfl, ?_⟩; have n0_ := Aside0.mk (Kd.R_below (by (with_reducible repeat (first | apply Kd.R_alloc | apply Kd.R_drewN | apply Kd.R_drew)); exact (Kd.R_mono (Kd.R_far (p := ⟨gb372, 0, none⟩) (Kd.R_types HO364.out BK372.out (by decide)) (fun _ hk => hk.2) (.slice Ao26 t369.length co26)) (fun _ h_ => h_.1))) hb); have n1_ := Aside0.mk (Kd.R_elder' (by (with_reducible repeat (first | apply Kd.R_alloc | apply Kd.R_drewN | apply Kd.R_drew)); exact (Kd.R_mono (Kd.R_far (p := ⟨gb372, 0, none⟩) (Kd.R_types HO367.out BK372.out (by decide)) (fun _ hk => hk.2) (.slice Ao26 t369.length co26)) (fun _ h_ => h_.1))) (Kd.R_base ho0) hb); have n2_ := Aside0.mk (Kd.R_below (by (with_reducible repeat (first | apply Kd.R_alloc | apply Kd.R_drewN | apply Kd.R_drew)); exact (Kd.R_mono (Kd.R_far (p := ⟨gb372, 0, none⟩) (Kd.R_types HO371.out BK372.out (by decide)) (fun _ hk => hk.2) (.slice Ao26 t369.length co26)) (fun _ h_ => h_.1))) hb); have n3_ := Aside0.mk (Kd.R_lower (Kd.R_new' ho0 (Kd.R_lt (by (with_reducible repeat (first | apply Kd.R_alloc | apply Kd.R_drewN | apply Kd.R_drew)); exact (Kd.R_mono (Kd.R_far (p := ⟨gb372, 0, none⟩) (Kd.R_types HO367.out BK372.out (by decide)) (fun _ hk => hk.2) (.slice Ao26 t369.length co26)) (fun _ h_ => h_.1))))) (below_size (by repeat (first | (with_reducible first | exact HB.out | apply below_alloc | apply pw_below_drewN | apply below_drew1 | refine below_set ?_ GE360.out | refine below_set ?_ GE372.out) | exact HB.out)))); have n4_ := Aside0.mk (blk_below (g := gb360) (o := .cells #[.slice A0_0 l0_0.length c0_0] 24 (0, 0)) (by (with_reducible repeat (first | refine blk_drewN ?_ _ | refine blk_drew ?_ | refine blk_alloc ?_ _)); refine blk_far ?_ NB360_372.out _; (with_reducible repeat (first | refine blk_drewN ?_ _ | refine blk_drew ?_ | refine blk_alloc ?_ _)); exact BK360.out) hb); have n5_ := Aside0.mk (blk_below (g := gb372) (o := .cells #[.slice Ao26 t369.length co26] 31 (0, 0)) (by (with_reducible repeat (first | refine blk_drewN ?_ _ | refine blk_drew ?_ | refine blk_alloc ?_ _)); refine blk_put (cs := #[.slice none 0 0]) ?_ 0 _ rfl; (with_reducible repeat (first | refine blk_drewN ?_ _ | refine blk_drew ?_ | refine blk_alloc ?_ _)); exact BK372.out) hb); have n6_ := Aside0.mk (below_step (by repeat (first | (with_reducible first | exact HB.out | apply below_alloc | apply pw_below_drewN | apply below_drew1 | refine below_set ?_ GE360.out | refine below_set ?_ GE372.out) | exact HB.out)) hb); clear HO364; clear HO367; clear HO371; clear BK360; clear BK372; clear HB; have HO364 := n0_; have HO367 := n1_; have HO371 := n2_; have HO375 := n3_; have BK360 := n4_; have BK372 := n5_; have HB := n6_; clear n0_ n1_ n2_ n3_ n4_ n5_ n6_; (try clear hb); (try clear hb2); (try clear hk); (try clear hi); (try clear ho0)))
   (try simp only [Act.put, List.setIfInBounds_toArray, List.set_cons_zero, List.set_cons_succ])
   go_cut [51] (fun v51 wc => ∃ (kq : Nat) (x51_14 : Bool), v51 = .bool x51_14 ∧ Aside0 (laws_FnExactAlikeWords.j0 kq a1 a2 t365 t368 t373 t376 x51_14 l0_0 t369 = some r) ∧ Aside0 (kq ≤ k) ∧ Aside0 (Kd.R Kd.string 9 wc w.heap.size (fun k_ => some k_ ≠ (v374 : Value).ownBlock) v366 t365) ∧ Aside0 (Kd.R Kd.string 9 wc w.heap.size (fun k_ => some k_ ≠ (v366 : Value).ownBlock) v374 t373) ∧ Aside0 (Kd.R k64 64 wc w.heap.size (fun _ => True) (.slice Ao26 t369.length co26) t369) ∧ Aside0 (wc.heap[gb360]? = some (.cells #[(.slice A0_0 l0_0.length c0_0)] 24 (0, 0))) ∧ Aside0 (wc.heap[gb372]? = some (.cells #[(.slice Ao26 t369.length co26)] 31 (0, 0))) ∧ Aside0 (Below w.heap.size w wc))
   case first =>
    have H := HC15.out
    clear HC15
    replace H := Option.bind_eq_some_iff.mp H
    obtain ⟨t377, A300, H⟩ := H
    replace H : (if t377 = true then (laws_FnExactAlikeWords.j0 k a1 a2 t365 t368 t373 t376 (t376 != t368) l0_0 t369) else (laws_FnExactAlikeWords.j0 k a1 a2 t365 t368 t373 t376 true l0_0 t369)) = some r := H
    have A30 := Aside0.mk A300
    clear A300
    by_cases c31 : t377 = true
    ·
     subst c31
     replace H : (laws_FnExactAlikeWords.j0 k a1 a2 t365 t368 t373 t376 (t376 != t368) l0_0 t369) = some r := by rw [if_pos rfl] at H; exact H
     have H' := Aside0.mk H
     clear H
     obtain ⟨Ao32, co32, eo32⟩ := Kd.R_slice HO375.out
     subst eo32
     obtain ⟨Ao33, co33, eo33⟩ := Kd.R_slice HO367.out
     subst eo33
     go_wp2_with (first | ((with_reducible refine gate_callee (f := 10) rfl ?_); refine goesL_ (some 45) rfl rfl Tryz.func10 (by kernel_rfl) rfl #[.slice Ao32 t373.length co32, .slice Ao33 t365.length co33] rfl (by (try simp only [List.map_toArray, List.map_cons, List.map_nil]); first | done | rfl | (simp only [List.length_drop, List.length_take]; rfl)) ?_; (with_reducible refine (laws_eqStringS.calls k _ _ t373 _ _ t365 true _ ?side1 ?side2 ?side3 ?side4 A30.out).mono ?_); (case side1 => repeat (first | exact (Kd.R_reads' HO375.out).2.2 | (with_reducible refine Kd.C_alloc ?_ _) | (with_reducible refine Kd.C_drewN ?_ _) | (with_reducible refine Kd.C_drew ?_))); (case side2 => exact (Kd.R_reads' HO375.out).2.1); (case side3 => repeat (first | exact (Kd.R_reads' HO367.out).2.2 | (with_reducible refine Kd.C_alloc ?_ _) | (with_reducible refine Kd.C_drewN ?_ _) | (with_reducible refine Kd.C_drew ?_))); (case side4 => exact (Kd.R_reads' HO367.out).2.1); rintro e w' ⟨rfl, ⟨nd, rfl⟩⟩; refine ⟨_, rfl, ?_⟩))
     go_meet
     case rel => exact ⟨_, ((t376 != t368)), (by first | rfl | (simp; done) | (simp [*]; done)), H', ⟨by first | omega | exact Nat.le_refl _⟩, ⟨by (with_reducible repeat (first | apply Kd.R_alloc | apply Kd.R_drewN | apply Kd.R_drew)); exact Kd.R_mono HO367.out (fun _ hk => hk.2)⟩, ⟨by (with_reducible repeat (first | apply Kd.R_alloc | apply Kd.R_drewN | apply Kd.R_drew)); exact Kd.R_mono HO375.out (fun _ hk => hk.2)⟩, ⟨by (with_reducible repeat (first | apply Kd.R_alloc | apply Kd.R_drewN | apply Kd.R_drew)); exact Kd.R_mono HO371.out (fun _ hk => trivial)⟩, ⟨by (with_reducible repeat (first | refine blk_drewN ?_ _ | refine blk_drew ?_ | refine blk_alloc ?_ _)); exact BK360.out⟩, ⟨by (with_reducible repeat (first | refine blk_drewN ?_ _ | refine blk_drew ?_ | refine blk_alloc ?_ _)); exact BK372.out⟩, ⟨by repeat (first | (with_reducible first | exact HB.out | apply below_alloc | apply pw_below_drewN | apply below_drew1 | refine below_set ?_ GE360.out | refine below_set ?_ GE372.out) | exact HB.out)⟩⟩
    ·
     replace c31 := Bool.eq_false_iff.mpr c31
     subst c31
     replace H : (laws_FnExactAlikeWords.j0 k a1 a2 t365 t368 t373 t376 true l0_0 t369) = some r := by rw [if_neg (show ¬ (false = true) by decide)] at H; exact H
     have H' := Aside0.mk H
     clear H
     obtain ⟨Ao34, co34, eo34⟩ := Kd.R_slice HO375.out
     subst eo34
     obtain ⟨Ao35, co35, eo35⟩ := Kd.R_slice HO367.out
     subst eo35
     go_wp2_with (first | ((with_reducible refine gate_callee (f := 10) rfl ?_); refine goesL_ (some 45) rfl rfl Tryz.func10 (by kernel_rfl) rfl #[.slice Ao34 t373.length co34, .slice Ao35 t365.length co35] rfl (by (try simp only [List.map_toArray, List.map_cons, List.map_nil]); first | done | rfl | (simp only [List.length_drop, List.length_take]; rfl)) ?_; (with_reducible refine (laws_eqStringS.calls k _ _ t373 _ _ t365 false _ ?side1 ?side2 ?side3 ?side4 A30.out).mono ?_); (case side1 => repeat (first | exact (Kd.R_reads' HO375.out).2.2 | (with_reducible refine Kd.C_alloc ?_ _) | (with_reducible refine Kd.C_drewN ?_ _) | (with_reducible refine Kd.C_drew ?_))); (case side2 => exact (Kd.R_reads' HO375.out).2.1); (case side3 => repeat (first | exact (Kd.R_reads' HO367.out).2.2 | (with_reducible refine Kd.C_alloc ?_ _) | (with_reducible refine Kd.C_drewN ?_ _) | (with_reducible refine Kd.C_drew ?_))); (case side4 => exact (Kd.R_reads' HO367.out).2.1); rintro e w' ⟨rfl, ⟨nd, rfl⟩⟩; refine ⟨_, rfl, ?_⟩))
     go_meet
     case rel => exact ⟨_, (true), (by first | rfl | (simp; done) | (simp [*]; done)), H', ⟨by first | omega | exact Nat.le_refl _⟩, ⟨by (with_reducible repeat (first | apply Kd.R_alloc | apply Kd.R_drewN | apply Kd.R_drew)); exact Kd.R_mono HO367.out (fun _ hk => hk.2)⟩, ⟨by (with_reducible repeat (first | apply Kd.R_alloc | apply Kd.R_drewN | apply Kd.R_drew)); exact Kd.R_mono HO375.out (fun _ hk => hk.2)⟩, ⟨by (with_reducible repeat (first | apply Kd.R_alloc | apply Kd.R_drewN | apply Kd.R_drew)); exact Kd.R_mono HO371.out (fun _ hk => trivial)⟩, ⟨by (with_reducible repeat (first | refine blk_drewN ?_ _ | refine blk_drew ?_ | refine blk_alloc ?_ _)); exact BK360.out⟩, ⟨by (with_reducible repeat (first | refine blk_drewN ?_ _ | refine blk_drew ?_ | refine blk_alloc ?_ _)); exact BK372.out⟩, ⟨by repeat (first | (with_reducible first | exact HB.out | apply below_alloc | apply pw_below_drewN | apply below_drew1 | refine below_set ?_ GE360.out | refine below_set ?_ GE372.out) | exact HB.out)⟩⟩
   case rest =>
    clear HC15
    try clear c1
    try clear c2
    try clear p2
    try clear c3
    try clear c4
    try clear c4b0
    try clear c4b1
    try clear c6
    try clear c7
    try clear c7b0
    try clear c8
    try clear c9
    try clear c10
    try clear c27
    try clear c31
    try clear hcz17_0
    try clear hcz19_0
    try clear hcz23_0
    try clear hcz28_0
    try clear hcz9_0
    try clear hfz17_0
    try clear hfz19_0
    try clear hfz23_0
    try clear hfz28_0
    try clear hfz9_0
    obtain ⟨kq, x51_14, rfl, HA, HJ14, HO_8, HO_11, HO_373000, BK360, BK372, HB⟩ := hcut
    cases kq with
    | zero => exact absurd HA.out (by simp [laws_FnExactAlikeWords.j0])
    | succ kj14 =>
     have H := HA.out
     clear HA
     simp only [laws_FnExactAlikeWords.j0] at H
     by_cases c36 : x51_14 = true
     ·
      subst c36
      replace H : (some false) = some r := by rw [if_pos rfl] at H; exact H
      obtain rfl := Option.some.inj H
      go_wp2
      go_ret
      exact ⟨by first | rfl | (simp [errW_none, errW_some] <;> rfl) | (simp [*, errW_none, errW_some] <;> rfl), by repeat (first | (with_reducible first | exact HB.out | apply below_alloc | apply pw_below_drewN | apply below_drew1 | refine below_set ?_ GE360.out | refine below_set ?_ GE372.out) | exact HB.out)⟩
     ·
      replace c36 := Bool.eq_false_iff.mpr c36
      subst c36
      replace H : ((laws_toTrie.f kj14 l0_0).bind fun t378 => ((laws_eqTrie.f kj14 t369 t378).bind fun t381 => (if t381 = true then ((laws_markTrie.f kj14 t369 1).bind fun bt382 => (if bt382.1 < 0 then (laws_FnExactAlikeWords.j1 kj14 a1 a2 t365 t368 t373 true l0_0) else ((laws_eqStringS.f kj14 t373 t365).bind fun t384 => (if t384 = true then (laws_FnExactAlikeWords.j1 kj14 a1 a2 t365 t368 t373 (t376 != t368) l0_0) else (laws_FnExactAlikeWords.j1 kj14 a1 a2 t365 t368 t373 true l0_0))))) else (some false)))) = some r := by rw [if_neg (show ¬ (false = true) by decide)] at H; exact H
      replace H := Option.bind_eq_some_iff.mp H
      obtain ⟨t378, A370, H⟩ := H
      replace H : ((laws_eqTrie.f kj14 t369 t378).bind fun t381 => (if t381 = true then ((laws_markTrie.f kj14 t369 1).bind fun bt382 => (if bt382.1 < 0 then (laws_FnExactAlikeWords.j1 kj14 a1 a2 t365 t368 t373 true l0_0) else ((laws_eqStringS.f kj14 t373 t365).bind fun t384 => (if t384 = true then (laws_FnExactAlikeWords.j1 kj14 a1 a2 t365 t368 t373 (t376 != t368) l0_0) else (laws_FnExactAlikeWords.j1 kj14 a1 a2 t365 t368 t373 true l0_0))))) else (some false))) = some r := H
      have A37 := Aside0.mk A370
      clear A370
      replace H := Option.bind_eq_some_iff.mp H
      obtain ⟨t381, A380, H⟩ := H
      replace H : (if t381 = true then ((laws_markTrie.f kj14 t369 1).bind fun bt382 => (if bt382.1 < 0 then (laws_FnExactAlikeWords.j1 kj14 a1 a2 t365 t368 t373 true l0_0) else ((laws_eqStringS.f kj14 t373 t365).bind fun t384 => (if t384 = true then (laws_FnExactAlikeWords.j1 kj14 a1 a2 t365 t368 t373 (t376 != t368) l0_0) else (laws_FnExactAlikeWords.j1 kj14 a1 a2 t365 t368 t373 true l0_0))))) else (some false)) = some r := H
      have A38 := Aside0.mk A380
      clear A380
      by_cases c39 : t381 = true
      ·
       subst c39
       replace H : ((laws_markTrie.f kj14 t369 1).bind fun bt382 => (if bt382.1 < 0 then (laws_FnExactAlikeWords.j1 kj14 a1 a2 t365 t368 t373 true l0_0) else ((laws_eqStringS.f kj14 t373 t365).bind fun t384 => (if t384 = true then (laws_FnExactAlikeWords.j1 kj14 a1 a2 t365 t368 t373 (t376 != t368) l0_0) else (laws_FnExactAlikeWords.j1 kj14 a1 a2 t365 t368 t373 true l0_0))))) = some r := by rw [if_pos rfl] at H; exact H
       replace H := Option.bind_eq_some_iff.mp H
       obtain ⟨⟨t382, t383⟩, A400, H⟩ := H
       replace H : (if t382 < 0 then (laws_FnExactAlikeWords.j1 kj14 a1 a2 t365 t368 t373 true l0_0) else ((laws_eqStringS.f kj14 t373 t365).bind fun t384 => (if t384 = true then (laws_FnExactAlikeWords.j1 kj14 a1 a2 t365 t368 t373 (t376 != t368) l0_0) else (laws_FnExactAlikeWords.j1 kj14 a1 a2 t365 t368 t373 true l0_0)))) = some r := H
       have A40 := Aside0.mk A400
       clear A400
       have HC41 := Aside0.mk H
       clear H
       try go_wp2
       have n0_ := Aside0.mk (Kd.R_drew HO_8.out)
       have n1_ := Aside0.mk (Kd.R_drew HO_11.out)
       have n2_ := Aside0.mk (Kd.R_drew HO_373000.out)
       have n3_ := Aside0.mk (blk_drew BK360.out)
       have n4_ := Aside0.mk (blk_drew BK372.out)
       have n5_ := Aside0.mk (below_drew1 HB.out)
       clear HO_8
       clear HO_11
       clear HO_373000
       clear BK360
       clear BK372
       clear HB
       have HO_8 := n0_
       have HO_11 := n1_
       have HO_373000 := n2_
       have BK360 := n3_
       have BK372 := n4_
       have HB := n5_
       clear n0_ n1_ n2_ n3_ n4_ n5_
       refine start_ (n := 5) (S := fun w' => w'.cell? ⟨gb372, 0, none⟩ = some (.slice Ao26 t369.length co26) ∧ w'.cell? ⟨gb360, 0, none⟩ = some (.slice A0_0 l0_0.length c0_0)) (ds := []) #[false, false, false, false, false] (by kernel_rfl) rfl rfl ⟨(blk_cell BK372.out 0).trans rfl, (blk_cell BK360.out 0).trans rfl⟩ (fun hHeld => ?_)
       generalize wc.drew = w42 at HO_8 HO_11 HO_373000 BK360 BK372 HB hHeld ⊢
       refine take_ (i := 0) (N := some 52) (v := ?_) (a' := ?_) #[true, false, false, false, false] rfl rfl (by kernel_rfl) (fun _ _ _ h => h) (Or.inl ⟨by rfl, ?_⟩) hHeld ?_ ?_
       rotate_left
       ·
        rintro w' ⟨s0, s1⟩
        go_simp
        with_reducible rfl
       rotate_left
       ·
        simp only [Act.put, List.setIfInBounds_toArray, List.set_cons_zero, List.set_cons_succ, i64_w, i32_w]
        rfl
       refine take_ (i := 1) (N := some 53) (v := ?_) (a' := ?_) #[true, true, false, false, false] rfl rfl (by kernel_rfl) (fun _ _ _ h => h) (Or.inl ⟨by rfl, ?_⟩) hHeld ?_ ?_
       rotate_left
       ·
        rintro w' ⟨s0, s1⟩
        go_simp
        with_reducible rfl
       rotate_left
       ·
        simp only [Act.put, List.setIfInBounds_toArray, List.set_cons_zero, List.set_cons_succ, i64_w, i32_w]
        rfl
       refine one_ (i := 2) (N := some 54) #[true, true, true, false, false] rfl rfl (by kernel_rfl) (by decide) (fun K hK => ?_)
       refine goes_ Tryz.func8 (by kernel_rfl) rfl #[.agg #[.slice A0_0 l0_0.length c0_0]] (by rfl) rfl rfl (by (try simp only [List.map_toArray, List.map_cons, List.map_nil]); first | done | rfl | (simp only [List.length_drop, List.length_take]; rfl)) ?_
       with_reducible refine (laws_toTrie.calls kj14 _ _ l0_0 t378 _ ?side1 ?side2 A37.out).mono ?_
       (case side1 => repeat (first | exact (Kd.C_below HR0_0.out HB.out) | (with_reducible refine Kd.C_alloc ?_ _) | (with_reducible refine Kd.C_drewN ?_ _) | (with_reducible refine Kd.C_drew ?_)))
       (case side2 => exact HC0_0.out)
       rintro e w43 ⟨v379, rfl, ho0, hb⟩
       refine ⟨_, rfl, ?_⟩
       have n0_ := Aside0.mk (Kd.R_below (by (with_reducible repeat (first | apply Kd.R_alloc | apply Kd.R_drewN | apply Kd.R_drew)); exact HO_8.out) hb)
       have n1_ := Aside0.mk (Kd.R_below (by (with_reducible repeat (first | apply Kd.R_alloc | apply Kd.R_drewN | apply Kd.R_drew)); exact HO_11.out) hb)
       have n2_ := Aside0.mk (Kd.R_elder' (by (with_reducible repeat (first | apply Kd.R_alloc | apply Kd.R_drewN | apply Kd.R_drew)); exact HO_373000.out) (Kd.R_base ho0) hb)
       have n3_ := Aside0.mk (Kd.R_lower (Kd.R_new' ho0 (Kd.R_lt (by (with_reducible repeat (first | apply Kd.R_alloc | apply Kd.R_drewN | apply Kd.R_drew)); exact HO_373000.out))) (below_size (by repeat (first | (with_reducible first | exact HB.out | apply below_alloc | apply pw_below_drewN | apply below_drew1 | refine below_set ?_ GE360.out | refine below_set ?_ GE372.out) | exact HB.out))))
       have n4_ := Aside0.mk (blk_below (g := gb360) (o := .cells #[.slice A0_0 l0_0.length c0_0] 24 (0, 0)) (by (with_reducible repeat (first | refine blk_drewN ?_ _ | refine blk_drew ?_ | refine blk_alloc ?_ _)); exact BK360.out) hb)
       have n5_ := Aside0.mk (blk_below (g := gb372) (o := .cells #[.slice Ao26 t369.length co26] 31 (0, 0)) (by (with_reducible repeat (first | refine blk_drewN ?_ _ | refine blk_drew ?_ | refine blk_alloc ?_ _)); exact BK372.out) hb)
       have n6_ := Aside0.mk (below_step (by repeat (first | (with_reducible first | exact HB.out | apply below_alloc | apply pw_below_drewN | apply below_drew1 | refine below_set ?_ GE360.out | refine below_set ?_ GE372.out) | exact HB.out)) hb)
       clear HO_8
       clear HO_11
       clear HO_373000
       clear BK360
       clear BK372
       clear HB
       have HO_8 := n0_
       have HO_11 := n1_
       have HO_373000 := n2_
       have HO380 := n3_
       have BK360 := n4_
       have BK372 := n5_
       have HB := n6_
       clear n0_ n1_ n2_ n3_ n4_ n5_ n6_
       (try clear hb)
       (try clear hb2)
       (try clear hk)
       (try clear hi)
       (try clear ho0)
       obtain ⟨Ao44, co44, eo44⟩ := Kd.R_slice HO380.out
       (first | subst eo44 | (injection eo44 with f1_ f2_ f3_; have f4_ := f1_.symm; have f5_ := f3_.symm; clear f1_ f2_ f3_; subst f4_; subst f5_))
       refine hK.out _ _ ⟨(blk_cell BK372.out 0).trans rfl, (blk_cell BK360.out 0).trans rfl⟩ (fun hHeld => ?_)
       clear hK K
       refine norm_ (a' := ?_) ?_ ?_
       rotate_left
       ·
        show Act.put _ (some 54) _ = _
        simp only [Act.put, List.setIfInBounds_toArray, List.set_cons_zero, List.set_cons_succ, i64_w, i32_w]
        rfl
       refine one_ (i := 3) (N := some 55) #[true, true, true, true, false] rfl rfl (by kernel_rfl) (by decide) (fun K hK => ?_)
       refine goes_ Tryz.func11 (by kernel_rfl) rfl #[.agg #[.slice Ao26 t369.length co26], .agg #[.slice Ao44 t378.length co44]] (by rfl) rfl rfl (by (try simp only [List.map_toArray, List.map_cons, List.map_nil]); first | done | rfl | (simp only [List.length_drop, List.length_take]; rfl)) ?_
       with_reducible refine (laws_eqTrie.calls kj14 _ _ t369 _ _ t378 true _ ?side1 ?side2 ?side3 ?side4 A38.out).mono ?_
       (case side1 => repeat (first | exact (Kd.R_reads' HO_373000.out).2.2 | (with_reducible refine Kd.C_alloc ?_ _) | (with_reducible refine Kd.C_drewN ?_ _) | (with_reducible refine Kd.C_drew ?_)))
       (case side2 => exact (Kd.R_reads' HO_373000.out).2.1)
       (case side3 => repeat (first | exact (Kd.R_reads' HO380.out).2.2 | (with_reducible refine Kd.C_alloc ?_ _) | (with_reducible refine Kd.C_drewN ?_ _) | (with_reducible refine Kd.C_drew ?_)))
       (case side4 => exact (Kd.R_reads' HO380.out).2.1)
       rintro e w45 ⟨rfl, hb⟩
       refine ⟨_, rfl, ?_⟩
       have n0_ := Aside0.mk (Kd.R_below (by (with_reducible repeat (first | apply Kd.R_alloc | apply Kd.R_drewN | apply Kd.R_drew)); exact HO_8.out) hb)
       have n1_ := Aside0.mk (Kd.R_below (by (with_reducible repeat (first | apply Kd.R_alloc | apply Kd.R_drewN | apply Kd.R_drew)); exact HO_11.out) hb)
       have n2_ := Aside0.mk (Kd.R_below (by (with_reducible repeat (first | apply Kd.R_alloc | apply Kd.R_drewN | apply Kd.R_drew)); exact HO_373000.out) hb)
       have n3_ := Aside0.mk (Kd.R_below (by (with_reducible repeat (first | apply Kd.R_alloc | apply Kd.R_drewN | apply Kd.R_drew)); exact HO380.out) hb)
       have n4_ := Aside0.mk (blk_below (g := gb360) (o := .cells #[.slice A0_0 l0_0.length c0_0] 24 (0, 0)) (by (with_reducible repeat (first | refine blk_drewN ?_ _ | refine blk_drew ?_ | refine blk_alloc ?_ _)); exact BK360.out) hb)
       have n5_ := Aside0.mk (blk_below (g := gb372) (o := .cells #[.slice Ao26 t369.length co26] 31 (0, 0)) (by (with_reducible repeat (first | refine blk_drewN ?_ _ | refine blk_drew ?_ | refine blk_alloc ?_ _)); exact BK372.out) hb)
       have n6_ := Aside0.mk (below_step (by repeat (first | (with_reducible first | exact HB.out | apply below_alloc | apply pw_below_drewN | apply below_drew1 | refine below_set ?_ GE360.out | refine below_set ?_ GE372.out) | exact HB.out)) hb)
       clear HO_8
       clear HO_11
       clear HO_373000
       clear HO380
       clear BK360
       clear BK372
       clear HB
       have HO_8 := n0_
       have HO_11 := n1_
       have HO_373000 := n2_
       have HO380 := n3_
       have BK360 := n4_
       have BK372 := n5_
       have HB := n6_
       clear n0_ n1_ n2_ n3_ n4_ n5_ n6_
       (try clear hb)
       (try clear hb2)
       (try clear hk)
       (try clear hi)
       refine hK.out _ _ ⟨(blk_cell BK372.out 0).trans rfl, (blk_cell BK360.out 0).trans rfl⟩ (fun hHeld => ?_)
       clear hK K
       refine norm_ (a' := ?_) ?_ ?_
       rotate_left
       ·
        show Act.put _ (some 55) _ = _
        simp only [Act.put, List.setIfInBounds_toArray, List.set_cons_zero, List.set_cons_succ, i64_w, i32_w]
        rfl
       refine pure_ (i := 4) (N := some 56) (v := ?_) (a' := ?_) #[true, true, true, true, true] rfl rfl (by kernel_rfl) (fun _ _ _ h => h) (Or.inl ⟨by rfl, ?_⟩) ?_ ?_
       rotate_left
       ·
        intro w'
        go_simp
        with_reducible rfl
       rotate_left
       ·
        simp only [Act.put, List.setIfInBounds_toArray, List.set_cons_zero, List.set_cons_succ, i64_w, i32_w]
        rfl
       refine done_ (by kernel_rfl) ?_
       have hnb46 := NB372_360.out
       have hnc46 := NB360_372.out
       have hcz47_0 : w45.cell? ⟨gb372, 0, none⟩ = some (.slice Ao26 t369.length co26) := (blk_cell BK372.out 0).trans rfl
       have hfz47_0 := blk_frozen BK372.out 0
       go_upto_region 16 with (first | ((with_reducible refine gate_callee (f := 12) rfl ?_); refine goesL_ (some 59) rfl rfl Tryz.func12 (by kernel_rfl) rfl #[.agg #[.slice Ao26 t369.length co26], .int .i64 1] rfl (by (try simp only [List.map_toArray, List.map_cons, List.map_nil]); first | done | rfl | (simp only [List.length_drop, List.length_take]; rfl)) ?_; (with_reducible refine (laws_markTrie.calls kj14 (fun k_ => some k_ = (.slice Ao26 t369.length co26 : Value).ownBlock) (.slice Ao26 t369.length co26) t369 1 t382 t383 w _ ?side1 ?side2 A40.out).mono ?_); (case side1 => repeat (first | (with_reducible first | exact HB.out | apply below_alloc | apply pw_below_drewN | apply below_drew1 | refine below_set ?_ GE360.out | refine below_set ?_ GE372.out) | exact HB.out)); (case side2 => exact Kd.R_tight rfl HO_373000.out); rintro e w48 ⟨rfl, hy0, hb, hkp⟩; refine ⟨_, rfl, ?_⟩; have n0_ := Aside0.mk (Kd.R_mono (ok' := fun k_ => some k_ ≠ (v374 : Value).ownBlock) (Kd.R_keptB ((Kd.R_apart' HO_8.out (Kd.R_typed HO_373000.out) (by decide))) hkp (fun k_ hk_ hs_ => (hk_.2) hs_)) (fun k_ hk_ => hk_.1.1)); have n1_ := Aside0.mk (Kd.R_mono (ok' := fun k_ => some k_ ≠ (v366 : Value).ownBlock) (Kd.R_keptB ((Kd.R_apart' HO_11.out (Kd.R_typed HO_373000.out) (by decide))) hkp (fun k_ hk_ hs_ => (hk_.2) hs_)) (fun k_ hk_ => hk_.1.1)); have n2_ := Aside0.mk (Kd.R_reok rfl hy0 (fun k_ e_ => HO_373000.out.1 k_ e_)); have n3_ := Aside0.mk (blk_kept (by (with_reducible repeat (first | refine blk_drewN ?_ _ | refine blk_drew ?_ | refine blk_alloc ?_ _)); exact BK360.out) hkp (fun hs_ => (fun e_ => (Kd.R_ne HO_373000.out BK360.out (by decide)) e_) hs_)); have n4_ := Aside0.mk (blk_kept (by (with_reducible repeat (first | refine blk_drewN ?_ _ | refine blk_drew ?_ | refine blk_alloc ?_ _)); exact BK372.out) hkp (fun hs_ => (fun e_ => (Kd.R_ne HO_373000.out BK372.out (by decide)) e_) hs_)); have n5_ := Aside0.mk (Kd.R_mono (ok' := fun k_ => some k_ ≠ (.slice Ao26 t369.length co26 : Value).ownBlock) (Kd.R_keptB (HO380.out) hkp (fun k_ hk_ hs_ => (hk_.2) hs_)) (fun k_ hk_ => hk_.1.2)); have n6_ := Aside0.mk (hb); clear HO_8; clear HO_11; clear HO_373000; clear BK360; clear BK372; clear HO380; clear HB; have HO_8 := n0_; have HO_11 := n1_; have HO_373000 := n2_; have BK360 := n3_; have BK372 := n4_; have HO380 := n5_; have HB := n6_; clear n0_ n1_ n2_ n3_ n4_ n5_ n6_; (try clear hb); (try clear hkp); (try clear hy0)))
       (try simp only [Act.put, List.setIfInBounds_toArray, List.set_cons_zero, List.set_cons_succ])
       go_cut [72] (fun v72 wc => ∃ (kq : Nat) (x72_40 : Bool), v72 = .bool x72_40 ∧ Aside0 (laws_FnExactAlikeWords.j1 kq a1 a2 t365 t368 t373 x72_40 l0_0 = some r) ∧ Aside0 (kq ≤ kj14) ∧ Aside0 (Kd.R Kd.string 9 wc w.heap.size (fun k_ => some k_ ≠ (v374 : Value).ownBlock) v366 t365) ∧ Aside0 (Kd.R Kd.string 9 wc w.heap.size (fun k_ => some k_ ≠ (v366 : Value).ownBlock) v374 t373) ∧ Aside0 (Kd.R k64 64 wc w.heap.size (fun _ => True) (.slice Ao26 t369.length co26) t383) ∧ Aside0 (wc.heap[gb360]? = some (.cells #[(.slice A0_0 l0_0.length c0_0)] 24 (0, 0))) ∧ Aside0 (wc.heap[gb372]? = some (.cells #[(.slice Ao26 t369.length co26)] 31 (0, 0))) ∧ Aside0 (Below w.heap.size w wc))
       case first =>
        have H := HC41.out
        clear HC41
        by_cases c49 : t382 < 0
        ·
         rw [if_pos c49] at H
         have c49b0 : decide (t382 < 0) = true := decide_eq_true c49
         clear c49
         (first | rw [c49b0] | (simp only [i64_w, i32_w]; rw [c49b0]) | skip)
         have H' := Aside0.mk H
         clear H
         go_wp2
         go_meet
         case rel => exact ⟨_, (true), (by first | rfl | (simp; done) | (simp [*]; done)), H', ⟨by have := HJ14.out; first | omega | exact Nat.le_refl _⟩, ⟨by (with_reducible repeat (first | apply Kd.R_alloc | apply Kd.R_drewN | apply Kd.R_drew)); exact HO_8.out⟩, ⟨by (with_reducible repeat (first | apply Kd.R_alloc | apply Kd.R_drewN | apply Kd.R_drew)); exact HO_11.out⟩, ⟨by (with_reducible repeat (first | apply Kd.R_alloc | apply Kd.R_drewN | apply Kd.R_drew)); exact Kd.R_mono HO_373000.out (fun _ hk => trivial)⟩, ⟨by (with_reducible repeat (first | refine blk_drewN ?_ _ | refine blk_drew ?_ | refine blk_alloc ?_ _)); exact BK360.out⟩, ⟨by (with_reducible repeat (first | refine blk_drewN ?_ _ | refine blk_drew ?_ | refine blk_alloc ?_ _)); exact BK372.out⟩, ⟨by repeat (first | (with_reducible first | exact HB.out | apply below_alloc | apply pw_below_drewN | apply below_drew1 | refine below_set ?_ GE360.out | refine below_set ?_ GE372.out) | exact HB.out)⟩⟩
        ·
         rw [if_neg c49] at H
         have c49b0 : decide (t382 < 0) = false := decide_eq_false c49
         clear c49
         (first | rw [c49b0] | (simp only [i64_w, i32_w]; rw [c49b0]) | skip)
         replace H := Option.bind_eq_some_iff.mp H
         obtain ⟨t384, A500, H⟩ := H
         replace H : (if t384 = true then (laws_FnExactAlikeWords.j1 kj14 a1 a2 t365 t368 t373 (t376 != t368) l0_0) else (laws_FnExactAlikeWords.j1 kj14 a1 a2 t365 t368 t373 true l0_0)) = some r := H
         have A50 := Aside0.mk A500
         clear A500
         by_cases c51 : t384 = true
         ·
          subst c51
          replace H : (laws_FnExactAlikeWords.j1 kj14 a1 a2 t365 t368 t373 (t376 != t368) l0_0) = some r := by rw [if_pos rfl] at H; exact H
          have H' := Aside0.mk H
          clear H
          obtain ⟨Ao52, co52, eo52⟩ := Kd.R_slice HO_11.out
          subst eo52
          obtain ⟨Ao53, co53, eo53⟩ := Kd.R_slice HO_8.out
          subst eo53
          go_wp2_with (first | (go_at_call 10; (with_reducible refine (laws_eqStringS.calls kj14 _ _ t373 _ _ t365 true _ ?side1 ?side2 ?side3 ?side4 A50.out).mono ?_); (case side1 => repeat (first | exact (Kd.R_reads' HO_11.out).2.2 | (with_reducible refine Kd.C_alloc ?_ _) | (with_reducible refine Kd.C_drewN ?_ _) | (with_reducible refine Kd.C_drew ?_))); (case side2 => exact (Kd.R_reads' HO_11.out).2.1); (case side3 => repeat (first | exact (Kd.R_reads' HO_8.out).2.2 | (with_reducible refine Kd.C_alloc ?_ _) | (with_reducible refine Kd.C_drewN ?_ _) | (with_reducible refine Kd.C_drew ?_))); (case side4 => exact (Kd.R_reads' HO_8.out).2.1); rintro e w' ⟨rfl, ⟨nd, rfl⟩⟩))
          go_meet
          case rel => exact ⟨_, ((t376 != t368)), (by first | rfl | (simp; done) | (simp [*]; done)), H', ⟨by have := HJ14.out; first | omega | exact Nat.le_refl _⟩, ⟨by (with_reducible repeat (first | apply Kd.R_alloc | apply Kd.R_drewN | apply Kd.R_drew)); exact HO_8.out⟩, ⟨by (with_reducible repeat (first | apply Kd.R_alloc | apply Kd.R_drewN | apply Kd.R_drew)); exact HO_11.out⟩, ⟨by (with_reducible repeat (first | apply Kd.R_alloc | apply Kd.R_drewN | apply Kd.R_drew)); exact Kd.R_mono HO_373000.out (fun _ hk => trivial)⟩, ⟨by (with_reducible repeat (first | refine blk_drewN ?_ _ | refine blk_drew ?_ | refine blk_alloc ?_ _)); exact BK360.out⟩, ⟨by (with_reducible repeat (first | refine blk_drewN ?_ _ | refine blk_drew ?_ | refine blk_alloc ?_ _)); exact BK372.out⟩, ⟨by repeat (first | (with_reducible first | exact HB.out | apply below_alloc | apply pw_below_drewN | apply below_drew1 | refine below_set ?_ GE360.out | refine below_set ?_ GE372.out) | exact HB.out)⟩⟩
         ·
          replace c51 := Bool.eq_false_iff.mpr c51
          subst c51
          replace H : (laws_FnExactAlikeWords.j1 kj14 a1 a2 t365 t368 t373 true l0_0) = some r := by rw [if_neg (show ¬ (false = true) by decide)] at H; exact H
          have H' := Aside0.mk H
          clear H
          obtain ⟨Ao54, co54, eo54⟩ := Kd.R_slice HO_11.out
          subst eo54
          obtain ⟨Ao55, co55, eo55⟩ := Kd.R_slice HO_8.out
          subst eo55
          go_wp2_with (first | (go_at_call 10; (with_reducible refine (laws_eqStringS.calls kj14 _ _ t373 _ _ t365 false _ ?side1 ?side2 ?side3 ?side4 A50.out).mono ?_); (case side1 => repeat (first | exact (Kd.R_reads' HO_11.out).2.2 | (with_reducible refine Kd.C_alloc ?_ _) | (with_reducible refine Kd.C_drewN ?_ _) | (with_reducible refine Kd.C_drew ?_))); (case side2 => exact (Kd.R_reads' HO_11.out).2.1); (case side3 => repeat (first | exact (Kd.R_reads' HO_8.out).2.2 | (with_reducible refine Kd.C_alloc ?_ _) | (with_reducible refine Kd.C_drewN ?_ _) | (with_reducible refine Kd.C_drew ?_))); (case side4 => exact (Kd.R_reads' HO_8.out).2.1); rintro e w' ⟨rfl, ⟨nd, rfl⟩⟩))
          go_meet
          case rel => exact ⟨_, (true), (by first | rfl | (simp; done) | (simp [*]; done)), H', ⟨by have := HJ14.out; first | omega | exact Nat.le_refl _⟩, ⟨by (with_reducible repeat (first | apply Kd.R_alloc | apply Kd.R_drewN | apply Kd.R_drew)); exact HO_8.out⟩, ⟨by (with_reducible repeat (first | apply Kd.R_alloc | apply Kd.R_drewN | apply Kd.R_drew)); exact HO_11.out⟩, ⟨by (with_reducible repeat (first | apply Kd.R_alloc | apply Kd.R_drewN | apply Kd.R_drew)); exact Kd.R_mono HO_373000.out (fun _ hk => trivial)⟩, ⟨by (with_reducible repeat (first | refine blk_drewN ?_ _ | refine blk_drew ?_ | refine blk_alloc ?_ _)); exact BK360.out⟩, ⟨by (with_reducible repeat (first | refine blk_drewN ?_ _ | refine blk_drew ?_ | refine blk_alloc ?_ _)); exact BK372.out⟩, ⟨by repeat (first | (with_reducible first | exact HB.out | apply below_alloc | apply pw_below_drewN | apply below_drew1 | refine below_set ?_ GE360.out | refine below_set ?_ GE372.out) | exact HB.out)⟩⟩
       case rest =>
        clear HC41
        try clear c1
        try clear c2
        try clear p2
        try clear c3
        try clear c4
        try clear c4b0
        try clear c4b1
        try clear c5
        try clear c6
        try clear c7
        try clear c7b0
        try clear c8
        try clear c9
        try clear c10
        try clear c11
        try clear c12
        try clear c27
        try clear c31
        try clear c36
        try clear c39
        try clear c46
        try clear c49
        try clear c49b0
        try clear c51
        try clear hcz17_0
        try clear hcz19_0
        try clear hcz23_0
        try clear hcz28_0
        try clear hcz47_0
        try clear hcz9_0
        try clear hfz17_0
        try clear hfz19_0
        try clear hfz23_0
        try clear hfz28_0
        try clear hfz47_0
        try clear hfz9_0
        try clear p2
        obtain ⟨kq, x72_40, rfl, HA, HJ40, HO_8, HO_11, HO_373000, BK360, BK372, HB⟩ := hcut
        have hl373000_40 := (Kd.R_reads' HO_373000.out).1
        rw [hl373000_40] at HO_373000
        (try simp only [hl373000_40])
        (try simp only [hl373000_40] at BK360)
        (try simp only [hl373000_40] at BK372)
        (try simp only [hl373000_40] at HO_8)
        (try simp only [hl373000_40] at HO_11)
        cases kq with
        | zero => exact absurd HA.out (by simp [laws_FnExactAlikeWords.j1])
        | succ kj40 =>
         have H := HA.out
         clear HA
         simp only [laws_FnExactAlikeWords.j1] at H
         by_cases c56 : x72_40 = true
         ·
          subst c56
          replace H : (some false) = some r := by rw [if_pos rfl] at H; exact H
          obtain rfl := Option.some.inj H
          go_wp2
          go_ret
          exact ⟨by first | rfl | (simp [errW_none, errW_some] <;> rfl) | (simp [*, errW_none, errW_some] <;> rfl), by repeat (first | (with_reducible first | exact HB.out | apply below_alloc | apply pw_below_drewN | apply below_drew1 | refine below_set ?_ GE360.out | refine below_set ?_ GE372.out) | exact HB.out)⟩
         ·
          replace c56 := Bool.eq_false_iff.mpr c56
          subst c56
          replace H : ((laws_markStringS.f kj40 t373 1).bind fun bt385 => ((laws_heldStringS.f kj40 bt385.2 1).bind fun t387 => (if t387 < 0 then (some false) else (if t387 = bt385.1 then ((laws_toTrie.f kj40 l0_0).bind fun t388 => ((impl_AlikeWords.f kj40 t388 a1 a2).bind fun bt391 => ((laws_eqStringS.f kj40 bt391.1 t365).bind fun t395 => (if t395 = true then (laws_FnExactAlikeWords.j2 kj40 bt385.2 bt385.1 (bt391.2 != t368)) else (laws_FnExactAlikeWords.j2 kj40 bt385.2 bt385.1 true))))) else (some false))))) = some r := by rw [if_neg (show ¬ (false = true) by decide)] at H; exact H
          replace H := Option.bind_eq_some_iff.mp H
          obtain ⟨⟨t385, t386⟩, A570, H⟩ := H
          replace H : ((laws_heldStringS.f kj40 t386 1).bind fun t387 => (if t387 < 0 then (some false) else (if t387 = t385 then ((laws_toTrie.f kj40 l0_0).bind fun t388 => ((impl_AlikeWords.f kj40 t388 a1 a2).bind fun bt391 => ((laws_eqStringS.f kj40 bt391.1 t365).bind fun t395 => (if t395 = true then (laws_FnExactAlikeWords.j2 kj40 t386 t385 (bt391.2 != t368)) else (laws_FnExactAlikeWords.j2 kj40 t386 t385 true))))) else (some false)))) = some r := H
          have A57 := Aside0.mk A570
          clear A570
          replace H := Option.bind_eq_some_iff.mp H
          obtain ⟨t387, A580, H⟩ := H
          replace H : (if t387 < 0 then (some false) else (if t387 = t385 then ((laws_toTrie.f kj40 l0_0).bind fun t388 => ((impl_AlikeWords.f kj40 t388 a1 a2).bind fun bt391 => ((laws_eqStringS.f kj40 bt391.1 t365).bind fun t395 => (if t395 = true then (laws_FnExactAlikeWords.j2 kj40 t386 t385 (bt391.2 != t368)) else (laws_FnExactAlikeWords.j2 kj40 t386 t385 true))))) else (some false))) = some r := H
          have A58 := Aside0.mk A580
          clear A580
          by_cases c59 : t387 < 0
          ·
           rw [if_pos c59] at H
           have c59b0 : decide (t387 < 0) = true := decide_eq_true c59
           clear c59
           obtain rfl := Option.some.inj H
           obtain ⟨Ao60, co60, eo60⟩ := Kd.R_slice HO_11.out
           subst eo60
           go_wp2_with (first | ((with_reducible refine gate_callee (f := 13) rfl ?_); refine goesL_ (some 75) rfl rfl Tryz.func13 (by kernel_rfl) rfl #[.slice Ao60 t373.length co60, .int .i64 1] rfl (by (try simp only [List.map_toArray, List.map_cons, List.map_nil]); first | done | rfl | (simp only [List.length_drop, List.length_take]; rfl)) ?_; (with_reducible refine (laws_markStringS.calls kj40 (fun k_ => some k_ = (.slice Ao60 t373.length co60 : Value).ownBlock) (.slice Ao60 t373.length co60) t373 1 t385 t386 w _ ?side1 ?side2 A57.out).mono ?_); (case side1 => repeat (first | (with_reducible first | exact HB.out | apply below_alloc | apply pw_below_drewN | apply below_drew1 | refine below_set ?_ GE360.out | refine below_set ?_ GE372.out) | exact HB.out)); (case side2 => exact Kd.R_tight rfl HO_11.out); rintro e w61 ⟨rfl, hy0, hb, hkp⟩; refine ⟨_, rfl, ?_⟩; have n0_ := Aside0.mk (Kd.R_mono (ok' := fun k_ => some k_ ≠ (.slice Ao60 t373.length co60 : Value).ownBlock) (Kd.R_keptB (HO_8.out) hkp (fun k_ hk_ hs_ => (hk_) hs_)) (fun k_ hk_ => hk_.1)); have n1_ := Aside0.mk (Kd.R_reok rfl hy0 (fun k_ e_ => HO_11.out.1 k_ e_)); have n2_ := Aside0.mk (Kd.R_mono (ok' := fun k_ => True) (Kd.R_keptB ((Kd.R_apart' HO_373000.out (Kd.R_typed HO_11.out) (by decide))) hkp (fun k_ hk_ hs_ => (hk_.2) hs_)) (fun k_ hk_ => trivial)); have n3_ := Aside0.mk (blk_kept (by (with_reducible repeat (first | refine blk_drewN ?_ _ | refine blk_drew ?_ | refine blk_alloc ?_ _)); exact BK360.out) hkp (fun hs_ => (fun e_ => (Kd.R_ne HO_11.out BK360.out (by decide)) e_) hs_)); have n4_ := Aside0.mk (blk_kept (by (with_reducible repeat (first | refine blk_drewN ?_ _ | refine blk_drew ?_ | refine blk_alloc ?_ _)); exact BK372.out) hkp (fun hs_ => (fun e_ => (Kd.R_ne HO_11.out BK372.out (by decide)) e_) hs_)); have n5_ := Aside0.mk (hb); clear HO_8; clear HO_11; clear HO_373000; clear BK360; clear BK372; clear HB; have HO_8 := n0_; have HO_11 := n1_; have HO_373000 := n2_; have BK360 := n3_; have BK372 := n4_; have HB := n5_; clear n0_ n1_ n2_ n3_ n4_ n5_; (try clear hb); (try clear hkp); (try clear hy0)) | ((with_reducible refine gate_callee (f := 14) rfl ?_); refine goesL_ (some 78) rfl rfl Tryz.func14 (by kernel_rfl) rfl #[.slice Ao60 t386.length co60, .int .i64 1] rfl (by (try simp only [List.map_toArray, List.map_cons, List.map_nil]); first | done | (rw [show t386.length = t373.length from (Kd.R_reads' HO_11.out).1.symm] <;> rfl) | rfl | (simp only [List.length_drop, List.length_take]; rfl)) ?_; (with_reducible refine (laws_heldStringS.calls kj40 _ _ t386 1 t387 _ ?side1 ?side2 A58.out).mono ?_); (case side1 => repeat (first | exact (Kd.R_reads' HO_11.out).2.2 | (with_reducible refine Kd.C_alloc ?_ _) | (with_reducible refine Kd.C_drewN ?_ _) | (with_reducible refine Kd.C_drew ?_))); (case side2 => rw [show t386.length = t373.length from (Kd.R_reads' HO_11.out).1.symm]; exact (Kd.R_reads' HO_11.out).2.1); rintro e w62 ⟨rfl, hb⟩; refine ⟨_, rfl, ?_⟩; have n0_ := Aside0.mk (Kd.R_below (by (with_reducible repeat (first | apply Kd.R_alloc | apply Kd.R_drewN | apply Kd.R_drew)); exact HO_8.out) hb); have n1_ := Aside0.mk (Kd.R_below (by (with_reducible repeat (first | apply Kd.R_alloc | apply Kd.R_drewN | apply Kd.R_drew)); exact HO_11.out) hb); have n2_ := Aside0.mk (Kd.R_below (by (with_reducible repeat (first | apply Kd.R_alloc | apply Kd.R_drewN | apply Kd.R_drew)); exact HO_373000.out) hb); have n3_ := Aside0.mk (blk_below (g := gb360) (o := .cells #[.slice A0_0 l0_0.length c0_0] 24 (0, 0)) (by (with_reducible repeat (first | refine blk_drewN ?_ _ | refine blk_drew ?_ | refine blk_alloc ?_ _)); exact BK360.out) hb); have n4_ := Aside0.mk (blk_below (g := gb372) (o := .cells #[.slice Ao26 t383.length co26] 31 (0, 0)) (by (with_reducible repeat (first | refine blk_drewN ?_ _ | refine blk_drew ?_ | refine blk_alloc ?_ _)); exact BK372.out) hb); have n5_ := Aside0.mk (below_step (by repeat (first | (with_reducible first | exact HB.out | apply below_alloc | apply pw_below_drewN | apply below_drew1 | refine below_set ?_ GE360.out | refine below_set ?_ GE372.out) | exact HB.out)) hb); clear HO_8; clear HO_11; clear HO_373000; clear BK360; clear BK372; clear HB; have HO_8 := n0_; have HO_11 := n1_; have HO_373000 := n2_; have BK360 := n3_; have BK372 := n4_; have HB := n5_; clear n0_ n1_ n2_ n3_ n4_ n5_; (try clear hb); (try clear hb2); (try clear hk); (try clear hi)))
           go_ret
           exact ⟨by first | rfl | (simp [errW_none, errW_some] <;> rfl) | (simp [*, errW_none, errW_some] <;> rfl), by repeat (first | (with_reducible first | exact HB.out | apply below_alloc | apply pw_below_drewN | apply below_drew1 | refine below_set ?_ GE360.out | refine below_set ?_ GE372.out) | exact HB.out)⟩
          ·
           rw [if_neg c59] at H
           have c59b0 : decide (t387 < 0) = false := decide_eq_false c59
           clear c59
           by_cases c63 : t387 = t385
           ·
            rw [if_pos c63] at H
            have c63b0 : (t387 == t385) = true := beq_iff_eq.mpr c63
            have c63b1 : (t387 != t385) = false := bne_eq_false_iff_eq.mpr c63
            clear c63
            replace H := Option.bind_eq_some_iff.mp H
            obtain ⟨t388, A640, H⟩ := H
            replace H : ((impl_AlikeWords.f kj40 t388 a1 a2).bind fun bt391 => ((laws_eqStringS.f kj40 bt391.1 t365).bind fun t395 => (if t395 = true then (laws_FnExactAlikeWords.j2 kj40 t386 t385 (bt391.2 != t368)) else (laws_FnExactAlikeWords.j2 kj40 t386 t385 true)))) = some r := H
            have A64 := Aside0.mk A640
            clear A640
            replace H := Option.bind_eq_some_iff.mp H
            obtain ⟨⟨t391, t394⟩, A650, H⟩ := H
            replace H : ((laws_eqStringS.f kj40 t391 t365).bind fun t395 => (if t395 = true then (laws_FnExactAlikeWords.j2 kj40 t386 t385 (t394 != t368)) else (laws_FnExactAlikeWords.j2 kj40 t386 t385 true))) = some r := H
            have A65 := Aside0.mk A650
            clear A650
            have HC66 := Aside0.mk H
            clear H
            obtain ⟨Ao67, co67, eo67⟩ := Kd.R_slice HO_11.out
            subst eo67
            go_upto_region 27 with (first | ((with_reducible refine gate_callee (f := 13) rfl ?_); refine goesL_ (some 75) rfl rfl Tryz.func13 (by kernel_rfl) rfl #[.slice Ao67 t373.length co67, .int .i64 1] rfl (by (try simp only [List.map_toArray, List.map_cons, List.map_nil]); first | done | rfl | (simp only [List.length_drop, List.length_take]; rfl)) ?_; (with_reducible refine (laws_markStringS.calls kj40 (fun k_ => some k_ = (.slice Ao67 t373.length co67 : Value).ownBlock) (.slice Ao67 t373.length co67) t373 1 t385 t386 w _ ?side1 ?side2 A57.out).mono ?_); (case side1 => repeat (first | (with_reducible first | exact HB.out | apply below_alloc | apply pw_below_drewN | apply below_drew1 | refine below_set ?_ GE360.out | refine below_set ?_ GE372.out) | exact HB.out)); (case side2 => exact Kd.R_tight rfl HO_11.out); rintro e w68 ⟨rfl, hy0, hb, hkp⟩; refine ⟨_, rfl, ?_⟩; have n0_ := Aside0.mk (Kd.R_mono (ok' := fun k_ => some k_ ≠ (.slice Ao67 t373.length co67 : Value).ownBlock) (Kd.R_keptB (HO_8.out) hkp (fun k_ hk_ hs_ => (hk_) hs_)) (fun k_ hk_ => hk_.1)); have n1_ := Aside0.mk (Kd.R_reok rfl hy0 (fun k_ e_ => HO_11.out.1 k_ e_)); have n2_ := Aside0.mk (Kd.R_mono (ok' := fun k_ => True) (Kd.R_keptB ((Kd.R_apart' HO_373000.out (Kd.R_typed HO_11.out) (by decide))) hkp (fun k_ hk_ hs_ => (hk_.2) hs_)) (fun k_ hk_ => trivial)); have n3_ := Aside0.mk (blk_kept (by (with_reducible repeat (first | refine blk_drewN ?_ _ | refine blk_drew ?_ | refine blk_alloc ?_ _)); exact BK360.out) hkp (fun hs_ => (fun e_ => (Kd.R_ne HO_11.out BK360.out (by decide)) e_) hs_)); have n4_ := Aside0.mk (blk_kept (by (with_reducible repeat (first | refine blk_drewN ?_ _ | refine blk_drew ?_ | refine blk_alloc ?_ _)); exact BK372.out) hkp (fun hs_ => (fun e_ => (Kd.R_ne HO_11.out BK372.out (by decide)) e_) hs_)); have n5_ := Aside0.mk (hb); clear HO_8; clear HO_11; clear HO_373000; clear BK360; clear BK372; clear HB; have HO_8 := n0_; have HO_11 := n1_; have HO_373000 := n2_; have BK360 := n3_; have BK372 := n4_; have HB := n5_; clear n0_ n1_ n2_ n3_ n4_ n5_; (try clear hb); (try clear hkp); (try clear hy0)) | ((with_reducible refine gate_callee (f := 14) rfl ?_); refine goesL_ (some 78) rfl rfl Tryz.func14 (by kernel_rfl) rfl #[.slice Ao67 t386.length co67, .int .i64 1] rfl (by (try simp only [List.map_toArray, List.map_cons, List.map_nil]); first | done | (rw [show t386.length = t373.length from (Kd.R_reads' HO_11.out).1.symm] <;> rfl) | rfl | (simp only [List.length_drop, List.length_take]; rfl)) ?_; (with_reducible refine (laws_heldStringS.calls kj40 _ _ t386 1 t387 _ ?side1 ?side2 A58.out).mono ?_); (case side1 => repeat (first | exact (Kd.R_reads' HO_11.out).2.2 | (with_reducible refine Kd.C_alloc ?_ _) | (with_reducible refine Kd.C_drewN ?_ _) | (with_reducible refine Kd.C_drew ?_))); (case side2 => rw [show t386.length = t373.length from (Kd.R_reads' HO_11.out).1.symm]; exact (Kd.R_reads' HO_11.out).2.1); rintro e w69 ⟨rfl, hb⟩; refine ⟨_, rfl, ?_⟩; have n0_ := Aside0.mk (Kd.R_below (by (with_reducible repeat (first | apply Kd.R_alloc | apply Kd.R_drewN | apply Kd.R_drew)); exact HO_8.out) hb); have n1_ := Aside0.mk (Kd.R_below (by (with_reducible repeat (first | apply Kd.R_alloc | apply Kd.R_drewN | apply Kd.R_drew)); exact HO_11.out) hb); have n2_ := Aside0.mk (Kd.R_below (by (with_reducible repeat (first | apply Kd.R_alloc | apply Kd.R_drewN | apply Kd.R_drew)); exact HO_373000.out) hb); have n3_ := Aside0.mk (blk_below (g := gb360) (o := .cells #[.slice A0_0 l0_0.length c0_0] 24 (0, 0)) (by (with_reducible repeat (first | refine blk_drewN ?_ _ | refine blk_drew ?_ | refine blk_alloc ?_ _)); exact BK360.out) hb); have n4_ := Aside0.mk (blk_below (g := gb372) (o := .cells #[.slice Ao26 t383.length co26] 31 (0, 0)) (by (with_reducible repeat (first | refine blk_drewN ?_ _ | refine blk_drew ?_ | refine blk_alloc ?_ _)); exact BK372.out) hb); have n5_ := Aside0.mk (below_step (by repeat (first | (with_reducible first | exact HB.out | apply below_alloc | apply pw_below_drewN | apply below_drew1 | refine below_set ?_ GE360.out | refine below_set ?_ GE372.out) | exact HB.out)) hb); clear HO_8; clear HO_11; clear HO_373000; clear BK360; clear BK372; clear HB; have HO_8 := n0_; have HO_11 := n1_; have HO_373000 := n2_; have BK360 := n3_; have BK372 := n4_; have HB := n5_; clear n0_ n1_ n2_ n3_ n4_ n5_; (try clear hb); (try clear hb2); (try clear hk); (try clear hi); have hnb70 := NB360_372.out; have hnc70 := NB372_360.out; have hcz71_0 : w69.cell? ⟨gb360, 0, none⟩ = some (.slice A0_0 l0_0.length c0_0) := (blk_cell BK360.out 0).trans rfl; have hfz71_0 := blk_frozen BK360.out 0) | ((with_reducible refine gate_callee (f := 8) rfl ?_); refine goesL_ (some 86) rfl rfl Tryz.func8 (by kernel_rfl) rfl #[.agg #[.slice A0_0 l0_0.length c0_0]] rfl (by (try simp only [List.map_toArray, List.map_cons, List.map_nil]); first | done | rfl | (simp only [List.length_drop, List.length_take]; rfl)) ?_; (with_reducible refine (laws_toTrie.calls kj40 _ _ l0_0 t388 _ ?side1 ?side2 A64.out).mono ?_); (case side1 => repeat (first | exact (Kd.C_below HR0_0.out HB.out) | (with_reducible refine Kd.C_alloc ?_ _) | (with_reducible refine Kd.C_drewN ?_ _) | (with_reducible refine Kd.C_drew ?_))); (case side2 => exact HC0_0.out); rintro e w72 ⟨v389, rfl, ho0, hb⟩; refine ⟨_, rfl, ?_⟩; have n0_ := Aside0.mk (Kd.R_below (by (with_reducible repeat (first | apply Kd.R_alloc | apply Kd.R_drewN | apply Kd.R_drew)); exact HO_8.out) hb); have n1_ := Aside0.mk (Kd.R_below (by (with_reducible repeat (first | apply Kd.R_alloc | apply Kd.R_drewN | apply Kd.R_drew)); exact HO_11.out) hb); have n2_ := Aside0.mk (Kd.R_elder' (by (with_reducible repeat (first | apply Kd.R_alloc | apply Kd.R_drewN | apply Kd.R_drew)); exact HO_373000.out) (Kd.R_base ho0) hb); have n3_ := Aside0.mk (Kd.R_lower (Kd.R_new' ho0 (Kd.R_lt (by (with_reducible repeat (first | apply Kd.R_alloc | apply Kd.R_drewN | apply Kd.R_drew)); exact HO_373000.out))) (below_size (by repeat (first | (with_reducible first | exact HB.out | apply below_alloc | apply pw_below_drewN | apply below_drew1 | refine below_set ?_ GE360.out | refine below_set ?_ GE372.out) | exact HB.out)))); have n4_ := Aside0.mk (blk_below (g := gb360) (o := .cells #[.slice A0_0 l0_0.length c0_0] 24 (0, 0)) (by (with_reducible repeat (first | refine blk_drewN ?_ _ | refine blk_drew ?_ | refine blk_alloc ?_ _)); exact BK360.out) hb); have n5_ := Aside0.mk (blk_below (g := gb372) (o := .cells #[.slice Ao26 t383.length co26] 31 (0, 0)) (by (with_reducible repeat (first | refine blk_drewN ?_ _ | refine blk_drew ?_ | refine blk_alloc ?_ _)); exact BK372.out) hb); have n6_ := Aside0.mk (below_step (by repeat (first | (with_reducible first | exact HB.out | apply below_alloc | apply pw_below_drewN | apply below_drew1 | refine below_set ?_ GE360.out | refine below_set ?_ GE372.out) | exact HB.out)) hb); clear HO_8; clear HO_11; clear HO_373000; clear BK360; clear BK372; clear HB; have HO_8 := n0_; have HO_11 := n1_; have HO_373000 := n2_; have HO390 := n3_; have BK360 := n4_; have BK372 := n5_; have HB := n6_; clear n0_ n1_ n2_ n3_ n4_ n5_ n6_; (try clear hb); (try clear hb2); (try clear hk); (try clear hi); (try clear ho0); obtain ⟨Ao73, co73, eo73⟩ := Kd.R_slice HO390.out; subst eo73) | ((with_reducible refine gate_callee (f := 9) rfl ?_); refine goesL_ (some 89) rfl rfl Tryz.func9 (by kernel_rfl) rfl #[.agg #[.slice Ao73 t388.length co73], .string a1, .int .i64 a2] rfl (by (try simp only [List.map_toArray, List.map_cons, List.map_nil]); first | done | rfl | (simp only [List.length_drop, List.length_take]; rfl)) ?_; (with_reducible refine (impl_AlikeWords.calls kj40 _ _ t388 a1 a2 t391 t394 _ ?side1 ?side2 A65.out).mono ?_); (case side1 => repeat (first | exact (Kd.R_reads' HO390.out).2.2 | (with_reducible refine Kd.C_alloc ?_ _) | (with_reducible refine Kd.C_drewN ?_ _) | (with_reducible refine Kd.C_drew ?_))); (case side2 => exact (Kd.R_reads' HO390.out).2.1); rintro e w74 ⟨v392, rfl, ho0, hb⟩; refine ⟨_, rfl, ?_⟩; have n0_ := Aside0.mk (Kd.R_elder' (by (with_reducible repeat (first | apply Kd.R_alloc | apply Kd.R_drewN | apply Kd.R_drew)); exact HO_8.out) (Kd.R_base ho0) hb); have n1_ := Aside0.mk (Kd.R_elder' (by (with_reducible repeat (first | apply Kd.R_alloc | apply Kd.R_drewN | apply Kd.R_drew)); exact HO_11.out) (Kd.R_base ho0) hb); have n2_ := Aside0.mk (Kd.R_below (by (with_reducible repeat (first | apply Kd.R_alloc | apply Kd.R_drewN | apply Kd.R_drew)); exact HO_373000.out) hb); have n3_ := Aside0.mk (Kd.R_below (by (with_reducible repeat (first | apply Kd.R_alloc | apply Kd.R_drewN | apply Kd.R_drew)); exact HO390.out) hb); have n4_ := Aside0.mk (Kd.R_lower (Kd.R_new' (Kd.R_new' ho0 (Kd.R_lt (by (with_reducible repeat (first | apply Kd.R_alloc | apply Kd.R_drewN | apply Kd.R_drew)); exact HO_8.out))) (Kd.R_lt (by (with_reducible repeat (first | apply Kd.R_alloc | apply Kd.R_drewN | apply Kd.R_drew)); exact HO_11.out))) (below_size (by repeat (first | (with_reducible first | exact HB.out | apply below_alloc | apply pw_below_drewN | apply below_drew1 | refine below_set ?_ GE360.out | refine below_set ?_ GE372.out) | exact HB.out)))); have n5_ := Aside0.mk (blk_below (g := gb360) (o := .cells #[.slice A0_0 l0_0.length c0_0] 24 (0, 0)) (by (with_reducible repeat (first | refine blk_drewN ?_ _ | refine blk_drew ?_ | refine blk_alloc ?_ _)); exact BK360.out) hb); have n6_ := Aside0.mk (blk_below (g := gb372) (o := .cells #[.slice Ao26 t383.length co26] 31 (0, 0)) (by (with_reducible repeat (first | refine blk_drewN ?_ _ | refine blk_drew ?_ | refine blk_alloc ?_ _)); exact BK372.out) hb); have n7_ := Aside0.mk (below_step (by repeat (first | (with_reducible first | exact HB.out | apply below_alloc | apply pw_below_drewN | apply below_drew1 | refine below_set ?_ GE360.out | refine below_set ?_ GE372.out) | exact HB.out)) hb); clear HO_8; clear HO_11; clear HO_373000; clear HO390; clear BK360; clear BK372; clear HB; have HO_8 := n0_; have HO_11 := n1_; have HO_373000 := n2_; have HO390 := n3_; have HO393 := n4_; have BK360 := n5_; have BK372 := n6_; have HB := n7_; clear n0_ n1_ n2_ n3_ n4_ n5_ n6_ n7_; (try clear hb); (try clear hb2); (try clear hk); (try clear hi); (try clear ho0)))
            (try simp only [Act.put, List.setIfInBounds_toArray, List.set_cons_zero, List.set_cons_succ])
            go_cut [100] (fun v100 wc => ∃ (kq : Nat) (x100_65 : Bool), v100 = .bool x100_65 ∧ Aside0 (laws_FnExactAlikeWords.j2 kq t386 t385 x100_65 = some r) ∧ Aside0 (kq ≤ kj40) ∧ Aside0 (Kd.R Kd.string 9 wc w.heap.size (fun _ => True) (.slice Ao67 t373.length co67) t386) ∧ Aside0 (Kd.R k64 64 wc w.heap.size (fun _ => True) (.slice Ao26 t383.length co26) t383) ∧ Aside0 (wc.heap[gb360]? = some (.cells #[(.slice A0_0 l0_0.length c0_0)] 24 (0, 0))) ∧ Aside0 (wc.heap[gb372]? = some (.cells #[(.slice Ao26 t383.length co26)] 31 (0, 0))) ∧ Aside0 (Below w.heap.size w wc))
            case first =>
             have H := HC66.out
             clear HC66
             replace H := Option.bind_eq_some_iff.mp H
             obtain ⟨t395, A750, H⟩ := H
             replace H : (if t395 = true then (laws_FnExactAlikeWords.j2 kj40 t386 t385 (t394 != t368)) else (laws_FnExactAlikeWords.j2 kj40 t386 t385 true)) = some r := H
             have A75 := Aside0.mk A750
             clear A750
             by_cases c76 : t395 = true
             ·
              subst c76
              replace H : (laws_FnExactAlikeWords.j2 kj40 t386 t385 (t394 != t368)) = some r := by rw [if_pos rfl] at H; exact H
              have H' := Aside0.mk H
              clear H
              obtain ⟨Ao77, co77, eo77⟩ := Kd.R_slice HO393.out
              subst eo77
              obtain ⟨Ao78, co78, eo78⟩ := Kd.R_slice HO_8.out
              subst eo78
              go_wp2_with (first | ((with_reducible refine gate_callee (f := 10) rfl ?_); refine goesL_ (some 94) rfl rfl Tryz.func10 (by kernel_rfl) rfl #[.slice Ao77 t391.length co77, .slice Ao78 t365.length co78] rfl (by (try simp only [List.map_toArray, List.map_cons, List.map_nil]); first | done | rfl | (simp only [List.length_drop, List.length_take]; rfl)) ?_; (with_reducible refine (laws_eqStringS.calls kj40 _ _ t391 _ _ t365 true _ ?side1 ?side2 ?side3 ?side4 A75.out).mono ?_); (case side1 => repeat (first | exact (Kd.R_reads' HO393.out).2.2 | (with_reducible refine Kd.C_alloc ?_ _) | (with_reducible refine Kd.C_drewN ?_ _) | (with_reducible refine Kd.C_drew ?_))); (case side2 => exact (Kd.R_reads' HO393.out).2.1); (case side3 => repeat (first | exact (Kd.R_reads' HO_8.out).2.2 | (with_reducible refine Kd.C_alloc ?_ _) | (with_reducible refine Kd.C_drewN ?_ _) | (with_reducible refine Kd.C_drew ?_))); (case side4 => exact (Kd.R_reads' HO_8.out).2.1); rintro e w' ⟨rfl, ⟨nd, rfl⟩⟩; refine ⟨_, rfl, ?_⟩))
              go_meet
              case rel => exact ⟨_, ((t394 != t368)), (by first | rfl | (simp; done) | (simp [*]; done)), H', ⟨by have := HJ14.out; have := HJ40.out; first | omega | exact Nat.le_refl _⟩, ⟨by (try simp only [hl373000_40]); (with_reducible repeat (first | apply Kd.R_alloc | apply Kd.R_drewN | apply Kd.R_drew)); exact Kd.R_mono HO_11.out (fun _ hk => trivial)⟩, ⟨by (try simp only [hl373000_40]); (with_reducible repeat (first | apply Kd.R_alloc | apply Kd.R_drewN | apply Kd.R_drew)); exact Kd.R_mono HO_373000.out (fun _ hk => trivial)⟩, ⟨by (try simp only [hl373000_40]); (with_reducible repeat (first | refine blk_drewN ?_ _ | refine blk_drew ?_ | refine blk_alloc ?_ _)); exact BK360.out⟩, ⟨by (try simp only [hl373000_40]); (with_reducible repeat (first | refine blk_drewN ?_ _ | refine blk_drew ?_ | refine blk_alloc ?_ _)); exact BK372.out⟩, ⟨by repeat (first | (with_reducible first | exact HB.out | apply below_alloc | apply pw_below_drewN | apply below_drew1 | refine below_set ?_ GE360.out | refine below_set ?_ GE372.out) | exact HB.out)⟩⟩
             ·
              replace c76 := Bool.eq_false_iff.mpr c76
              subst c76
              replace H : (laws_FnExactAlikeWords.j2 kj40 t386 t385 true) = some r := by rw [if_neg (show ¬ (false = true) by decide)] at H; exact H
              have H' := Aside0.mk H
              clear H
              obtain ⟨Ao79, co79, eo79⟩ := Kd.R_slice HO393.out
              subst eo79
              obtain ⟨Ao80, co80, eo80⟩ := Kd.R_slice HO_8.out
              subst eo80
              go_wp2_with (first | ((with_reducible refine gate_callee (f := 10) rfl ?_); refine goesL_ (some 94) rfl rfl Tryz.func10 (by kernel_rfl) rfl #[.slice Ao79 t391.length co79, .slice Ao80 t365.length co80] rfl (by (try simp only [List.map_toArray, List.map_cons, List.map_nil]); first | done | rfl | (simp only [List.length_drop, List.length_take]; rfl)) ?_; (with_reducible refine (laws_eqStringS.calls kj40 _ _ t391 _ _ t365 false _ ?side1 ?side2 ?side3 ?side4 A75.out).mono ?_); (case side1 => repeat (first | exact (Kd.R_reads' HO393.out).2.2 | (with_reducible refine Kd.C_alloc ?_ _) | (with_reducible refine Kd.C_drewN ?_ _) | (with_reducible refine Kd.C_drew ?_))); (case side2 => exact (Kd.R_reads' HO393.out).2.1); (case side3 => repeat (first | exact (Kd.R_reads' HO_8.out).2.2 | (with_reducible refine Kd.C_alloc ?_ _) | (with_reducible refine Kd.C_drewN ?_ _) | (with_reducible refine Kd.C_drew ?_))); (case side4 => exact (Kd.R_reads' HO_8.out).2.1); rintro e w' ⟨rfl, ⟨nd, rfl⟩⟩; refine ⟨_, rfl, ?_⟩))
              go_meet
              case rel => exact ⟨_, (true), (by first | rfl | (simp; done) | (simp [*]; done)), H', ⟨by have := HJ14.out; have := HJ40.out; first | omega | exact Nat.le_refl _⟩, ⟨by (try simp only [hl373000_40]); (with_reducible repeat (first | apply Kd.R_alloc | apply Kd.R_drewN | apply Kd.R_drew)); exact Kd.R_mono HO_11.out (fun _ hk => trivial)⟩, ⟨by (try simp only [hl373000_40]); (with_reducible repeat (first | apply Kd.R_alloc | apply Kd.R_drewN | apply Kd.R_drew)); exact Kd.R_mono HO_373000.out (fun _ hk => trivial)⟩, ⟨by (try simp only [hl373000_40]); (with_reducible repeat (first | refine blk_drewN ?_ _ | refine blk_drew ?_ | refine blk_alloc ?_ _)); exact BK360.out⟩, ⟨by (try simp only [hl373000_40]); (with_reducible repeat (first | refine blk_drewN ?_ _ | refine blk_drew ?_ | refine blk_alloc ?_ _)); exact BK372.out⟩, ⟨by repeat (first | (with_reducible first | exact HB.out | apply below_alloc | apply pw_below_drewN | apply below_drew1 | refine below_set ?_ GE360.out | refine below_set ?_ GE372.out) | exact HB.out)⟩⟩
            case rest =>
             clear HC66
             try clear c1
             try clear c2
             try clear p2
             try clear c3
             try clear c4
             try clear c4b0
             try clear c4b1
             try clear c5
             try clear c6
             try clear c7
             try clear c7b0
             try clear c8
             try clear c9
             try clear c10
             try clear c11
             try clear c12
             try clear c13
             try clear c14
             try clear c27
             try clear c31
             try clear c36
             try clear c39
             try clear c46
             try clear c49
             try clear c49b0
             try clear c51
             try clear c56
             try clear c59
             try clear c59b0
             try clear c63
             try clear c63b0
             try clear c63b1
             try clear c70
             try clear c76
             try clear hcz17_0
             try clear hcz19_0
             try clear hcz23_0
             try clear hcz28_0
             try clear hcz47_0
             try clear hcz71_0
             try clear hcz9_0
             try clear hfz17_0
             try clear hfz19_0
             try clear hfz23_0
             try clear hfz28_0
             try clear hfz47_0
             try clear hfz71_0
             try clear hfz9_0
             try clear p2
             obtain ⟨kq, x100_65, rfl, HA, HJ65, HO_11, HO_373000, BK360, BK372, HB⟩ := hcut
             have hl11_65 := (Kd.R_reads' HO_11.out).1
             rw [hl11_65] at HO_11
             (try simp only [hl11_65])
             (try simp only [hl11_65] at BK360)
             (try simp only [hl11_65] at BK372)
             (try simp only [hl11_65] at HO_373000)
             cases kq with
             | zero => exact absurd HA.out (by simp [laws_FnExactAlikeWords.j2])
             | succ kj65 =>
              have H := HA.out
              clear HA
              simp only [laws_FnExactAlikeWords.j2] at H
              by_cases c81 : x100_65 = true
              ·
               subst c81
               replace H : (some false) = some r := by rw [if_pos rfl] at H; exact H
               obtain rfl := Option.some.inj H
               go_wp2
               go_ret
               exact ⟨by first | rfl | (simp [errW_none, errW_some] <;> rfl) | (simp [*, errW_none, errW_some] <;> rfl), by repeat (first | (with_reducible first | exact HB.out | apply below_alloc | apply pw_below_drewN | apply below_drew1 | refine below_set ?_ GE360.out | refine below_set ?_ GE372.out) | exact HB.out)⟩
              ·
               replace c81 := Bool.eq_false_iff.mpr c81
               subst c81
               replace H : ((laws_heldStringS.f kj65 t386 1).bind fun t396 => (if t396 < 0 then (some false) else (if t396 = t385 then (some true) else (some false)))) = some r := by rw [if_neg (show ¬ (false = true) by decide)] at H; exact H
               replace H := Option.bind_eq_some_iff.mp H
               obtain ⟨t396, A820, H⟩ := H
               replace H : (if t396 < 0 then (some false) else (if t396 = t385 then (some true) else (some false))) = some r := H
               have A82 := Aside0.mk A820
               clear A820
               by_cases c83 : t396 < 0
               ·
                rw [if_pos c83] at H
                have c83b0 : decide (t396 < 0) = true := decide_eq_true c83
                clear c83
                obtain rfl := Option.some.inj H
                go_wp2_with (first | ((with_reducible refine gate_callee (f := 14) rfl ?_); refine goesL_ (some 103) rfl rfl Tryz.func14 (by kernel_rfl) rfl #[.slice Ao67 t386.length co67, .int .i64 1] rfl (by (try simp only [List.map_toArray, List.map_cons, List.map_nil]); first | done | rfl | (simp only [List.length_drop, List.length_take]; rfl)) ?_; (with_reducible refine (laws_heldStringS.calls kj65 _ _ t386 1 t396 _ ?side1 ?side2 A82.out).mono ?_); (case side1 => repeat (first | exact (Kd.R_reads' HO_11.out).2.2 | (with_reducible refine Kd.C_alloc ?_ _) | (with_reducible refine Kd.C_drewN ?_ _) | (with_reducible refine Kd.C_drew ?_))); (case side2 => exact (Kd.R_reads' HO_11.out).2.1); rintro e w84 ⟨rfl, hb⟩; refine ⟨_, rfl, ?_⟩; have n0_ := Aside0.mk (Kd.R_below (by (with_reducible repeat (first | apply Kd.R_alloc | apply Kd.R_drewN | apply Kd.R_drew)); exact HO_11.out) hb); have n1_ := Aside0.mk (Kd.R_below (by (with_reducible repeat (first | apply Kd.R_alloc | apply Kd.R_drewN | apply Kd.R_drew)); exact HO_373000.out) hb); have n2_ := Aside0.mk (blk_below (g := gb360) (o := .cells #[.slice A0_0 l0_0.length c0_0] 24 (0, 0)) (by (with_reducible repeat (first | refine blk_drewN ?_ _ | refine blk_drew ?_ | refine blk_alloc ?_ _)); exact BK360.out) hb); have n3_ := Aside0.mk (blk_below (g := gb372) (o := .cells #[.slice Ao26 t383.length co26] 31 (0, 0)) (by (with_reducible repeat (first | refine blk_drewN ?_ _ | refine blk_drew ?_ | refine blk_alloc ?_ _)); exact BK372.out) hb); have n4_ := Aside0.mk (below_step (by repeat (first | (with_reducible first | exact HB.out | apply below_alloc | apply pw_below_drewN | apply below_drew1 | refine below_set ?_ GE360.out | refine below_set ?_ GE372.out) | exact HB.out)) hb); clear HO_11; clear HO_373000; clear BK360; clear BK372; clear HB; have HO_11 := n0_; have HO_373000 := n1_; have BK360 := n2_; have BK372 := n3_; have HB := n4_; clear n0_ n1_ n2_ n3_ n4_; (try clear hb); (try clear hb2); (try clear hk); (try clear hi)))
                go_ret
                exact ⟨by first | rfl | (simp [errW_none, errW_some] <;> rfl) | (simp [*, errW_none, errW_some] <;> rfl), by repeat (first | (with_reducible first | exact HB.out | apply below_alloc | apply pw_below_drewN | apply below_drew1 | refine below_set ?_ GE360.out | refine below_set ?_ GE372.out) | exact HB.out)⟩
               ·
                rw [if_neg c83] at H
                have c83b0 : decide (t396 < 0) = false := decide_eq_false c83
                clear c83
                by_cases c85 : t396 = t385
                ·
                 rw [if_pos c85] at H
                 have c85b0 : (t396 == t385) = true := beq_iff_eq.mpr c85
                 have c85b1 : (t396 != t385) = false := bne_eq_false_iff_eq.mpr c85
                 clear c85
                 obtain rfl := Option.some.inj H
                 go_wp2_with (first | ((with_reducible refine gate_callee (f := 14) rfl ?_); refine goesL_ (some 103) rfl rfl Tryz.func14 (by kernel_rfl) rfl #[.slice Ao67 t386.length co67, .int .i64 1] rfl (by (try simp only [List.map_toArray, List.map_cons, List.map_nil]); first | done | rfl | (simp only [List.length_drop, List.length_take]; rfl)) ?_; (with_reducible refine (laws_heldStringS.calls kj65 _ _ t386 1 t396 _ ?side1 ?side2 A82.out).mono ?_); (case side1 => repeat (first | exact (Kd.R_reads' HO_11.out).2.2 | (with_reducible refine Kd.C_alloc ?_ _) | (with_reducible refine Kd.C_drewN ?_ _) | (with_reducible refine Kd.C_drew ?_))); (case side2 => exact (Kd.R_reads' HO_11.out).2.1); rintro e w86 ⟨rfl, hb⟩; refine ⟨_, rfl, ?_⟩; have n0_ := Aside0.mk (Kd.R_below (by (with_reducible repeat (first | apply Kd.R_alloc | apply Kd.R_drewN | apply Kd.R_drew)); exact HO_11.out) hb); have n1_ := Aside0.mk (Kd.R_below (by (with_reducible repeat (first | apply Kd.R_alloc | apply Kd.R_drewN | apply Kd.R_drew)); exact HO_373000.out) hb); have n2_ := Aside0.mk (blk_below (g := gb360) (o := .cells #[.slice A0_0 l0_0.length c0_0] 24 (0, 0)) (by (with_reducible repeat (first | refine blk_drewN ?_ _ | refine blk_drew ?_ | refine blk_alloc ?_ _)); exact BK360.out) hb); have n3_ := Aside0.mk (blk_below (g := gb372) (o := .cells #[.slice Ao26 t383.length co26] 31 (0, 0)) (by (with_reducible repeat (first | refine blk_drewN ?_ _ | refine blk_drew ?_ | refine blk_alloc ?_ _)); exact BK372.out) hb); have n4_ := Aside0.mk (below_step (by repeat (first | (with_reducible first | exact HB.out | apply below_alloc | apply pw_below_drewN | apply below_drew1 | refine below_set ?_ GE360.out | refine below_set ?_ GE372.out) | exact HB.out)) hb); clear HO_11; clear HO_373000; clear BK360; clear BK372; clear HB; have HO_11 := n0_; have HO_373000 := n1_; have BK360 := n2_; have BK372 := n3_; have HB := n4_; clear n0_ n1_ n2_ n3_ n4_; (try clear hb); (try clear hb2); (try clear hk); (try clear hi)))
                 go_ret
                 exact ⟨by first | rfl | (simp [errW_none, errW_some] <;> rfl) | (simp [*, errW_none, errW_some] <;> rfl), by repeat (first | (with_reducible first | exact HB.out | apply below_alloc | apply pw_below_drewN | apply below_drew1 | refine below_set ?_ GE360.out | refine below_set ?_ GE372.out) | exact HB.out)⟩
                ·
                 rw [if_neg c85] at H
                 have c85b0 : (t396 == t385) = false := beq_eq_false_iff_ne.mpr c85
                 have c85b1 : (t396 != t385) = true := bne_iff_ne.mpr c85
                 obtain rfl := Option.some.inj H
                 go_wp2_with (first | ((with_reducible refine gate_callee (f := 14) rfl ?_); refine goesL_ (some 103) rfl rfl Tryz.func14 (by kernel_rfl) rfl #[.slice Ao67 t386.length co67, .int .i64 1] rfl (by (try simp only [List.map_toArray, List.map_cons, List.map_nil]); first | done | rfl | (simp only [List.length_drop, List.length_take]; rfl)) ?_; (with_reducible refine (laws_heldStringS.calls kj65 _ _ t386 1 t396 _ ?side1 ?side2 A82.out).mono ?_); (case side1 => repeat (first | exact (Kd.R_reads' HO_11.out).2.2 | (with_reducible refine Kd.C_alloc ?_ _) | (with_reducible refine Kd.C_drewN ?_ _) | (with_reducible refine Kd.C_drew ?_))); (case side2 => exact (Kd.R_reads' HO_11.out).2.1); rintro e w87 ⟨rfl, hb⟩; refine ⟨_, rfl, ?_⟩; have n0_ := Aside0.mk (Kd.R_below (by (with_reducible repeat (first | apply Kd.R_alloc | apply Kd.R_drewN | apply Kd.R_drew)); exact HO_11.out) hb); have n1_ := Aside0.mk (Kd.R_below (by (with_reducible repeat (first | apply Kd.R_alloc | apply Kd.R_drewN | apply Kd.R_drew)); exact HO_373000.out) hb); have n2_ := Aside0.mk (blk_below (g := gb360) (o := .cells #[.slice A0_0 l0_0.length c0_0] 24 (0, 0)) (by (with_reducible repeat (first | refine blk_drewN ?_ _ | refine blk_drew ?_ | refine blk_alloc ?_ _)); exact BK360.out) hb); have n3_ := Aside0.mk (blk_below (g := gb372) (o := .cells #[.slice Ao26 t383.length co26] 31 (0, 0)) (by (with_reducible repeat (first | refine blk_drewN ?_ _ | refine blk_drew ?_ | refine blk_alloc ?_ _)); exact BK372.out) hb); have n4_ := Aside0.mk (below_step (by repeat (first | (with_reducible first | exact HB.out | apply below_alloc | apply pw_below_drewN | apply below_drew1 | refine below_set ?_ GE360.out | refine below_set ?_ GE372.out) | exact HB.out)) hb); clear HO_11; clear HO_373000; clear BK360; clear BK372; clear HB; have HO_11 := n0_; have HO_373000 := n1_; have BK360 := n2_; have BK372 := n3_; have HB := n4_; clear n0_ n1_ n2_ n3_ n4_; (try clear hb); (try clear hb2); (try clear hk); (try clear hi)))
                 go_ret
                 exact ⟨by first | rfl | (simp [errW_none, errW_some] <;> rfl) | (simp [*, errW_none, errW_some] <;> rfl), by repeat (first | (with_reducible first | exact HB.out | apply below_alloc | apply pw_below_drewN | apply below_drew1 | refine below_set ?_ GE360.out | refine below_set ?_ GE372.out) | exact HB.out)⟩
           ·
            rw [if_neg c63] at H
            have c63b0 : (t387 == t385) = false := beq_eq_false_iff_ne.mpr c63
            have c63b1 : (t387 != t385) = true := bne_iff_ne.mpr c63
            obtain rfl := Option.some.inj H
            obtain ⟨Ao88, co88, eo88⟩ := Kd.R_slice HO_11.out
            subst eo88
            go_wp2_with (first | ((with_reducible refine gate_callee (f := 13) rfl ?_); refine goesL_ (some 75) rfl rfl Tryz.func13 (by kernel_rfl) rfl #[.slice Ao88 t373.length co88, .int .i64 1] rfl (by (try simp only [List.map_toArray, List.map_cons, List.map_nil]); first | done | rfl | (simp only [List.length_drop, List.length_take]; rfl)) ?_; (with_reducible refine (laws_markStringS.calls kj40 (fun k_ => some k_ = (.slice Ao88 t373.length co88 : Value).ownBlock) (.slice Ao88 t373.length co88) t373 1 t385 t386 w _ ?side1 ?side2 A57.out).mono ?_); (case side1 => repeat (first | (with_reducible first | exact HB.out | apply below_alloc | apply pw_below_drewN | apply below_drew1 | refine below_set ?_ GE360.out | refine below_set ?_ GE372.out) | exact HB.out)); (case side2 => exact Kd.R_tight rfl HO_11.out); rintro e w89 ⟨rfl, hy0, hb, hkp⟩; refine ⟨_, rfl, ?_⟩; have n0_ := Aside0.mk (Kd.R_mono (ok' := fun k_ => some k_ ≠ (.slice Ao88 t373.length co88 : Value).ownBlock) (Kd.R_keptB (HO_8.out) hkp (fun k_ hk_ hs_ => (hk_) hs_)) (fun k_ hk_ => hk_.1)); have n1_ := Aside0.mk (Kd.R_reok rfl hy0 (fun k_ e_ => HO_11.out.1 k_ e_)); have n2_ := Aside0.mk (Kd.R_mono (ok' := fun k_ => True) (Kd.R_keptB ((Kd.R_apart' HO_373000.out (Kd.R_typed HO_11.out) (by decide))) hkp (fun k_ hk_ hs_ => (hk_.2) hs_)) (fun k_ hk_ => trivial)); have n3_ := Aside0.mk (blk_kept (by (with_reducible repeat (first | refine blk_drewN ?_ _ | refine blk_drew ?_ | refine blk_alloc ?_ _)); exact BK360.out) hkp (fun hs_ => (fun e_ => (Kd.R_ne HO_11.out BK360.out (by decide)) e_) hs_)); have n4_ := Aside0.mk (blk_kept (by (with_reducible repeat (first | refine blk_drewN ?_ _ | refine blk_drew ?_ | refine blk_alloc ?_ _)); exact BK372.out) hkp (fun hs_ => (fun e_ => (Kd.R_ne HO_11.out BK372.out (by decide)) e_) hs_)); have n5_ := Aside0.mk (hb); clear HO_8; clear HO_11; clear HO_373000; clear BK360; clear BK372; clear HB; have HO_8 := n0_; have HO_11 := n1_; have HO_373000 := n2_; have BK360 := n3_; have BK372 := n4_; have HB := n5_; clear n0_ n1_ n2_ n3_ n4_ n5_; (try clear hb); (try clear hkp); (try clear hy0)) | ((with_reducible refine gate_callee (f := 14) rfl ?_); refine goesL_ (some 78) rfl rfl Tryz.func14 (by kernel_rfl) rfl #[.slice Ao88 t386.length co88, .int .i64 1] rfl (by (try simp only [List.map_toArray, List.map_cons, List.map_nil]); first | done | (rw [show t386.length = t373.length from (Kd.R_reads' HO_11.out).1.symm] <;> rfl) | rfl | (simp only [List.length_drop, List.length_take]; rfl)) ?_; (with_reducible refine (laws_heldStringS.calls kj40 _ _ t386 1 t387 _ ?side1 ?side2 A58.out).mono ?_); (case side1 => repeat (first | exact (Kd.R_reads' HO_11.out).2.2 | (with_reducible refine Kd.C_alloc ?_ _) | (with_reducible refine Kd.C_drewN ?_ _) | (with_reducible refine Kd.C_drew ?_))); (case side2 => rw [show t386.length = t373.length from (Kd.R_reads' HO_11.out).1.symm]; exact (Kd.R_reads' HO_11.out).2.1); rintro e w90 ⟨rfl, hb⟩; refine ⟨_, rfl, ?_⟩; have n0_ := Aside0.mk (Kd.R_below (by (with_reducible repeat (first | apply Kd.R_alloc | apply Kd.R_drewN | apply Kd.R_drew)); exact HO_8.out) hb); have n1_ := Aside0.mk (Kd.R_below (by (with_reducible repeat (first | apply Kd.R_alloc | apply Kd.R_drewN | apply Kd.R_drew)); exact HO_11.out) hb); have n2_ := Aside0.mk (Kd.R_below (by (with_reducible repeat (first | apply Kd.R_alloc | apply Kd.R_drewN | apply Kd.R_drew)); exact HO_373000.out) hb); have n3_ := Aside0.mk (blk_below (g := gb360) (o := .cells #[.slice A0_0 l0_0.length c0_0] 24 (0, 0)) (by (with_reducible repeat (first | refine blk_drewN ?_ _ | refine blk_drew ?_ | refine blk_alloc ?_ _)); exact BK360.out) hb); have n4_ := Aside0.mk (blk_below (g := gb372) (o := .cells #[.slice Ao26 t383.length co26] 31 (0, 0)) (by (with_reducible repeat (first | refine blk_drewN ?_ _ | refine blk_drew ?_ | refine blk_alloc ?_ _)); exact BK372.out) hb); have n5_ := Aside0.mk (below_step (by repeat (first | (with_reducible first | exact HB.out | apply below_alloc | apply pw_below_drewN | apply below_drew1 | refine below_set ?_ GE360.out | refine below_set ?_ GE372.out) | exact HB.out)) hb); clear HO_8; clear HO_11; clear HO_373000; clear BK360; clear BK372; clear HB; have HO_8 := n0_; have HO_11 := n1_; have HO_373000 := n2_; have BK360 := n3_; have BK372 := n4_; have HB := n5_; clear n0_ n1_ n2_ n3_ n4_ n5_; (try clear hb); (try clear hb2); (try clear hk); (try clear hi)))
            go_ret
            exact ⟨by first | rfl | (simp [errW_none, errW_some] <;> rfl) | (simp [*, errW_none, errW_some] <;> rfl), by repeat (first | (with_reducible first | exact HB.out | apply below_alloc | apply pw_below_drewN | apply below_drew1 | refine below_set ?_ GE360.out | refine below_set ?_ GE372.out) | exact HB.out)⟩
      ·
       replace c39 := Bool.eq_false_iff.mpr c39
       subst c39
       replace H : (some false) = some r := by rw [if_neg (show ¬ (false = true) by decide)] at H; exact H
       obtain rfl := Option.some.inj H
       try go_wp2
       have n0_ := Aside0.mk (Kd.R_drew HO_8.out)
       have n1_ := Aside0.mk (Kd.R_drew HO_11.out)
       have n2_ := Aside0.mk (Kd.R_drew HO_373000.out)
       have n3_ := Aside0.mk (blk_drew BK360.out)
       have n4_ := Aside0.mk (blk_drew BK372.out)
       have n5_ := Aside0.mk (below_drew1 HB.out)
       clear HO_8
       clear HO_11
       clear HO_373000
       clear BK360
       clear BK372
       clear HB
       have HO_8 := n0_
       have HO_11 := n1_
       have HO_373000 := n2_
       have BK360 := n3_
       have BK372 := n4_
       have HB := n5_
       clear n0_ n1_ n2_ n3_ n4_ n5_
       refine start_ (n := 5) (S := fun w' => w'.cell? ⟨gb372, 0, none⟩ = some (.slice Ao26 t369.length co26) ∧ w'.cell? ⟨gb360, 0, none⟩ = some (.slice A0_0 l0_0.length c0_0)) (ds := []) #[false, false, false, false, false] (by kernel_rfl) rfl rfl ⟨(blk_cell BK372.out 0).trans rfl, (blk_cell BK360.out 0).trans rfl⟩ (fun hHeld => ?_)
       generalize wc.drew = w91 at HO_8 HO_11 HO_373000 BK360 BK372 HB hHeld ⊢
       refine take_ (i := 0) (N := some 52) (v := ?_) (a' := ?_) #[true, false, false, false, false] rfl rfl (by kernel_rfl) (fun _ _ _ h => h) (Or.inl ⟨by rfl, ?_⟩) hHeld ?_ ?_
       rotate_left
       ·
        rintro w' ⟨s0, s1⟩
        go_simp
        with_reducible rfl
       rotate_left
       ·
        simp only [Act.put, List.setIfInBounds_toArray, List.set_cons_zero, List.set_cons_succ, i64_w, i32_w]
        rfl
       refine take_ (i := 1) (N := some 53) (v := ?_) (a' := ?_) #[true, true, false, false, false] rfl rfl (by kernel_rfl) (fun _ _ _ h => h) (Or.inl ⟨by rfl, ?_⟩) hHeld ?_ ?_
       rotate_left
       ·
        rintro w' ⟨s0, s1⟩
        go_simp
        with_reducible rfl
       rotate_left
       ·
        simp only [Act.put, List.setIfInBounds_toArray, List.set_cons_zero, List.set_cons_succ, i64_w, i32_w]
        rfl
       refine one_ (i := 2) (N := some 54) #[true, true, true, false, false] rfl rfl (by kernel_rfl) (by decide) (fun K hK => ?_)
       refine goes_ Tryz.func8 (by kernel_rfl) rfl #[.agg #[.slice A0_0 l0_0.length c0_0]] (by rfl) rfl rfl (by (try simp only [List.map_toArray, List.map_cons, List.map_nil]); first | done | rfl | (simp only [List.length_drop, List.length_take]; rfl)) ?_
       with_reducible refine (laws_toTrie.calls kj14 _ _ l0_0 t378 _ ?side1 ?side2 A37.out).mono ?_
       (case side1 => repeat (first | exact (Kd.C_below HR0_0.out HB.out) | (with_reducible refine Kd.C_alloc ?_ _) | (with_reducible refine Kd.C_drewN ?_ _) | (with_reducible refine Kd.C_drew ?_)))
       (case side2 => exact HC0_0.out)
       rintro e w92 ⟨v379, rfl, ho0, hb⟩
       refine ⟨_, rfl, ?_⟩
       have n0_ := Aside0.mk (Kd.R_below (by (with_reducible repeat (first | apply Kd.R_alloc | apply Kd.R_drewN | apply Kd.R_drew)); exact HO_8.out) hb)
       have n1_ := Aside0.mk (Kd.R_below (by (with_reducible repeat (first | apply Kd.R_alloc | apply Kd.R_drewN | apply Kd.R_drew)); exact HO_11.out) hb)
       have n2_ := Aside0.mk (Kd.R_elder' (by (with_reducible repeat (first | apply Kd.R_alloc | apply Kd.R_drewN | apply Kd.R_drew)); exact HO_373000.out) (Kd.R_base ho0) hb)
       have n3_ := Aside0.mk (Kd.R_lower (Kd.R_new' ho0 (Kd.R_lt (by (with_reducible repeat (first | apply Kd.R_alloc | apply Kd.R_drewN | apply Kd.R_drew)); exact HO_373000.out))) (below_size (by repeat (first | (with_reducible first | exact HB.out | apply below_alloc | apply pw_below_drewN | apply below_drew1 | refine below_set ?_ GE360.out | refine below_set ?_ GE372.out) | exact HB.out))))
       have n4_ := Aside0.mk (blk_below (g := gb360) (o := .cells #[.slice A0_0 l0_0.length c0_0] 24 (0, 0)) (by (with_reducible repeat (first | refine blk_drewN ?_ _ | refine blk_drew ?_ | refine blk_alloc ?_ _)); exact BK360.out) hb)
       have n5_ := Aside0.mk (blk_below (g := gb372) (o := .cells #[.slice Ao26 t369.length co26] 31 (0, 0)) (by (with_reducible repeat (first | refine blk_drewN ?_ _ | refine blk_drew ?_ | refine blk_alloc ?_ _)); exact BK372.out) hb)
       have n6_ := Aside0.mk (below_step (by repeat (first | (with_reducible first | exact HB.out | apply below_alloc | apply pw_below_drewN | apply below_drew1 | refine below_set ?_ GE360.out | refine below_set ?_ GE372.out) | exact HB.out)) hb)
       clear HO_8
       clear HO_11
       clear HO_373000
       clear BK360
       clear BK372
       clear HB
       have HO_8 := n0_
       have HO_11 := n1_
       have HO_373000 := n2_
       have HO380 := n3_
       have BK360 := n4_
       have BK372 := n5_
       have HB := n6_
       clear n0_ n1_ n2_ n3_ n4_ n5_ n6_
       (try clear hb)
       (try clear hb2)
       (try clear hk)
       (try clear hi)
       (try clear ho0)
       obtain ⟨Ao93, co93, eo93⟩ := Kd.R_slice HO380.out
       (first | subst eo93 | (injection eo93 with f1_ f2_ f3_; have f4_ := f1_.symm; have f5_ := f3_.symm; clear f1_ f2_ f3_; subst f4_; subst f5_))
       refine hK.out _ _ ⟨(blk_cell BK372.out 0).trans rfl, (blk_cell BK360.out 0).trans rfl⟩ (fun hHeld => ?_)
       clear hK K
       refine norm_ (a' := ?_) ?_ ?_
       rotate_left
       ·
        show Act.put _ (some 54) _ = _
        simp only [Act.put, List.setIfInBounds_toArray, List.set_cons_zero, List.set_cons_succ, i64_w, i32_w]
        rfl
       refine one_ (i := 3) (N := some 55) #[true, true, true, true, false] rfl rfl (by kernel_rfl) (by decide) (fun K hK => ?_)
       refine goes_ Tryz.func11 (by kernel_rfl) rfl #[.agg #[.slice Ao26 t369.length co26], .agg #[.slice Ao93 t378.length co93]] (by rfl) rfl rfl (by (try simp only [List.map_toArray, List.map_cons, List.map_nil]); first | done | rfl | (simp only [List.length_drop, List.length_take]; rfl)) ?_
       with_reducible refine (laws_eqTrie.calls kj14 _ _ t369 _ _ t378 false _ ?side1 ?side2 ?side3 ?side4 A38.out).mono ?_
       (case side1 => repeat (first | exact (Kd.R_reads' HO_373000.out).2.2 | (with_reducible refine Kd.C_alloc ?_ _) | (with_reducible refine Kd.C_drewN ?_ _) | (with_reducible refine Kd.C_drew ?_)))
       (case side2 => exact (Kd.R_reads' HO_373000.out).2.1)
       (case side3 => repeat (first | exact (Kd.R_reads' HO380.out).2.2 | (with_reducible refine Kd.C_alloc ?_ _) | (with_reducible refine Kd.C_drewN ?_ _) | (with_reducible refine Kd.C_drew ?_)))
       (case side4 => exact (Kd.R_reads' HO380.out).2.1)
       rintro e w94 ⟨rfl, hb⟩
       refine ⟨_, rfl, ?_⟩
       have n0_ := Aside0.mk (Kd.R_below (by (with_reducible repeat (first | apply Kd.R_alloc | apply Kd.R_drewN | apply Kd.R_drew)); exact HO_8.out) hb)
       have n1_ := Aside0.mk (Kd.R_below (by (with_reducible repeat (first | apply Kd.R_alloc | apply Kd.R_drewN | apply Kd.R_drew)); exact HO_11.out) hb)
       have n2_ := Aside0.mk (Kd.R_below (by (with_reducible repeat (first | apply Kd.R_alloc | apply Kd.R_drewN | apply Kd.R_drew)); exact HO_373000.out) hb)
       have n3_ := Aside0.mk (Kd.R_below (by (with_reducible repeat (first | apply Kd.R_alloc | apply Kd.R_drewN | apply Kd.R_drew)); exact HO380.out) hb)
       have n4_ := Aside0.mk (blk_below (g := gb360) (o := .cells #[.slice A0_0 l0_0.length c0_0] 24 (0, 0)) (by (with_reducible repeat (first | refine blk_drewN ?_ _ | refine blk_drew ?_ | refine blk_alloc ?_ _)); exact BK360.out) hb)
       have n5_ := Aside0.mk (blk_below (g := gb372) (o := .cells #[.slice Ao26 t369.length co26] 31 (0, 0)) (by (with_reducible repeat (first | refine blk_drewN ?_ _ | refine blk_drew ?_ | refine blk_alloc ?_ _)); exact BK372.out) hb)
       have n6_ := Aside0.mk (below_step (by repeat (first | (with_reducible first | exact HB.out | apply below_alloc | apply pw_below_drewN | apply below_drew1 | refine below_set ?_ GE360.out | refine below_set ?_ GE372.out) | exact HB.out)) hb)
       clear HO_8
       clear HO_11
       clear HO_373000
       clear HO380
       clear BK360
       clear BK372
       clear HB
       have HO_8 := n0_
       have HO_11 := n1_
       have HO_373000 := n2_
       have HO380 := n3_
       have BK360 := n4_
       have BK372 := n5_
       have HB := n6_
       clear n0_ n1_ n2_ n3_ n4_ n5_ n6_
       (try clear hb)
       (try clear hb2)
       (try clear hk)
       (try clear hi)
       refine hK.out _ _ ⟨(blk_cell BK372.out 0).trans rfl, (blk_cell BK360.out 0).trans rfl⟩ (fun hHeld => ?_)
       clear hK K
       refine norm_ (a' := ?_) ?_ ?_
       rotate_left
       ·
        show Act.put _ (some 55) _ = _
        simp only [Act.put, List.setIfInBounds_toArray, List.set_cons_zero, List.set_cons_succ, i64_w, i32_w]
        rfl
       refine pure_ (i := 4) (N := some 56) (v := ?_) (a' := ?_) #[true, true, true, true, true] rfl rfl (by kernel_rfl) (fun _ _ _ h => h) (Or.inl ⟨by rfl, ?_⟩) ?_ ?_
       rotate_left
       ·
        intro w'
        go_simp
        with_reducible rfl
       rotate_left
       ·
        simp only [Act.put, List.setIfInBounds_toArray, List.set_cons_zero, List.set_cons_succ, i64_w, i32_w]
        rfl
       refine done_ (by kernel_rfl) ?_
       try go_wp2
       go_ret
       exact ⟨by first | rfl | (simp [errW_none, errW_some] <;> rfl) | (simp [*, errW_none, errW_some] <;> rfl), by repeat (first | (with_reducible first | exact HB.out | apply below_alloc | apply pw_below_drewN | apply below_drew1 | refine below_set ?_ GE360.out | refine below_set ?_ GE372.out) | exact HB.out)⟩
def laws_FnExactAlikeWords.Pure : Prop := ∀ (l0_0 : List S67) (a1 : ByteArray) (a2 : Int), l0_0.length ≤ 9223372036854775807 → a1.size ≤ 140737488351232 → (Lit.int .i64 a2).wf = true → ∃ k, laws_FnExactAlikeWords.f k l0_0 a1 a2 = some true
theorem laws_FnExactAlikeWords.walk (P : laws_FnExactAlikeWords.Pure) (w : World) (A0 : Option Addr) (c0 : Nat) (l0_0 : List S67) (hr0 : Kd.C k67 w A0 l0_0.length l0_0) (hc0 : l0_0.length ≤ c0) (a1 : ByteArray) (w1 : a1.size ≤ 140737488351232) (a2 : Int) (w2 : (Lit.int .i64 a2).wf = true) :
  Calls Tryz.prog 3 #[.agg #[.slice A0 l0_0.length c0], .string a1, .int .i64 a2] w fun e w' => e = .returned (.bool true) ∧ Below w.heap.size w w' := by
 obtain ⟨k, h⟩ := P l0_0 a1 a2 hr0.2.1 w1 w2
 refine (laws_FnExactAlikeWords.calls k _ _ l0_0 a1 a2 true w hr0 hc0 h).mono ?_
 rintro e w' ⟨rfl, hd⟩
 exact ⟨rfl, hd⟩
end Go.Proofs.YtpgobnhklnglhaaGreatDoor.P
namespace Go.Proofs.YtpgobnhklnglhaaGreatDoor.M
def diffL : Txt → Txt → Nat
 | x :: a, y :: b => (if x = y then 0 else 1) + diffL a b
 | _, _ => 0
theorem diffL_le : ∀ (a b : Txt), diffL a b ≤ a.length
 | [], b => by cases b <;> exact Nat.le_refl _
 | x :: a, [] => Nat.zero_le _
 | x :: a, y :: b => by
  have := diffL_le a b
  rw [diffL, List.length_cons]
  split <;> omega
end Go.Proofs.YtpgobnhklnglhaaGreatDoor.M
namespace Go.Proofs.YtpgobnhklnglhaaGreatDoor.L
open Go.RowKit Go.Proofs.YtpgobnhklnglhaaGreatDoor.P Go.Proofs.YtpgobnhklnglhaaGreatDoor.M Go.Proofs.YtpgobnhklnglhaaGreatDoorW.PrintWords Go.Proofs.YtpgobnhklnglhaaGreatDoorW.PrintLast Go.Proofs.YtpgobnhklnglhaaGreatDoorW.PrintMore
theorem bt_sameD (a b : Txt) (n : Nat) (h : n < a.length) (h2 : n < b.length) : bt (B a) (n : Int) = bt (B b) (n : Int) ↔ a.getD n 0 = b.getD n 0 := by
 rw [bt_B a n h, bt_B b n h2]
 constructor
 ·
  intro e
  exact UInt8.toNat_inj.1 (by omega)
 ·
  intro e
  rw [e]
theorem difference_ev (a b : Txt) (hab : a.length = b.length) (ha : a.length ≤ 12) : Ev (fun k => impl_difference.f k (B a) (B b)) (diffL a b : Int) := by
 have loop : ∀ (d i s : Nat), i + d = a.length → s ≤ i → Ev (fun k => impl_difference.l0 k (B a) (B b) (s : Int) (a.length : Int) (i : Int)) ((s + diffL (a.drop i) (b.drop i) : Nat) : Int) := by
  intro d
  induction d with
  | zero =>
   intro i s q hs
   rw [List.drop_of_length_le (show a.length ≤ i by omega), List.drop_of_length_le (show b.length ≤ i by omega)]
   exact Ev.step (fun k => impl_difference.l0.eq_2 ..) (Ev.ifF (by omega) (Ev.now _))
  | succ d ih =>
   intro i s q hs
   rw [drop_cons_getD 0 (show i < a.length by omega), drop_cons_getD 0 (show i < b.length by omega), diffL]
   refine Ev.step (fun k => impl_difference.l0.eq_2 ..) (Ev.ifT (by omega) (Ev.ifT (by omega) (Ev.ifT (by rw [size_B]; omega) (Ev.ifT (by rw [size_B]; omega) ?_))))
   rw [wrap64_succ i (by omega)]
   by_cases e : a.getD i 0 = b.getD i 0
   ·
    rw [if_pos e, Nat.zero_add]
    exact Ev.ifT ((bt_sameD a b i (by omega) (by omega)).2 e) (ih (i + 1) s (by omega) (by omega))
   ·
    rw [if_neg e, ← Nat.add_assoc, wrap64_succ s (by omega)]
    exact Ev.ifF (fun h => e ((bt_sameD a b i (by omega) (by omega)).1 h)) (ih (i + 1) (s + 1) (by omega) (by omega))
 have := loop a.length 0 0 (by omega) (by omega)
 rw [List.drop_zero, List.drop_zero, Nat.zero_add] at this
 unfold impl_difference.f
 rw [size_B]
 exact this
theorem l6Difference_ev (a b : Txt) (hab : a.length = b.length) (ha : a.length ≤ 12) : Ev (fun k => spec_l6Difference.f k (B a) (B b)) (diffL a b : Int) := by
 have loop : ∀ (d i s : Nat), i + d = a.length → s ≤ i → Ev (fun k => spec_l6Difference.l0 k (B a) (B b) (s : Int) (i : Int)) ((s + diffL (a.drop i) (b.drop i) : Nat) : Int) := by
  intro d
  induction d with
  | zero =>
   intro i s q hs
   rw [List.drop_of_length_le (show a.length ≤ i by omega), List.drop_of_length_le (show b.length ≤ i by omega)]
   exact Ev.step (fun k => spec_l6Difference.l0.eq_2 ..) (Ev.ifF (by rw [size_B]; omega) (Ev.now _))
  | succ d ih =>
   intro i s q hs
   rw [drop_cons_getD 0 (show i < a.length by omega), drop_cons_getD 0 (show i < b.length by omega), diffL]
   refine Ev.step (fun k => spec_l6Difference.l0.eq_2 ..) (Ev.ifT (by rw [size_B]; omega) (Ev.ifT (by omega) (Ev.ifT (by rw [size_B]; omega) ?_)))
   rw [wrap64_succ i (by omega)]
   by_cases e : a.getD i 0 = b.getD i 0
   ·
    rw [if_pos e, Nat.zero_add]
    exact Ev.ifT ((bt_sameD a b i (by omega) (by omega)).2 e) (ih (i + 1) s (by omega) (by omega))
   ·
    rw [if_neg e, ← Nat.add_assoc, wrap64_succ s (by omega)]
    exact Ev.ifF (fun h => e ((bt_sameD a b i (by omega) (by omega)).1 h)) (ih (i + 1) (s + 1) (by omega) (by omega))
 have := loop a.length 0 0 (by omega) (by omega)
 rw [List.drop_zero, List.drop_zero, Nat.zero_add] at this
 exact this
end Go.Proofs.YtpgobnhklnglhaaGreatDoor.L
namespace Go.Proofs.YtpgobnhklnglhaaGreatDoor.Pure
open Go.RowKit Go.Proofs.YtpgobnhklnglhaaGreatDoor.P Go.Proofs.YtpgobnhklnglhaaGreatDoor.M Go.Proofs.YtpgobnhklnglhaaGreatDoorW.PrintWords Go.Proofs.YtpgobnhklnglhaaGreatDoorW.PrintLast Go.Proofs.YtpgobnhklnglhaaGreatDoorW.PrintMore
open Go.Proofs.YtpgobnhklnglhaaGreatDoor.L
namespace AlikeWords
def near (w : Txt) (m : Int) (o : Txt) : Bool := decide (o.length = w.length) && decide ((diffL o w : Int) ≤ m)
theorem spec_loop {ws : List Txt} (h : OkW ws) (w : Txt) (hw : w.length ≤ 12) (m : Int) (R : List Txt) : ∀ (d i : Nat) (acc : List Txt), i + d = ws.length → acc.length ≤ i → acc ++ (ws.drop i).filter (near w m) = R →
  Ev (fun k => spec_AlikeWords.l0 k (B w) m (acc.map B) (ws.map B) (i : Int)) (R.map B, true) := by
 have h40 := h.len
 intro d
 induction d with
 | zero =>
  intro i acc q1 q0 q2
  rw [List.drop_of_length_le (by omega), List.filter_nil, List.append_nil] at q2
  subst q2
  exact Ev.step (fun k => spec_AlikeWords.l0.eq_2 ..) (Ev.ifF (by rw [List.length_map]; omega) (Ev.now _))
 | succ d ih =>
  intro i acc q1 q0 q2
  have hi : i < ws.length := by omega
  have hwi := h.le _ (getD_mem hi)
  rw [drop_cons_getD [] hi, List.filter_cons] at q2
  refine Ev.step (fun k => spec_AlikeWords.l0.eq_2 ..) (Ev.ifT (by rw [List.length_map]; omega) (Ev.ifT (by omega) ?_))
  rw [rdB ws i hi]
  rw [size_B, size_B]
  by_cases hn : (ws.getD i []).length = w.length
  ·
   refine Ev.ifT (by omega) (Ev.bind (l6Difference_ev _ w hn (by omega)) ?_)
   by_cases hq : (diffL (ws.getD i []) w : Int) ≤ m
   ·
    have hh : near w m (ws.getD i []) = true := by unfold near; rw [decide_eq_true hn, decide_eq_true hq]; rfl
    rw [if_pos hh] at q2
    refine Ev.ifT hq (Ev.ifT (by rw [List.length_map]; omega) ?_)
    rw [wrap64_succ i (by omega)]
    have := ih (i + 1) (acc ++ [ws.getD i []]) (by omega) (by simp; omega) (by rw [List.append_assoc]; exact q2)
    rwa [List.map_append] at this
   ·
    have hh : ¬ near w m (ws.getD i []) = true := by unfold near; rw [decide_eq_false hq, Bool.and_false]; exact Bool.false_ne_true
    rw [if_neg hh] at q2
    refine Ev.ifF hq ?_
    rw [wrap64_succ i (by omega)]
    exact ih (i + 1) acc (by omega) (by omega) q2
  ·
   have hh : ¬ near w m (ws.getD i []) = true := by unfold near; rw [decide_eq_false hn, Bool.false_and]; exact Bool.false_ne_true
   rw [if_neg hh] at q2
   refine Ev.ifF (by omega) ?_
   rw [wrap64_succ i (by omega)]
   exact ih (i + 1) acc (by omega) (by omega) q2
theorem impl_g {ws : List Txt} (h : OkW ws) (w : Txt) (hw : w.length ≤ 12) (m : Int) : Ev (fun k => impl_AlikeWords.g k (trN (preL ws) ws) (B w) m) ((ws.filter (near w m)).map B) := by
 have h40 := h.len
 have hok := okFilter h (near w m)
 unfold impl_AlikeWords.g
 refine Ev.bind (words_ev h) (Ev.ifT (by rw [List.length_map]; omega) (Ev.bind (a := (ws.filter (near w m)).map B) ?_ (Ev.bind (trieOf_ev hok) (words_ev hok))))
 refine filtB_ev _ _ (near w m) fun o ho => ?_
 have := h.le o ho
 unfold impl_AlikeWords.p near
 rw [size_B, size_B]
 by_cases hn : o.length = w.length
 ·
  rw [decide_eq_true hn, Bool.true_and]
  exact Ev.ifT (by omega) (Ev.bind (difference_ev o w hn (by omega)) (Ev.now _))
 ·
  rw [decide_eq_false hn, Bool.false_and]
  exact Ev.ifF (by omega) (Ev.now _)
theorem both (N : List Nd) (w : Txt) (m : Int) (_hw : w.length ≤ 1048576) : ∃ r : List ByteArray × Bool, r.1.length ≤ 1000 ∧ Ev (fun k => spec_AlikeWords.f k N (B w) m) r ∧ Ev (fun k => impl_AlikeWords.f k N (B w) m) r := by
 unfold spec_AlikeWords.f impl_AlikeWords.f
 rcases good_both N w m _hw with ⟨ws, h, hwd, hm, rfl, e1, e2, e3⟩ | ⟨e1, e2⟩
 ·
  have h12 := (wordL_iff.1 hwd).2
  refine ⟨((ws.filter (near w m)).map B, true), ?_, Ev.some_bind (Ev.bind e1 (Ev.ifT rfl ?_)), Ev.bind e2 (Ev.ifT rfl ?_)⟩
  ·
   rw [List.length_map]; have := (okFilter h (near w m)).len; omega
  ·
   exact Ev.bind (l2Words_ev h) (spec_loop h w h12 m _ ws.length 0 [] (by omega) (by simp) (by rw [List.drop_zero, List.nil_append]))
  ·
   rw [e3]; exact Ev.some_bind (Ev.ifT rfl (Ev.bind (impl_g h w h12 m) (Ev.now _)))
 ·
  exact ⟨([], false), by simp, Ev.some_bind (Ev.bind e1 (Ev.ifF Bool.false_ne_true (Ev.now _))), e2 _⟩
end AlikeWords
theorem FnExactAlikeWords : laws_FnExactAlikeWords.Pure := by
 intro l a m hl ha _
 obtain ⟨w, rfl⟩ := exB a
 by_cases hb : ((B w).size : Int) > 1048576
 ·
  exact ⟨0, by unfold laws_FnExactAlikeWords.f; rw [if_pos hb]⟩
 rw [size_B] at hb
 by_cases hs : l.length ≤ 1048576
 ·
  obtain ⟨r, hr, h1, h2⟩ := AlikeWords.both (toN l) w m (by omega)
  have hP := eqTrie_ev (toN l) (by rw [toN_length]; omega)
  have hE := eqStringS_ev r.1 (by omega)
  have hM := markTrie_ev (toN l) (by rw [toN_length]; omega)
  have hT := markStringS_ev r.1 (by omega)
  have hH := heldStringS_ev r.1 (by omega)
  refine Ev.rounds ?_
  unfold laws_FnExactAlikeWords.f
  refine Ev.ifF (by rw [size_B]; exact hb) ?_
  rw [szTrie_eq l hl, if_pos hs]
  refine Ev.some_bind (Ev.ifF (by omega) (Ev.bind (toTrie_ev l hs) (Ev.bind h1 (Ev.bind (toTrie_ev l hs) (Ev.bind h2 (Ev.bind hE (Ev.ifT rfl ?_)))))))
  refine Ev.step (fun k => laws_FnExactAlikeWords.j0.eq_2 ..) (Ev.ifF (by simp) (Ev.bind (toTrie_ev l hs) (Ev.bind hP (Ev.ifT rfl (Ev.bind hM (Ev.ifF (by omega) (Ev.bind hE (Ev.ifT rfl ?_))))))))
  refine Ev.step (fun k => laws_FnExactAlikeWords.j1.eq_2 ..) (Ev.ifF (by simp) (Ev.bind hT (Ev.bind hH (Ev.ifF (by omega) (Ev.ifT rfl (Ev.bind (toTrie_ev l hs) (Ev.bind h2 (Ev.bind hE (Ev.ifT rfl ?_)))))))))
  exact Ev.step (fun k => laws_FnExactAlikeWords.j2.eq_2 ..) (Ev.ifF (by simp) (Ev.bind hH (Ev.ifF (by omega) (Ev.ifT rfl (Ev.now _)))))
 ·
  exact ⟨0, by unfold laws_FnExactAlikeWords.f; rw [if_neg (by rw [size_B]; exact hb), szTrie_eq l hl, if_neg hs]; rfl⟩
end Go.Proofs.YtpgobnhklnglhaaGreatDoor.Pure
namespace Go.Proofs.YtpgobnhklnglhaaGreatDoor.fnExactAlikeWords
open Go.ChangeShapes Go.WideShapes Go.ChangeAt Go.RowKit Go.Proofs.YtpgobnhklnglhaaGreatDoor.P
open Go.ChangeMaps (open_string shut_string)
def laidL : List (String × DataW Unit) := [("unicode/utf8.acceptRanges", Rows.laid_unicode_utf8_acceptRanges), ("unicode/utf8.first", Rows.laid_unicode_utf8_first)]
theorem own : ownKnob Tryz.prog.godebug = none := by kernel_rfl
theorem laidOut : laidOutB Tryz.prog = true := by kernel_rfl
theorem lifted (os : Os) (started : os.Started) (H : Type) (enc : TypeId × Value → H) :
    ReturnsInHanded {} Tryz.checked os 3 .any (fun w args => (Rows.fnExactAlikeWordsSpec.pre enc Tryz.prog Tryz.f3 [] false w args ∧ laidMetH Tryz.prog laidL w) ∧ sizedMet enc Tryz.prog Tryz.f3 (OpenSpec.ofChange Rows.fnExactAlikeWordsSpec) false w args) (Rows.fnExactAlikeWordsSpec.post enc Tryz.prog Tryz.f3 false true false false) := by
  refine returnsInHanded_of_change_and (C := Tryz.checked) (X := fun w _ => laidMetH Tryz.prog laidL w) (fun _ _ _ hh h => h.of_heap hh) own started (by kernel_rfl) Tryz.func3
    (ChangeSpec.witness_shaped (enc := enc) (C := Tryz.checked) (os := os) (X := fun w _ => laidMetH Tryz.prog laidL w) false (World.laidAll Tryz.prog os laidL) #[.agg #[.slice none 0 0], .string ByteArray.empty, .int .i64 0] 8 (World.laidAll_os _ _ _) (World.shaped_of_ZipB (by kernel_rfl) (by kernel_rfl)) (by kernel_rfl) (by kernel_rfl) (by kernel_rfl)
      (by rw [MakeChecks.laidMetH_plain _ _ _ (by kernel_rfl)]; exact laidMet_laidAll _ (by kernel_rfl) (by kernel_rfl))) ?_
  intro W base args ds gs before hval0 hW hcnd hsz0 hL_ _
  have hsz : (DataW.weightsEach Tryz.prog (Tryz.f3.params.toList ++ Rows.fnExactAlikeWordsSpec.plain.varTypes Tryz.prog) (ds ++ gs)).all (· ≤ reachBytes) = true := hsz0
  have hval : ∀ (j : Nat) t v, Tryz.f3.params[j]? = some t → args[j]? = some v → Value.okWide Tryz.prog W .any base t v := hval0
  have hW' := hW
  obtain ⟨p, q, hA0, hV, rfl, hfz, hnd⟩ := hW
  have hA : DataW.TrodAll enc Tryz.prog W 0 (fun _ => true) true Tryz.f3.params.toList args.toList ds p := hA0
  rw [Tryz.params3] at hA hval hsz
  obtain ⟨v0, vs0, d0, ds0, p0, q0, hargs, rfl, rfl, h0, r0⟩ := trodAll_cons hA
  obtain ⟨v1, vs1, d1, ds1, p1, q1, rfl, rfl, rfl, h1, r1⟩ := trodAll_cons r0
  obtain ⟨v2, vs2, d2, ds2, p2, q2, rfl, rfl, rfl, h2, r2⟩ := trodAll_cons r1
  obtain ⟨rfl, rfl, rfl⟩ := trodAll_nil r2
  obtain rfl : args = #[v0, v1, v2] := by cases args; simp_all
  obtain ⟨rfl, rfl⟩ := trodVars_none hV
  have k0 := h0
  have lt0 : ∀ x ∈ p0, x.block < W.heap.size := by obtain ⟨m, hm⟩ := k0; exact DataW.trod_lt m _ _ _ hm
  obtain ⟨A0, c0, l0, ev0, hc0, hr0⟩ := OT.trie (hval 0 24 v0 rfl rfl) h0
  subst ev0
  obtain ⟨a1, rfl, rfl, rfl, y1⟩ := open_string Tryz.underlying9 (hval 1 9 v1 rfl rfl) h1
  have w1 : a1.size ≤ 140737488351232 := by
    have z := sized_string hsz (j := 1) (t := 9) rfl rfl
    rw [Array.length_toList] at z
    exact z
  obtain ⟨a2, rfl, rfl, rfl, w2⟩ := open_int Tryz.underlying3 (hval 2 3 v2 rfl rfl) h2
  clear hA0 hval0 hsz0 hsz
  refine (laws_FnExactAlikeWords.walk Pure.FnExactAlikeWords W A0 c0 l0 hr0 hc0 a1 w1 a2 w2).mono fun e W' ⟨he, bel⟩ => ?_
  subst he
  exact ⟨_, rfl, _, _, _, [], _, [], hW', trodAll_mk1 (shut_bool Tryz.underlying4 _), (trodAll_cons_mk (Below.trod laidOut (by kernel_rfl) (of_decide_eq_true (by kernel_rfl)) k0 bel lt0) (trodAll_cons_mk (shut_string Tryz.underlying9 y1) (trodAll_cons_mk (shut_int Tryz.underlying3 w2) trodAll_mk0))), rfl, bel.frame _, fun h => by cases h⟩
theorem over : Rows.fnExactAlikeWordsRow.holds Tryz.pinned (OpenSpec.ofChange Rows.fnExactAlikeWordsSpec) :=
  OpenClaim.holds_of_wide 3 Tryz.f3 rfl rfl rfl rfl rfl rfl rfl ⟨rfl, rfl, rfl, rfl, rfl⟩ rfl rfl rfl rfl rfl (by kernel_rfl) Tryz.func3 (by kernel_rfl)
    (of_decide_eq_true (by kernel_rfl)) (by unfold Func.isWrapper; first | (rw [if_pos (by decide +kernel)]; kernel_rfl) | (rw [if_neg (by decide +kernel)]; exact ⟨rfl, rfl⟩))
    (fun os started H enc _ => lifted os started H enc)
theorem proved : Rows.FnExactAlikeWordsSaid := over
end Go.Proofs.YtpgobnhklnglhaaGreatDoor.fnExactAlikeWords
namespace Go.Proofs.YtpgobnhklnglhaaGreatDoor
theorem fnExactAlikeWords_holds : Rows.FnExactAlikeWordsSaid := fnExactAlikeWords.proved
theorem fnExactAlikeWords_card : Rows.FnExactAlikeWordsCardSaid :=
  Claim7.holds_tied_plain_at .later [] [.data, .pinned] true (true, "18b5349811558f14302ef38075f311b450dddf946eda31796879a43ec673fad8") false
    fnExactAlikeWords_holds (fun _ h => by cases h) (by kernel_rfl) (fun _ h => by cases h) fnExactAlikeWords_row_tie rfl ⟨rfl, rfl⟩ (by kernel_rfl) rfl
    (fun f fn hf hfn => by
      obtain rfl : f = 3 := Option.some.inj ((show Tryz.prog.funcNamed "loop.example/g01243/laws.FnExactAlikeWords" = some 3 by kernel_rfl).symm.trans hf) |>.symm
      obtain rfl : fn = Tryz.f3 := (Option.some.inj (Tryz.func3.symm.trans hfn)).symm
      exact ⟨by kernel_rfl, fun j t ht => by
        rw [Tryz.params3] at ht
        have hm : t ∈ [24, 9, 3] := by simpa using Array.mem_of_getElem? ht
        have hall : ([24, 9, 3].all fun u => !Tryz.prog.wantsStandIn u) = true := by kernel_rfl
        exact (show Tryz.prog.wantsStandIn t = false by simpa using List.all_eq_true.1 hall t hm)⟩)
    (by kernel_rfl)
end Go.Proofs.YtpgobnhklnglhaaGreatDoor
