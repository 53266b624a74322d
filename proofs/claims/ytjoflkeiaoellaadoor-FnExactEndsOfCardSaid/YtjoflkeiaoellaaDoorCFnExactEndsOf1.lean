/-
  Part 2 of the proof that FnExactEndsOf returns true for every input: the functions that it reaches, each with its contract, and the law.
  Conditions: those of the given statement, no others.
-/
import Derived.Test.YtjoflkeiaoellaaDoorProg
import Derived.Ground.NamesProg
import Derived.Shelf.Sort.Plain
import Derived.Shelf.Slices.In.SortNone
import Derived.Shelf.Slices.CompactS
import Derived.RangeFuncBox
import Derived.RangeFuncLeaves
import Derived.Shelf.Abstract
import Derived.OwnWalkIn
import Derived.TacticsInMore
import Derived.LoopNIn
import Derived.LoopIn
import Derived.Maps.AppendAt
import Derived.Sort.OwnSorted
import Derived.Lib.OwnBridge
import Derived.Test.YtjoflkeiaoellaaDoorRows
import Derived.WalkKit
import Derived.ProofKit
import Derived.OpenShut
import Derived.ShutString
import Derived.ChangeOld
import Derived.Below
import Derived.SizedLaws
import Derived.Lay
import Derived.LaidOnce
import Derived.SevenTiedAt
import Derived.Test.YtjoflkeiaoellaaDoorCards
import Derived.Test.YtjoflkeiaoellaaDoorTie
import Derived.Test.YtjoflkeiaoellaaDoorCFnExactEndsOf0
namespace Go.Proofs.YtjoflkeiaoellaaDoor.L
open Go.RowKit Go.Proofs.YtjoflkeiaoellaaDoor.P Go.Proofs.YtjoflkeiaoellaaDoor.M Go.Proofs.YtjoflkeiaoellaaDoorW.PrintWords Go.Proofs.YtjoflkeiaoellaaDoorW.PrintLast Go.Proofs.YtjoflkeiaoellaaDoorW.PrintMore
set_option linter.unusedVariables false
def text8 (l : List UInt8) : Bool := l.all letterB && decide (l.length ≤ 16)
theorem l8Text_loop (l : List UInt8) (hl : l.length ≤ 4611686018427387903) : ∀ (d n : Nat), n + d = l.length → Ev (fun k => spec_l8Text.l0 k (B l) (n : Int)) ((l.drop n).all letterB && decide (l.length ≤ 16)) := by
  have last : ∀ n : Nat, Ev (fun k => spec_l8Text.j1 k (B l) (n : Int) false) (decide (l.length ≤ 16)) := by
    intro n
    refine Ev.step (fun k => spec_l8Text.j1.eq_2 ..) (Ev.ifF (by simp) ?_)
    have : decide (((B l).size : Int) ≤ 16) = decide (l.length ≤ 16) := by simp; omega
    rw [this]; exact Ev.now _
  intro d
  induction d with
  | zero =>
    intro n hn
    refine Ev.step (fun k => spec_l8Text.l0.eq_2 ..) (Ev.ifF (by simp; omega) ?_)
    rw [List.drop_of_length_le (by omega)]; simpa using last n
  | succ d ih =>
    intro n hn
    have h1 : n < l.length := by omega
    refine Ev.step (fun k => spec_l8Text.l0.eq_2 ..) (Ev.ifT (by simp; omega) ?_)
    rw [drop_cons_getD 0 h1]
    by_cases h16 : n ≤ 16
    · rw [show decide ((n : Int) ≤ 16) = true from by simp; omega]
      refine Ev.step (fun k => spec_l8Text.j1.eq_2 ..) (Ev.ifT rfl (Ev.ifT (by omega) (Ev.ifT (by simp; omega) ?_)))
      simp only [bt_B l n h1]
      by_cases ha : ((l.getD n 0).toNat : Int) < 97
      · refine Ev.ifT ha ?_
        have : letterB (l.getD n 0) = false := by simp only [letterB, decide_eq_false_iff_not]; omega
        simpa only [List.all_cons, this, Bool.false_and] using Ev.now false
      refine Ev.ifF ha ?_
      by_cases hz : ((l.getD n 0).toNat : Int) > 122
      · refine Ev.ifT hz ?_
        have : letterB (l.getD n 0) = false := by simp only [letterB, decide_eq_false_iff_not]; omega
        simpa only [List.all_cons, this, Bool.false_and] using Ev.now false
      refine Ev.ifF hz ?_
      have : letterB (l.getD n 0) = true := by simp only [letterB, decide_eq_true_eq]; omega
      simpa only [wrap64_succ n (by omega), List.all_cons, this, Bool.true_and] using ih (n + 1) (by omega)
    · rw [show decide ((n : Int) ≤ 16) = false from by simp; omega]
      have : ((l.getD n 0 :: l.drop (n + 1)).all letterB && decide (l.length ≤ 16)) = decide (l.length ≤ 16) := by
        have : decide (l.length ≤ 16) = false := by simp; omega
        rw [this]; simp
      rw [this]; exact last n
theorem l8Text_ev (l : List UInt8) (hl : l.length ≤ 4611686018427387903) : Ev (fun k => spec_l8Text.f k (B l)) (text8 l) := by
  simpa [spec_l8Text.f, text8] using l8Text_loop l hl l.length 0 (by omega)
theorem areLetters_eq (l : List UInt8) (hl : l.length ≤ 9223372036854775807) : impl_areLetters.f (B l) = some (l.all letterB) := by
  unfold impl_areLetters.f
  rw [if_pos (by simpa using hl), data_B]
  rfl
theorem isText_eq (l : List UInt8) : impl_isText.f (B l) = some (text8 l) := by
  unfold impl_isText.f text8
  by_cases h : l.length ≤ 16
  · rw [if_pos (by simp; omega), areLetters_eq l (by omega)]; simp [h]
  · rw [if_neg (by simp; omega)]; simp [h]

end Go.Proofs.YtjoflkeiaoellaaDoor.L

namespace Go.Proofs.YtjoflkeiaoellaaDoor.P
open Go.RowKit Go.Proofs.YtjoflkeiaoellaaDoorW.PrintWords Go.Proofs.YtjoflkeiaoellaaDoorW.PrintLast Go.Proofs.YtjoflkeiaoellaaDoorW.PrintMore
attribute [local go_sem] max2_int min2_int max_two min_two max_three min_three max_four min_four   -- for this text's walks alone
set_option linter.unusedVariables false
set_option linter.unusedSimpArgs false

/-! ### spec_l8Parts: function 50 -/
mutual
def spec_l8Parts.l0 : Nat → ByteArray → List ByteArray → Int → Option (List ByteArray)
  | 0, _, _, _ => none
  | k + 1, x0, x3, x4 => if x4 < (x0.size : Int) then (spec_l8Parts.l1 k x0 x3 x4 (wrap64 (x4 + 1))) else (some x3)
def spec_l8Parts.l1 : Nat → ByteArray → List ByteArray → Int → Int → Option (List ByteArray)
  | 0, _, _, _, _ => none
  | k + 1, x0, x3, x4, x5 => if x5 ≤ (x0.size : Int) then (if 0 ≤ x4 then (if x4 ≤ x5 then ((spec_l2Put.f x3 (x0.extract (x4 : Int).toNat (x5 : Int).toNat)).bind fun t204 => (spec_l8Parts.l1 k x0 t204 x4 (wrap64 (x5 + 1)))) else (none)) else (none)) else (spec_l8Parts.l0 k x0 x3 (wrap64 (x4 + 1)))
end
def spec_l8Parts.f (k : Nat) (a0 : ByteArray) : Option (List ByteArray) := spec_l8Parts.l0 k a0 (([] : List ByteArray)) 0
theorem spec_l8Parts.mono_l : ∀ k, (∀ y0 y1 y2, LeO (spec_l8Parts.l0 k y0 y1 y2) (spec_l8Parts.l0 (k + 1) y0 y1 y2)) ∧ (∀ y0 y1 y2 y3, LeO (spec_l8Parts.l1 k y0 y1 y2 y3) (spec_l8Parts.l1 (k + 1) y0 y1 y2 y3))
  | 0 => ⟨fun _ _ _ r h => by simp [spec_l8Parts.l0] at h, fun _ _ _ _ r h => by simp [spec_l8Parts.l1] at h⟩
  | k + 1 => by
    obtain ⟨ih0, ih1⟩ := spec_l8Parts.mono_l k
    refine ⟨?_, ?_⟩
    · intro y0 y1 y2
      unfold spec_l8Parts.l0
      repeat' first
      | (with_reducible exact ih0 _ _ _)
      | (with_reducible exact ih1 _ _ _ _)
      | (with_reducible exact LeO.refl _)
      | (with_reducible exact LeO.none _)
      | (with_reducible refine LeO.ite ?_ ?_)
      | (with_reducible refine LeO.bind ?_ (fun _ => ?_))
      | exact ih0 _ _ _
      | exact ih1 _ _ _ _
      | exact LeO.none _
      | refine LeO.ite ?_ ?_
      | refine LeO.bind ?_ (fun _ => ?_)
    · intro y0 y1 y2 y3
      unfold spec_l8Parts.l1
      repeat' first
      | (with_reducible exact ih0 _ _ _)
      | (with_reducible exact ih1 _ _ _ _)
      | (with_reducible exact LeO.refl _)
      | (with_reducible exact LeO.none _)
      | (with_reducible refine LeO.ite ?_ ?_)
      | (with_reducible refine LeO.bind ?_ (fun _ => ?_))
      | exact ih0 _ _ _
      | exact ih1 _ _ _ _
      | exact LeO.none _
      | refine LeO.ite ?_ ?_
      | refine LeO.bind ?_ (fun _ => ?_)
theorem spec_l8Parts.mono : ∀ a0 k, LeO (spec_l8Parts.f k a0) (spec_l8Parts.f (k + 1) a0) := by
  intro a0 k
  obtain ⟨ih0, ih1⟩ := spec_l8Parts.mono_l k
  unfold spec_l8Parts.f
  repeat' first
      | (with_reducible exact ih0 _ _ _)
      | (with_reducible exact ih1 _ _ _ _)
      | (with_reducible exact LeO.refl _)
      | (with_reducible exact LeO.none _)
      | (with_reducible refine LeO.ite ?_ ?_)
      | (with_reducible refine LeO.bind ?_ (fun _ => ?_))
      | exact ih0 _ _ _
      | exact ih1 _ _ _ _
      | exact LeO.none _
      | refine LeO.ite ?_ ?_
      | refine LeO.bind ?_ (fun _ => ?_)
set_option maxHeartbeats 8000000 in
set_option maxRecDepth 100000 in
theorem spec_l8Parts.calls (k : Nat) (a0 : ByteArray) (r : List ByteArray) (w : World) (h : spec_l8Parts.f k a0 = some r) :
    Calls Tryd.prog 50 #[.string a0] w fun e w' => ∃ v0_ : Value, e = .returned (v0_) ∧ Kd.R Kd.string 9 w' w.heap.size (fun _ => True) v0_ r ∧ Below w.heap.size w w' := by
  have HB := Aside0.mk (Below.refl w.heap.size w)
  have H : (spec_l8Parts.l0 k a0 (([] : List ByteArray)) 0) = some r := h
  clear h
  obtain ⟨y201, hy201⟩ : ∃ y_ : List ByteArray, y_ = (([] : List ByteArray)) := ⟨_, rfl⟩
  replace H : (spec_l8Parts.l0 k a0 y201 0) = some r := by first | (rw [hy201]; with_reducible exact H) | (have H2_ := (Option.bind_some _ _).symm.trans H; rw [hy201]; with_reducible exact H2_) | (have H2_ := (Option.bind_some _ _).symm.trans H; with_reducible exact H2_) | with_reducible exact H | (rw [hy201]; exact H) | exact H
  have Ny201 := Aside0.mk hy201
  clear hy201
  have H' := Aside0.mk H
  clear H
  go_enter Tryd.func50, Tryd.ntmps50
  go_wp2_with (first | ((with_reducible refine gate_dst (N := 6) rfl ?_); refine Kd.R_lit Kd.string _ 9 ?hg (N := 6) ?hd (xs := ([] : List ByteArray)) (inner := []) (ok := fun _ => True) (okp := fun _ => True) ?hr ?hp (fun _ hk => hk) trivial (Below.refl _ _) (Nat.le_refl _) (by simp) ?_; (case hd => rfl); (case hg => rfl); (case hr => first | (go_simp; done) | (go_simp; rfl)); (case hp => exact (Reps.none _ _)); intro v202 w2 ho3 hb hg_ hnew_; clear hg_ hnew_; (first | rw [← Ny201.out] at ho3 | (simp only [Int.reduceToNat] at ho3; rw [← Ny201.out] at ho3)); have n0_ := Aside0.mk (Kd.R_lower ho3 (below_size (by repeat (first | (with_reducible first | exact HB.out | apply below_alloc | apply pw_below_drewN | apply below_drew1) | exact HB.out)))); have n1_ := Aside0.mk (below_step (by repeat (first | (with_reducible first | exact HB.out | apply below_alloc | apply pw_below_drewN | apply below_drew1) | exact HB.out)) hb); clear HB; have HO203 := n0_; have HB := n1_; clear n0_ n1_; clear hb ho3))
  go_loopg [3, 4] k (fun kq v3 v4 w' => ∃ (x3_1 : List ByteArray) (x4_1 : Int), v4 = .int .i64 x4_1 ∧ Aside0 (spec_l8Parts.l0 kq a0 x3_1 x4_1 = some r) ∧ Aside0 (kq ≤ k) ∧ Aside0 (Kd.R Kd.string 9 w' w.heap.size (fun _ => True) v3 x3_1) ∧ Aside0 (Below w.heap.size w w'))
  case atStart => exact ⟨(y201), (0), (by first | rfl | (simp; done) | (simp [*]; done)), H', ⟨Nat.le_refl _⟩, ⟨by (with_reducible repeat (first | apply Kd.R_alloc | apply Kd.R_drewN | apply Kd.R_drew)); exact HO203.out⟩, ⟨by repeat (first | (with_reducible first | exact HB.out | apply below_alloc | apply pw_below_drewN | apply below_drew1) | exact HB.out)⟩⟩
  case round =>
    clear H'
    try clear p2
    obtain ⟨x3_1, x4_1, rfl, HA, HK1, HO_3, HB⟩ := hrel
    cases gk with
    | zero => exact absurd HA.out (by simp [spec_l8Parts.l0])
    | succ k1 =>
      have H := HA.out
      clear HA
      simp only [spec_l8Parts.l0] at H
      by_cases c4 : x4_1 < (a0.size : Int)
      · rw [if_pos c4] at H
        have c4b0 : decide (x4_1 < (a0.size : Int)) = true := decide_eq_true c4
        clear c4
        have H' := Aside0.mk H
        clear H
        go_wp2
        go_loopg [3, 5] k1 (fun kq v3 v5 w' => ∃ (x3_2 : List ByteArray) (x5_2 : Int), v5 = .int .i64 x5_2 ∧ Aside0 (spec_l8Parts.l1 kq a0 x3_2 x4_1 x5_2 = some r) ∧ Aside0 (kq ≤ k1) ∧ Aside0 (Kd.R Kd.string 9 w' w.heap.size (fun _ => True) v3 x3_2) ∧ Aside0 (Below w.heap.size w w'))
        case atStart => exact ⟨(x3_1), (wrap64 (x4_1 + 1)), (by first | rfl | (simp; done) | (simp [*]; done)), H', ⟨Nat.le_refl _⟩, ⟨by (with_reducible repeat (first | apply Kd.R_alloc | apply Kd.R_drewN | apply Kd.R_drew)); exact HO_3.out⟩, ⟨by repeat (first | (with_reducible first | exact HB.out | apply below_alloc | apply pw_below_drewN | apply below_drew1) | exact HB.out)⟩⟩
        case round =>
          clear H'
          try clear p2
          try clear c4
          try clear c4b0
          try clear p2
          obtain ⟨x3_2, x5_2, rfl, HA, HK2, HO_3, HB⟩ := hrel
          cases gk with
          | zero => exact absurd HA.out (by simp [spec_l8Parts.l1])
          | succ k2 =>
            have H := HA.out
            clear HA
            simp only [spec_l8Parts.l1] at H
            by_cases c5 : x5_2 ≤ (a0.size : Int)
            · rw [if_pos c5] at H
              have c5b0 : decide (x5_2 ≤ (a0.size : Int)) = true := decide_eq_true c5
              clear c5
              by_cases c6 : 0 ≤ x4_1
              · rw [if_pos c6] at H
                have c6b0 := eq_true c6
                have c6b1 : decide (0 ≤ x4_1) = true := decide_eq_true c6
                clear c6
                by_cases c7 : x4_1 ≤ x5_2
                · rw [if_pos c7] at H
                  have c7b0 := eq_true c7
                  have c7b1 : decide (x4_1 ≤ x5_2) = true := decide_eq_true c7
                  clear c7
                  have c8b0 := eq_true (of_decide_eq_true (by first | (with_reducible assumption) | assumption) : x5_2 ≤ (a0.size : Int))
                  replace H := Option.bind_eq_some_iff.mp H
                  obtain ⟨t204, A90, H⟩ := H
                  replace H : (spec_l8Parts.l1 k2 a0 t204 x4_1 (wrap64 (x5_2 + 1))) = some r := H
                  have A9 := Aside0.mk A90
                  clear A90
                  have H' := Aside0.mk H
                  clear H
                  obtain ⟨Ao10, co10, eo10⟩ := Kd.R_slice HO_3.out
                  subst eo10
                  go_wp2_with (first | ((with_reducible refine gate_callee (f := 72) rfl ?_); refine goesL_ (some 26) rfl rfl Tryd.func72 (by kernel_rfl) rfl #[.slice Ao10 x3_2.length co10, .string (a0.extract (x4_1 : Int).toNat (x5_2 : Int).toNat)] rfl (by (try simp only [List.map_toArray, List.map_cons, List.map_nil]); first | done | rfl | (simp only [List.length_drop, List.length_take]; rfl)) ?_; (with_reducible refine (spec_l2Put.calls (fun k_ => some k_ = (.slice Ao10 x3_2.length co10 : Value).ownBlock) (.slice Ao10 x3_2.length co10) x3_2 (a0.extract (x4_1 : Int).toNat (x5_2 : Int).toNat) t204 w _ ?side1 ?side2 A9.out).mono ?_); (case side1 => repeat (first | (with_reducible first | exact HB.out | apply below_alloc | apply pw_below_drewN | apply below_drew1) | exact HB.out)); (case side2 => exact Kd.R_tight rfl HO_3.out); rintro e w11 ⟨v205, rfl, ho0, hb, hkp⟩; refine ⟨_, rfl, ?_⟩; have n0_ := Aside0.mk (Kd.R_mono (ok' := fun k_ => True) ho0 (fun k_ hk_ => trivial)); have n1_ := Aside0.mk (hb); clear HB; clear HO_3; have HO206 := n0_; have HB := n1_; clear n0_ n1_; (try clear hb); (try clear hkp); (try clear ho0)))
                  go_roundg k2
                  case measure => have := HK1.out; have := HK2.out; omega
                  case rel => exact ⟨(t204), (wrap64 (x5_2 + 1)), (by first | rfl | (simp; done) | (simp [*]; done)), H', ⟨by have := HK1.out; have := HK2.out; omega⟩, ⟨by (with_reducible repeat (first | apply Kd.R_alloc | apply Kd.R_drewN | apply Kd.R_drew)); exact HO206.out⟩, ⟨by repeat (first | (with_reducible first | exact HB.out | apply below_alloc | apply pw_below_drewN | apply below_drew1) | exact HB.out)⟩⟩
                · rw [if_neg c7] at H
                  exact absurd H (by simp)
              · rw [if_neg c6] at H
                exact absurd H (by simp)
            · rw [if_neg c5] at H
              have c5b0 : decide (x5_2 ≤ (a0.size : Int)) = false := decide_eq_false c5
              clear c5
              have H' := Aside0.mk H
              clear H
              go_wp2
              go_roundg k2
              case measure => have := HK1.out; have := HK2.out; omega
              case rel => exact ⟨(x3_2), (wrap64 (x4_1 + 1)), (by first | rfl | (simp; done) | (simp [*]; done)), H', ⟨by have := HK1.out; have := HK2.out; omega⟩, ⟨by (with_reducible repeat (first | apply Kd.R_alloc | apply Kd.R_drewN | apply Kd.R_drew)); exact HO_3.out⟩, ⟨by repeat (first | (with_reducible first | exact HB.out | apply below_alloc | apply pw_below_drewN | apply below_drew1) | exact HB.out)⟩⟩
      · rw [if_neg c4] at H
        have c4b0 : decide (x4_1 < (a0.size : Int)) = false := decide_eq_false c4
        clear c4
        obtain rfl := Option.some.inj H
        go_wp2
        go_ret
        exact ⟨_, by first | rfl | (simp [errW_none, errW_some] <;> rfl) | (simp [*, errW_none, errW_some] <;> rfl), by (with_reducible repeat (first | apply Kd.R_alloc | apply Kd.R_drewN | apply Kd.R_drew)); exact HO_3.out, by repeat (first | (with_reducible first | exact HB.out | apply below_alloc | apply pw_below_drewN | apply below_drew1) | exact HB.out)⟩

end Go.Proofs.YtjoflkeiaoellaaDoor.P

namespace Go.Proofs
open Go.Shelf
def Tryd.lays190_ren : Go.Shelf.Ren := ⟨fun | 190 => 114 | 125 => 85 | 258 => 128 | 128 => 110 | 129 => 111 | 302 => 133 | 303 => 134 | 304 => 135 | 305 => 136 | 306 => 137 | 307 => 138 | 308 => 139 | 309 => 140 | 310 => 141 | 333 => 144 | 329 => 123 | 330 => 124 | 334 => 145 | 335 => 146 | 336 => 147 | 344 => 148 | n => n, fun | 31 => 35 | 9 => 9 | 3 => 3 | 46 => 59 | 0 => 0 | 51 => 82 | 53 => 84 | 4 => 4 | 183 => 76 | 182 => 75 | 131 => 33 | 5 => 5 | 218 => 92 | 222 => 96 | 228 => 101 | 229 => 102 | n => n, fun | n => n⟩
theorem Tryd.lays190 : Go.Proofs.Lays.n190 Tryd.prog Tryd.lays190_ren := {
  mixed := by kernel_rfl
  f125 := Tryd.func85.trans (congrArg some (by kernel_rfl))
  f128 := Tryd.func110.trans (congrArg some (by kernel_rfl))
  f129 := Tryd.func111.trans (congrArg some (by kernel_rfl))
  f190 := Tryd.func114.trans (congrArg some (by kernel_rfl))
  f258 := Tryd.func128.trans (congrArg some (by kernel_rfl))
  f302 := Tryd.func133.trans (congrArg some (by kernel_rfl))
  f303 := Tryd.func134.trans (congrArg some (by kernel_rfl))
  f304 := Tryd.func135.trans (congrArg some (by kernel_rfl))
  f305 := Tryd.func136.trans (congrArg some (by kernel_rfl))
  f306 := Tryd.func137.trans (congrArg some (by kernel_rfl))
  f307 := Tryd.func138.trans (congrArg some (by kernel_rfl))
  f308 := Tryd.func139.trans (congrArg some (by kernel_rfl))
  f309 := Tryd.func140.trans (congrArg some (by kernel_rfl))
  f310 := Tryd.func141.trans (congrArg some (by kernel_rfl))
  f329 := Tryd.func123.trans (congrArg some (by kernel_rfl))
  f330 := Tryd.func124.trans (congrArg some (by kernel_rfl))
  f333 := Tryd.func144.trans (congrArg some (by kernel_rfl))
  f334 := Tryd.func145.trans (congrArg some (by kernel_rfl))
  f335 := Tryd.func146.trans (congrArg some (by kernel_rfl))
  f336 := Tryd.func147.trans (congrArg some (by kernel_rfl))
  f344 := Tryd.func148.trans (congrArg some (by kernel_rfl))
  t0 := Tryd.underlying0
  a0 := Tryd.isAgg0
  z0 := Tryd.sizeOf0
  v0 := Tryd.zeroValue0
  t3 := Tryd.underlying3
  a3 := Tryd.isAgg3
  z3 := Tryd.sizeOf3
  v3 := Tryd.zeroValue3
  t4 := Tryd.underlying4
  a4 := Tryd.isAgg4
  z4 := Tryd.sizeOf4
  v4 := Tryd.zeroValue4
  t5 := Tryd.underlying5
  a5 := Tryd.isAgg5
  z5 := Tryd.sizeOf5
  v5 := Tryd.zeroValue5
  t9 := Tryd.underlying9
  a9 := Tryd.isAgg9
  z9 := Tryd.sizeOf9
  v9 := Tryd.zeroValue9
  t31 := Tryd.underlying35
  a31 := Tryd.isAgg35
  z31 := Tryd.sizeOf35
  v31 := Tryd.zeroValue35
  t46 := Tryd.underlying59
  a46 := Tryd.isAgg59
  z46 := Tryd.sizeOf59
  v46 := Tryd.zeroValue59
  t51 := Tryd.underlying82
  a51 := Tryd.isAgg82
  z51 := Tryd.sizeOf82
  v51 := Tryd.zeroValue82
  t53 := Tryd.underlying84
  a53 := Tryd.isAgg84
  z53 := Tryd.sizeOf84
  v53 := Tryd.zeroValue84
  t131 := Tryd.underlying33
  a131 := Tryd.isAgg33
  z131 := Tryd.sizeOf33
  v131 := Tryd.zeroValue33
  t182 := Tryd.underlying75
  a182 := Tryd.isAgg75
  z182 := Tryd.sizeOf75
  v182 := Tryd.zeroValue75
  t183 := Tryd.underlying76
  a183 := Tryd.isAgg76
  z183 := Tryd.sizeOf76
  v183 := Tryd.zeroValue76
  t218 := Tryd.underlying92
  a218 := Tryd.isAgg92
  z218 := Tryd.sizeOf92
  v218 := Tryd.zeroValue92
  t222 := Tryd.underlying96
  a222 := Tryd.isAgg96
  z222 := Tryd.sizeOf96
  v222 := Tryd.zeroValue96
  t228 := Tryd.underlying101
  a228 := Tryd.isAgg101
  z228 := Tryd.sizeOf101
  v228 := Tryd.zeroValue101
  t229 := Tryd.underlying102
  a229 := Tryd.isAgg102
  z229 := Tryd.sizeOf102
  v229 := Tryd.zeroValue102 }
end Go.Proofs

namespace Go.Proofs
open Go.Shelf
def Tryd.lays194_ren : Go.Shelf.Ren := ⟨fun | 194 => 87 | n => n, fun | 31 => 35 | 9 => 9 | 3 => 3 | 4 => 4 | 0 => 0 | n => n, fun | n => n⟩
theorem Tryd.lays194 : Go.Proofs.Lays.n194 Tryd.prog Tryd.lays194_ren := {
  mixed := by kernel_rfl
  f194 := Tryd.func87.trans (congrArg some (by kernel_rfl))
  t0 := Tryd.underlying0
  a0 := Tryd.isAgg0
  z0 := Tryd.sizeOf0
  v0 := Tryd.zeroValue0
  t3 := Tryd.underlying3
  a3 := Tryd.isAgg3
  z3 := Tryd.sizeOf3
  v3 := Tryd.zeroValue3
  t4 := Tryd.underlying4
  a4 := Tryd.isAgg4
  z4 := Tryd.sizeOf4
  v4 := Tryd.zeroValue4
  t9 := Tryd.underlying9
  a9 := Tryd.isAgg9
  z9 := Tryd.sizeOf9
  v9 := Tryd.zeroValue9
  t31 := Tryd.underlying35
  a31 := Tryd.isAgg35
  z31 := Tryd.sizeOf35
  v31 := Tryd.zeroValue35 }
end Go.Proofs

namespace Go.Proofs.YtjoflkeiaoellaaDoor.P
open Go.RowKit Go.Proofs.YtjoflkeiaoellaaDoorW.PrintWords Go.Proofs.YtjoflkeiaoellaaDoorW.PrintLast Go.Proofs.YtjoflkeiaoellaaDoorW.PrintMore
attribute [local go_sem] max2_int min2_int max_two min_two max_three min_three max_four min_four   -- for this text's walks alone
set_option linter.unusedVariables false
set_option linter.unusedSimpArgs false

open Go.Shelf Go.Sort
attribute [local go_sem] Oper.semAt_some
namespace SV
/-- What has come when k rounds are over. -/
def upto {α : Type} (f : Nat → α) (k : Nat) : List α := (List.range k).map f
theorem upto_succ {α : Type} (f : Nat → α) (k : Nat) : upto f (k + 1) = upto f k ++ [f k] := by simp [upto, List.range_succ]
theorem upto_length {α : Type} (f : Nat → α) (k : Nat) : (upto f k).length = k := by simp [upto]
theorem upto_all (zs : List (List UInt8)) : upto (fun j => zs[j]?.getD []) zs.length = zs := by
  apply List.ext_getElem
  · simp [upto]
  · intro i h1 h2
    simp [upto, h2]
theorem upto_take (zs : List (List UInt8)) {k : Nat} (hk : k ≤ zs.length) : upto (fun j => zs[j]?.getD []) k = zs.take k := by
  apply List.ext_getElem
  · simp [upto, hk]
  · intro i h1 h2
    have : i < zs.length := by simp [upto] at h1; omega
    simp [upto, this]
set_option maxRecDepth 100000 in
set_option maxHeartbeats 2000000 in
theorem values1_in (F : Fence) (n : Nat) (h7 : F.fn 115) (hro : F.round = none) (hn : 1 ≤ n) (l Bs n₀ : Nat) (ad : Addr) (len cap : Nat) (zs : List (List UInt8)) (hreach : len * 8 ≤ 140737488351232) (hb : ad.block < n₀) (J Jx : List (List UInt8) → World → Prop)
    (hY : ∀ pre x W, J pre W → pre.length < len → YieldAt F (n - 1) Tryd.prog l #[encStr x] W fun e W' =>
      (e = .returned (.bool true) ∧ J (pre ++ [x]) W' ∧ Below n₀ W W') ∨ (e = .returned (.bool false) ∧ Jx (pre ++ [x]) W'))
    (W : World) (hBs : W.cell? ⟨Bs, 0, none⟩ = some (.slice (some ad) len cap)) (hc : ∀ j, j < len → W.cell? (ad.add j) = some (encStr (zs[j]?.getD []))) (h0 : J [] W) :
    CallsIn F n Tryd.prog 115 #[.func (.yield l) #[] #[], .pointer (some ⟨Bs, 0, none⟩)] W fun e W' => (∃ v, e = .returned v) ∧
      ((∃ ys, ys = upto (fun j => zs[j]?.getD []) len ∧ J ys W') ∨ (∃ pre, (∃ k, k ≤ len ∧ pre = upto (fun j => zs[j]?.getD []) k) ∧ Jx pre W')) := by
  refine callsIn_of_wp Tryd.func115 rfl h7 ?_ hro
  simp only [Tryd.ntmps115, List.size_toArray, List.length_cons, List.length_nil, Nat.reduceAdd, Nat.reduceSub, Array.replicate_succ, Array.replicate_zero, List.push_toArray, List.append_toArray, List.nil_append, List.cons_append]
  gi_wp2
  gi_loopw [7] (fun i wr => ∃ k : Nat, k ≤ len ∧ i = .int .i64 k ∧ J (upto (fun j => zs[j]?.getD []) k) wr ∧ Below n₀ W wr)
    (fun i _ => len - (intOf i).toNat)
  case atStart => exact ⟨0, Nat.zero_le _, rfl, h0, Below.refl _ _⟩
  case round =>
    obtain ⟨k, hk, rfl, hJs, hnx⟩ := hrel
    have hcx : k < len → wr.cell? (ad.add k) = some (encStr (zs[k]?.getD [])) := fun h => (hnx.cell (p := ad.add k) (by rw [add_block]; exact hb)).trans (hc k h)
    by_cases hlt : k < len
    · obtain ⟨fn, tmps, assign, body, hy, hR⟩ := hY _ (zs[k]?.getD []) wr hJs (by rw [upto_length]; exact hlt)
      have hcx' := hcx hlt
      gi_wp2
      refine hR.mono ?_
      rintro e W3 (⟨rfl, hJ3, hk3⟩ | ⟨rfl, hJx3⟩)
      · gi_wp2
        go_roundw
        case rel => exact ⟨k + 1, by omega, by simp, by rw [upto_succ]; exact hJ3, hnx.trans hk3⟩
        case measure => simp [intOf]; omega
      · gi_wp2
        refine bodyPost_ret (results_none rfl _ _ _) rfl ?_
        exact ⟨⟨_, rfl⟩, .inr ⟨_, ⟨k + 1, by omega, (upto_succ _ _).symm⟩, hJx3⟩⟩
    · obtain rfl : k = len := by omega
      gi_wp2
      go_end0
      exact ⟨⟨_, rfl⟩, .inl ⟨_, rfl, hJs⟩⟩
end SV
namespace SV
/-- The slice value sv holds the strings zs, in a block below n₀; or it has no element. -/
def Strs (n₀ : Nat) (W : World) (a : Option Addr) (zs : List (List UInt8)) : Prop :=
  zs = [] ∨ ∃ ad : Addr, a = some ad ∧ ad.block < n₀ ∧ ∀ j, j < zs.length → W.cell? (ad.add j) = some (encStr (zs[j]?.getD []))
theorem Strs.below {n₀ : Nat} {A B : World} (h : Below n₀ A B) {a : Option Addr} {zs : List (List UInt8)} : Strs n₀ A a zs → Strs n₀ B a zs
  | .inl e => .inl e
  | .inr ⟨ad, e, hb, hc⟩ => .inr ⟨ad, e, hb, fun j hj => (h.cell (p := ad.add j) (by rw [add_block]; exact hb)).trans (hc j hj)⟩
set_option maxRecDepth 100000 in
set_option maxHeartbeats 1000000 in
theorem values1_nil_in (F : Fence) (n : Nat) (h7 : F.fn 115) (hro : F.round = none) (l Bs : Nat) (a : Option Addr) (c : Nat) (J : List (List UInt8) → World → Prop) (W : World) (hBs : W.cell? ⟨Bs, 0, none⟩ = some (.slice a 0 c)) (h0 : J [] W) :
    CallsIn F n Tryd.prog 115 #[.func (.yield l) #[] #[], .pointer (some ⟨Bs, 0, none⟩)] W fun e W' => (∃ v, e = .returned v) ∧ J [] W' := by
  refine callsIn_of_wp Tryd.func115 rfl h7 ?_ hro
  simp only [Tryd.ntmps115, List.size_toArray, List.length_cons, List.length_nil, Nat.reduceAdd, Nat.reduceSub, Array.replicate_succ, Array.replicate_zero, List.push_toArray, List.append_toArray, List.nil_append, List.cons_append]
  gi_wp2
  gi_loopw [7] (fun i wr => i = .int .i64 0 ∧ J [] wr) (fun _ _ => 0)
  case atStart => exact ⟨rfl, h0⟩
  case round =>
    obtain ⟨rfl, hJs⟩ := hrel
    gi_wp2
    go_end0
    exact ⟨⟨_, rfl⟩, hJs⟩
theorem values_stops (F : Fence) (n : Nat) (h7 : F.fn 115) (hro : F.round = none) (hn : 1 ≤ n) (Bs n₀ : Nat) (a : Option Addr) (c : Nat) (zs : List (List UInt8)) (hreach : zs.length * 8 ≤ 140737488351232) (w : World) (hBs : Bs < w.heap.size) (hn₀ : n₀ ≤ w.heap.size)
    (hc : w.cell? ⟨Bs, 0, none⟩ = some (.slice a zs.length c)) (hI : Strs n₀ w a zs) :
    SeqStopsK F n Tryd.prog 115 #[.pointer (some ⟨Bs, 0, none⟩)] (fun x : List UInt8 => #[encStr x]) (Below n₀) (fun ys => ys = zs) (fun pre => pre <+: zs) zs.length w := fun l J Jx W hW _ _ hY h0 => by
  have hc' := (hW.cell (p := ⟨Bs, 0, none⟩) hBs).trans hc
  rcases hI.below (hW.mono hn₀) with rfl | ⟨ad, rfl, hb, hcs⟩
  · exact (values1_nil_in F n h7 hro l Bs a c J W hc' h0).mono fun e W' ⟨he, hj⟩ => ⟨he, .inl ⟨_, rfl, hj⟩⟩
  · refine (values1_in F n h7 hro hn l Bs n₀ ad zs.length c zs hreach hb J Jx hY W hc' hcs h0).mono ?_
    rintro e W' ⟨he, ⟨ys, rfl, hj⟩ | ⟨pre, ⟨k, hk, rfl⟩, hj⟩⟩
    · exact ⟨he, .inl ⟨_, upto_all zs, hj⟩⟩
    · exact ⟨he, .inr ⟨_, by rw [upto_take zs hk]; exact List.take_prefix _ _, hj⟩⟩
theorem infoS : (Tryd.prog.info? 9).map (fun i => (i.zero, i.size, i.bytes)) = some (some (.string ⟨#[]⟩), 1, 16) := by kernel_rfl
set_option maxRecDepth 100000 in
set_option maxHeartbeats 2000000 in
theorem AppendSeq_in (F : Fence) (n : Nat) (h3 : F.fn 127) (h5 : F.fn 115) (hro : F.round = none) (hn : 3 ≤ n) (Bs : Nat) (a : Option Addr) (c : Nat) (zs : List (List UInt8)) (hlen : zs.length ≤ 4294967296) (w : World) (hBs : Bs < w.heap.size) (hc : w.cell? ⟨Bs, 0, none⟩ = some (.slice a zs.length c)) (hL : Strs w.heap.size w a zs) :
    CallsIn F n Tryd.prog 127 #[.slice none 0 0, .func (.func 115) #[] #[.pointer (some ⟨Bs, 0, none⟩)]] w fun e W' => ∃ v, e = .returned v ∧ W'.ownsRow w.heap.size 9 1 v zs.length (zs.map encStr) ∧ (v = .slice none 0 0 ↔ zs = []) ∧ Below w.heap.size w W' := by
  have h1 : 1 ≤ n := by omega
  obtain ⟨i0, hi, hz0, hz1, hz2⟩ := info_parts infoS
  refine callsIn_of_wp_marks Tryd.func127 rfl h3 ?_ hro
  simp only [Tryd.ntmps127, List.size_toArray, List.length_cons, List.length_nil, Nat.reduceAdd, Nat.reduceSub, Array.replicate_succ, Array.replicate_zero, List.push_toArray, List.append_toArray, List.nil_append, List.cons_append]
  gi_wp2
  have bO := Boxed.new w 35 (.slice none 0 0)
  have hB0 : Below w.heap.size w (w.alloc (.cells #[.slice none 0 0] 35)) := (Below.refl _ w).alloc (Nat.le_refl _) _
  have hcb : (w.alloc (.cells #[.slice none 0 0] 35)).cell? ⟨Bs, 0, none⟩ = some (.slice a zs.length c) := (hB0.cell (p := ⟨Bs, 0, none⟩) hBs).trans hc
  refine wpIn_rangeFunc_ownG hro h1 (gf := 115) (lb := #[.pointer (some ⟨Bs, 0, none⟩)]) rfl h5 (enters_of Tryd.func115 (by kernel_rfl) rfl)
    (values_stops F (n - 1) h5 hro (by omega) Bs w.heap.size a c zs (by omega) _ (by simp; omega) (by simp) hcb (hL.below hB0)) belowK_t (belowK_b (by simp)) (Below.refl _ _) (fun _ => rfl)
    (fun pre W => (∃ v, Boxed W w.heap.size 35 v ∧ W.ownsRow w.heap.size 9 1 v pre.length (pre.map encStr) ∧ (v = .slice none 0 0 ↔ pre = [])) ∧ Below w.heap.size w W)
    (fun _ _ _ => False)
    (OwnFrom.and (Own.from (holdsRow_own w.heap.size w.heap.size 35 9 1 (fun pre => pre.length) (fun pre => pre.map encStr) (fun pre v => v = .slice none 0 0 ↔ pre = [])) _) (ownFrom_below (Nat.le_refl _) (by simp)))
    (fun _ _ _ _ _ hs _ _ => hs)
    ⟨⟨_, bO, World.ownsRow_nil _ _ _ _, by simp⟩, hB0⟩
    (fun x => { tmps := #[.slice none 0 0, .func (.func 115) #[] #[.pointer (some ⟨Bs, 0, none⟩)], .pointer (some ⟨w.heap.size, 0, none⟩), undef, .slice none 0 0, encStr x, .func (.func 115) #[] #[.pointer (some ⟨Bs, 0, none⟩)], encStr x, undef, undef, undef, undef, undef], defers := [] }) ?assign ?body ?done ?stop
  case assign =>
    intro l x W K hK
    gi_wp2
    exact hK
  case body =>
    rintro l pre x W ⟨⟨v, hv, hrow, hnil⟩, hB⟩ hlt
    have hc := hv.cell
    gi_wp2_with (gi_at_builtin; refine wpListIn_append_own _ rfl _ _ 35 rfl w.heap.size 9 i0 (.string ⟨#[]⟩) 1 16 Tryd.underlying35 hi hz0 hz1 hz2 rfl (by decide) _ _ _ rfl (hrow.alloc _) ⟨W.heap.size, 0, none⟩ 1 1 [encStr x] rfl rfl (cell_one_new _ _ _) (by simp [Value.oneCell', encStr]) (by unfold maxLen; omega) (by omega) (by have := hB.size; simp; omega) ?_; intro v' w1 hown' hgrow _; obtain ⟨g', cap', rfl⟩ := ownsRow_succ hown'; obtain ⟨hv1, hv2, hr2, hk2, hb2⟩ := hv.appended (by decide) hrow hB.size (Nat.le_refl _) hown' hgrow; have hc1 := hv1.cell; have hf1 := hv1.frozen)
    exact ⟨hk2.from _, hb2, ⟨_, hv2, by simpa using hr2, by simp⟩, hB.trans hb2⟩
  case done =>
    rintro D ys W hD rfl ⟨⟨v, hv, hrow, hnil⟩, hB⟩ hK
    have hc := hv.cell
    gi_wp2
    refine ⟨by simp, .inl ⟨_, _, rfl, run_takeDeferred hK, ?_⟩⟩
    exact ⟨_, results_tmp rfl _ _ _, v, rfl, ownsRow_putObj hrow _ hK rfl, hnil, hB.trans (belowK_b (w := w) (Nat.le_refl _) W D _ _ (by simp at hD; omega) hK rfl rfl)⟩
  case stop =>
    rintro D c pre W _ _ h _
    exact h.elim
end SV
namespace SV
set_option maxHeartbeats 1000000 in
theorem Collect_calls (Bs : Nat) (a : Option Addr) (c : Nat) (zs : List (List UInt8)) (hlen : zs.length ≤ 4294967296) (w : World) (hBs : Bs < w.heap.size) (hc : w.cell? ⟨Bs, 0, none⟩ = some (.slice a zs.length c)) (hL : Strs w.heap.size w a zs) :
    Calls Tryd.prog 113 #[.func (.func 115) #[] #[.pointer (some ⟨Bs, 0, none⟩)]] w fun e W' => ∃ v, e = .returned v ∧ W'.ownsRow w.heap.size 9 1 v zs.length (zs.map encStr) ∧ (v = .slice none 0 0 ↔ zs = []) ∧ Below w.heap.size w W' := by
  have HA := Aside0.mk ((callsIn_wide (n := 5)).1 (AppendSeq_in Fence.wide 5 trivial trivial rfl (by omega) Bs a c zs hlen w hBs hc hL))
  clear hc hL
  go_enter Tryd.func113, Tryd.ntmps113
  go_wp2_with fail
  refine HA.out.mono ?_
  clear HA
  rintro e w' ⟨v, rfl, hrow, hnil, hb⟩
  have H := Aside0.mk (And.intro hrow (And.intro hnil hb))
  clear hrow hnil hb
  go_wp2_with fail
  go_ret
  exact ⟨v, rfl, H.out.1, H.out.2.1, H.out.2.2⟩
def srt (zs : List (List UInt8)) : List (List UInt8) := zs.mergeSort fun x y => decide (x ≤ y)
theorem srt_length (zs : List (List UInt8)) : (srt zs).length = zs.length := List.length_mergeSort zs
set_option maxHeartbeats 2000000 in
theorem Sorted_calls (Bs : Nat) (a : Option Addr) (c : Nat) (zs : List (List UInt8)) (hlen : zs.length ≤ 4294967296) (w : World) (hBs : Bs < w.heap.size) (hc : w.cell? ⟨Bs, 0, none⟩ = some (.slice a zs.length c)) (hL : Strs w.heap.size w a zs) :
    Calls Tryd.prog 88 #[.func (.func 115) #[] #[.pointer (some ⟨Bs, 0, none⟩)]] w fun e W' => ∃ v, e = .returned v ∧ W'.ownsRow w.heap.size 9 1 v (srt zs).length ((srt zs).map encStr) ∧ (v = .slice none 0 0 ↔ zs = []) ∧ Below w.heap.size w W' := by
  have HA := Aside0.mk (Collect_calls Bs a c zs hlen w hBs hc hL)
  clear hc hL
  go_enter Tryd.func88, Tryd.ntmps88
  go_wp2_with fail
  refine HA.out.mono ?_
  clear HA
  rintro e W ⟨v, rfl, hrow, hnil, hb⟩
  rcases hrow.2 with ⟨rfl, hz⟩ | ⟨gb, cap, cur, rfl, hbase, hgb, r1, r2, r3, r4⟩
  · have hss : zs = [] := List.eq_nil_of_length_eq_zero hz
    have H := Aside0.mk (And.intro hrow hb)
    clear hrow hb hnil hz
    go_wp2_with fail
    refine (Go.Proofs.Any.slices_Sort_string_none Go.Proofs.Tryd.lays190 none 0 _).mono ?_
    rintro e w' ⟨rfl, rfl⟩
    go_wp2_with fail
    go_ret
    subst hss
    exact ⟨.slice none 0 0, rfl, by simpa [srt] using H.out.1, by simp, H.out.2⟩
  · have hH : Holds encStr W gb 0 zs.toArray := holds_of_block hgb (by simpa using r4)
    have hgl : gb < W.heap.size := (Array.getElem?_eq_some_iff.1 hgb).1
    have HS := Aside0.mk (Go.Proofs.Any.slices_Sort_string Go.Proofs.Tryd.lays190 gb 0 cap zs W hH hgl (by omega))
    have H := Aside0.mk (And.intro hb (And.intro hbase (And.intro hgb (And.intro r1 (And.intro r2 r3)))))
    have HN := Aside0.mk (show zs ≠ [] from fun e => by have := hnil.2 e; cases this)
    clear hrow hb hnil hH hgl hgb r1 r2 r3 r4 hbase
    go_wp2_with fail
    refine HS.out.mono ?_
    clear HS
    rintro e w' ⟨rfl, nn, os, rfl⟩
    go_wp2_with fail
    go_ret
    obtain ⟨hb, hbase, hgb, r1, r2, r3⟩ := H.out
    exact ⟨_, rfl, by rw [srt_length]; exact ownsRow_sorted (by simp) hbase hgb r1 r2 r3, ⟨(fun e => by cases e), fun e => absurd e HN.out⟩, hb.grown (grownBy_sorted _) hb.size (fun j hj => by cases hj; exact hbase)⟩
end SV
namespace SV
theorem Strs.mono {n₀ n₁ : Nat} (h : n₀ ≤ n₁) {W : World} {a : Option Addr} {zs : List (List UInt8)} : Strs n₀ W a zs → Strs n₁ W a zs
  | .inl e => .inl e
  | .inr ⟨ad, e, hb, hc⟩ => .inr ⟨ad, e, Nat.lt_of_lt_of_le hb h, hc⟩
set_option maxHeartbeats 1000000 in
theorem Values_calls (a : Option Addr) (n c : Nat) (w : World) :
    Calls Tryd.prog 89 #[.slice a n c] w fun e w' => e = .returned (.func (.func 115) #[] #[.pointer (some ⟨w.heap.size, 0, none⟩)]) ∧ w' = w.alloc (.cells #[.slice a n c] 35) := by
  go_enter Tryd.func89, Tryd.ntmps89
  go_wp2
  go_ret
  exact ⟨rfl, rfl⟩
/-- slices.Compact of a sorted row of the call's own. -/
theorem Compact_calls {w : World} {base : Nat} {v : Value} {ss : List (List UInt8)} (hrow : w.ownsRow base 9 1 v ss.length (ss.map encStr)) (A : Option Addr) (c : Nat) (hv : v = .slice A ss.length c) (hlen : ss.length ≤ 4294967296) :
    Calls Tryd.prog 87 #[.slice A ss.length c] w fun e w' => ∃ v', e = .returned v' ∧ w'.ownsRow base 9 1 v' (Go.Lib.compact ss).length ((Go.Lib.compact ss).map encStr) ∧ (∀ b, b ≤ base → b ≤ w.heap.size → Below b w w') := by
  rcases hrow.2 with ⟨h1, hz⟩ | ⟨g, cap, cur, h1, hbase, hgb, r1, r2, r3, r4⟩
  · have hss : ss = [] := List.eq_nil_of_length_eq_zero hz
    subst hss
    rw [h1] at hv; cases hv
    refine (Go.Proofs.Any.slices_Compact_string_empty Go.Proofs.Tryd.lays194 none 0 w).mono ?_
    rintro e w' ⟨rfl, rfl⟩
    exact ⟨_, rfl, World.ownsRow_nil _ _ _ _, fun b _ _ => Below.refl _ _⟩
  · rw [h1] at hv; cases hv
    have hH : Holds encStr w g 0 ss.toArray := holds_of_block hgb (by simpa using r4)
    have hcap : ss.length ≤ c := by omega
    refine (Go.Proofs.Any.slices_Compact_string Go.Proofs.Tryd.lays194 g 0 c ss w hH (by omega) hcap).mono ?_
    rintro e w' ⟨rfl, q, rfl⟩
    rw [h1] at hrow
    have hle := Go.Lib.compact_length_le ss
    have hc := Go.Lib.ownsRow_putRow (q := q) (k := (Go.Lib.compact ss).length) (ys := Go.Lib.compact ss ++ List.replicate (ss.length - (Go.Lib.compact ss).length) []) hrow (by simp; omega) (by omega)
    rw [List.take_left] at hc
    exact ⟨_, rfl, hc, fun b hb hb2 => Go.Lib.below_putRow (Below.refl _ _) (Nat.le_trans hb hbase)⟩
end SV

end Go.Proofs.YtjoflkeiaoellaaDoor.P

namespace Go.Proofs.YtjoflkeiaoellaaDoor.P
open Go.RowKit Go.Proofs.YtjoflkeiaoellaaDoorW.PrintWords Go.Proofs.YtjoflkeiaoellaaDoorW.PrintLast Go.Proofs.YtjoflkeiaoellaaDoorW.PrintMore
attribute [local go_sem] max2_int min2_int max_two min_two max_three min_three max_four min_four   -- for this text's walks alone
set_option linter.unusedVariables false
set_option linter.unusedSimpArgs false

/-! ### impl_set: function 77 -/
def impl_set.f (l0 : List ByteArray) : Option (List ByteArray) := if l0.length ≤ 4294967296 then some ((Go.Lib.compact ((l0.map fun s => s.data.toList).mergeSort fun x y => decide (x ≤ y))).map fun l => (⟨l.toArray⟩ : ByteArray)) else none
theorem impl_set.strs {w : World} {A0 : Option Addr} {l0 : List ByteArray} (hr : Kd.C Kd.string w A0 l0.length l0) : SV.Strs w.heap.size w A0 (l0.map fun s => s.data.toList) := by
  cases l0 with
  | nil => exact .inl rfl
  | cons x l =>
    obtain ⟨ad, e, h0⟩ := Kd.at_string hr 0 (by omega) (by simp)
    have hall : ∀ j, j < (x :: l).length → w.cell? (ad.add j) = some (.string ((x :: l).getD j ByteArray.empty)) := by
      intro j hj
      obtain ⟨ad', e', h'⟩ := Kd.at_string hr j (by omega) (by omega)
      rw [e] at e'; cases e'
      simpa [rdOf] using h'
    refine .inr ⟨ad, e, by have := World.block_lt_of_cell? w _ h0; rwa [add_block] at this, fun j hj => ?_⟩
    rw [hall j (by simpa using hj)]
    have hj' : j < (x :: l).length := by simpa using hj
    simp only [Go.Proofs.encStr, List.getElem?_map, List.getD_eq_getElem?_getD, List.getElem?_eq_getElem hj', Option.map_some, Option.getD_some]
theorem impl_set.encs_eq (zs : List (List UInt8)) : encs Value.string (zs.map fun l => (⟨l.toArray⟩ : ByteArray)) = zs.map Go.Proofs.encStr := by
  simp [encs, Go.Proofs.encStr, Function.comp_def]
set_option maxHeartbeats 2000000 in
theorem impl_set.calls (A0 : Option Addr) (c0 : Nat) (l0 : List ByteArray) (r : List ByteArray) (w : World) (hr0 : Kd.C Kd.string w A0 l0.length l0) (hc0 : l0.length ≤ c0) (h : impl_set.f l0 = some r) :
    Calls Tryd.prog 77 #[.slice A0 l0.length c0] w fun e w' => ∃ v0_ : Value, e = .returned (v0_) ∧ Kd.R Kd.string 9 w' w.heap.size (fun _ => True) v0_ r ∧ Below w.heap.size w w' := by
  unfold impl_set.f at h
  by_cases hlen : l0.length ≤ 4294967296
  · rw [if_pos hlen] at h
    obtain ⟨zs, hzs⟩ : ∃ zs, zs = l0.map fun s => s.data.toList := ⟨_, rfl⟩
    have hzl : zs.length = l0.length := by rw [hzs]; simp
    have HS := Aside0.mk (show SV.Strs w.heap.size w A0 zs from hzs ▸ impl_set.strs hr0)
    have HR := Aside0.mk (show (Go.Lib.compact (SV.srt zs)).map (fun l => (⟨l.toArray⟩ : ByteArray)) = r from by rw [hzs]; exact Option.some.inj h)
    have HL := Aside0.mk hzl
    have HN := Aside0.mk hlen
    clear hr0 hc0 h hzs hzl hlen
    go_enter Tryd.func77, Tryd.ntmps77
    go_wp2_with fail
    refine (SV.Values_calls A0 l0.length c0 w).mono ?_
    rintro e w1 ⟨rfl, rfl⟩
    have hb1 : Below w.heap.size w (w.alloc (.cells #[.slice A0 l0.length c0] 35)) := (Below.refl _ w).alloc (Nat.le_refl _) _
    have HX := Aside0.mk (SV.Sorted_calls w.heap.size A0 c0 zs (by rw [HL.out]; exact HN.out) (w.alloc (.cells #[.slice A0 l0.length c0] 35)) (by simp) (by rw [HL.out]; simp) ((HS.out.below hb1).mono (by simp)))
    have HB1 := Aside0.mk hb1
    clear hb1
    go_wp2_with fail
    refine HX.out.mono ?_
    clear HX
    rintro e W ⟨v, rfl, hrow, hnil, hb⟩
    obtain ⟨A, c, hv⟩ := own_slice hrow
    have HB2 := Aside0.mk (HB1.out.trans (hb.mono (by simp)))
    have HC := Aside0.mk (SV.Compact_calls hrow A c hv (by rw [SV.srt_length, HL.out]; exact HN.out))
    have HZ := Aside0.mk hb.size
    subst hv
    clear hrow hnil hb
    go_wp2_with fail
    refine HC.out.mono ?_
    clear HC
    rintro e W2 ⟨v2, rfl, hrow2, hb2⟩
    have H2 := Aside0.mk (And.intro hrow2 hb2)
    clear hrow2 hb2
    go_wp2_with fail
    go_ret
    refine ⟨v2, rfl, ?_, HB2.out.trans (H2.out.2 _ (by simp) HB2.out.size)⟩
    rw [← HR.out]
    refine Kd.R_lower (Kd.R_of_own (h1 := fun _ => rfl) ?_ (fun _ _ => trivial)) (show w.heap.size ≤ (w.alloc (.cells #[.slice A0 l0.length c0] 35)).heap.size from by simp)
    rw [impl_set.encs_eq, List.length_map]
    exact H2.out.1
  · rw [if_neg hlen] at h; cases h

end Go.Proofs.YtjoflkeiaoellaaDoor.P

namespace Go.Proofs.YtjoflkeiaoellaaDoor.P
open Go.RowKit Go.Proofs.YtjoflkeiaoellaaDoorW.PrintWords Go.Proofs.YtjoflkeiaoellaaDoorW.PrintLast Go.Proofs.YtjoflkeiaoellaaDoorW.PrintMore
attribute [local go_sem] max2_int min2_int max_two min_two max_three min_three max_four min_four   -- for this text's walks alone
set_option linter.unusedVariables false
set_option linter.unusedSimpArgs false

/-! ### impl_substrings: function 59 -/
mutual
def impl_substrings.l0 : Nat → ByteArray → List ByteArray → Int → Int → Option (List ByteArray)
  | 0, _, _, _, _ => none
  | k + 1, x0, x3, x8, x9 => if x9 < x8 then (impl_substrings.l1 k x0 x3 x9 (wrap64 (x9 + 1)) x8 x9) else ((impl_set.f x3).bind fun t339 => (some t339))
def impl_substrings.l1 : Nat → ByteArray → List ByteArray → Int → Int → Int → Int → Option (List ByteArray)
  | 0, _, _, _, _, _, _ => none
  | k + 1, x0, x3, x4, x5, x8, x9 => if x5 ≤ (x0.size : Int) then (if 0 ≤ x4 then (if x4 ≤ x5 then (if x3.length < 8796093022208 then (impl_substrings.l1 k x0 (x3 ++ [x0.extract (x4 : Int).toNat (x5 : Int).toNat]) x4 (wrap64 (x5 + 1)) x8 x9) else (none)) else (none)) else (none)) else (impl_substrings.l0 k x0 x3 x8 (wrap64 (x9 + 1)))
end
def impl_substrings.f (k : Nat) (a0 : ByteArray) : Option (List ByteArray) := impl_substrings.l0 k a0 (([] : List ByteArray)) (a0.size : Int) 0
theorem impl_substrings.mono_l : ∀ k, (∀ y0 y1 y2 y3, LeO (impl_substrings.l0 k y0 y1 y2 y3) (impl_substrings.l0 (k + 1) y0 y1 y2 y3)) ∧ (∀ y0 y1 y2 y3 y4 y5, LeO (impl_substrings.l1 k y0 y1 y2 y3 y4 y5) (impl_substrings.l1 (k + 1) y0 y1 y2 y3 y4 y5))
  | 0 => ⟨fun _ _ _ _ r h => by simp [impl_substrings.l0] at h, fun _ _ _ _ _ _ r h => by simp [impl_substrings.l1] at h⟩
  | k + 1 => by
    obtain ⟨ih0, ih1⟩ := impl_substrings.mono_l k
    refine ⟨?_, ?_⟩
    · intro y0 y1 y2 y3
      unfold impl_substrings.l0
      repeat' first
      | (with_reducible exact ih0 _ _ _ _)
      | (with_reducible exact ih1 _ _ _ _ _ _)
      | (with_reducible exact LeO.refl _)
      | (with_reducible exact LeO.none _)
      | (with_reducible refine LeO.ite ?_ ?_)
      | (with_reducible refine LeO.bind ?_ (fun _ => ?_))
      | exact ih0 _ _ _ _
      | exact ih1 _ _ _ _ _ _
      | exact LeO.none _
      | refine LeO.ite ?_ ?_
      | refine LeO.bind ?_ (fun _ => ?_)
    · intro y0 y1 y2 y3 y4 y5
      unfold impl_substrings.l1
      repeat' first
      | (with_reducible exact ih0 _ _ _ _)
      | (with_reducible exact ih1 _ _ _ _ _ _)
      | (with_reducible exact LeO.refl _)
      | (with_reducible exact LeO.none _)
      | (with_reducible refine LeO.ite ?_ ?_)
      | (with_reducible refine LeO.bind ?_ (fun _ => ?_))
      | exact ih0 _ _ _ _
      | exact ih1 _ _ _ _ _ _
      | exact LeO.none _
      | refine LeO.ite ?_ ?_
      | refine LeO.bind ?_ (fun _ => ?_)
theorem impl_substrings.mono : ∀ a0 k, LeO (impl_substrings.f k a0) (impl_substrings.f (k + 1) a0) := by
  intro a0 k
  obtain ⟨ih0, ih1⟩ := impl_substrings.mono_l k
  unfold impl_substrings.f
  repeat' first
      | (with_reducible exact ih0 _ _ _ _)
      | (with_reducible exact ih1 _ _ _ _ _ _)
      | (with_reducible exact LeO.refl _)
      | (with_reducible exact LeO.none _)
      | (with_reducible refine LeO.ite ?_ ?_)
      | (with_reducible refine LeO.bind ?_ (fun _ => ?_))
      | exact ih0 _ _ _ _
      | exact ih1 _ _ _ _ _ _
      | exact LeO.none _
      | refine LeO.ite ?_ ?_
      | refine LeO.bind ?_ (fun _ => ?_)
set_option maxHeartbeats 8000000 in
set_option maxRecDepth 100000 in
theorem impl_substrings.calls (k : Nat) (a0 : ByteArray) (r : List ByteArray) (w : World) (h : impl_substrings.f k a0 = some r) :
    Calls Tryd.prog 59 #[.string a0] w fun e w' => ∃ v0_ : Value, e = .returned (v0_) ∧ Kd.R Kd.string 9 w' w.heap.size (fun _ => True) v0_ r ∧ Below w.heap.size w w' := by
  have HB := Aside0.mk (Below.refl w.heap.size w)
  have H : (impl_substrings.l0 k a0 (([] : List ByteArray)) (a0.size : Int) 0) = some r := h
  clear h
  obtain ⟨y336, hy336⟩ : ∃ y_ : List ByteArray, y_ = (([] : List ByteArray)) := ⟨_, rfl⟩
  replace H : (impl_substrings.l0 k a0 y336 (a0.size : Int) 0) = some r := by first | (rw [hy336]; with_reducible exact H) | (have H2_ := (Option.bind_some _ _).symm.trans H; rw [hy336]; with_reducible exact H2_) | (have H2_ := (Option.bind_some _ _).symm.trans H; with_reducible exact H2_) | with_reducible exact H | (rw [hy336]; exact H) | exact H
  have Ny336 := Aside0.mk hy336
  clear hy336
  have H' := Aside0.mk H
  clear H
  go_enter Tryd.func59, Tryd.ntmps59
  go_wp2_with (first | ((with_reducible refine gate_dst (N := 6) rfl ?_); refine Kd.R_lit Kd.string _ 9 ?hg (N := 6) ?hd (xs := ([] : List ByteArray)) (inner := []) (ok := fun _ => True) (okp := fun _ => True) ?hr ?hp (fun _ hk => hk) trivial (Below.refl _ _) (Nat.le_refl _) (by simp) ?_; (case hd => rfl); (case hg => rfl); (case hr => first | (go_simp; done) | (go_simp; rfl)); (case hp => exact (Reps.none _ _)); intro v337 w2 ho3 hb hg_ hnew_; clear hg_ hnew_; (first | rw [← Ny336.out] at ho3 | (simp only [Int.reduceToNat] at ho3; rw [← Ny336.out] at ho3)); have n0_ := Aside0.mk (Kd.R_lower ho3 (below_size (by repeat (first | (with_reducible first | exact HB.out | apply below_alloc | apply pw_below_drewN | apply below_drew1) | exact HB.out)))); have n1_ := Aside0.mk (below_step (by repeat (first | (with_reducible first | exact HB.out | apply below_alloc | apply pw_below_drewN | apply below_drew1) | exact HB.out)) hb); clear HB; have HO338 := n0_; have HB := n1_; clear n0_ n1_; clear hb ho3))
  go_loopg [3, 9] k (fun kq v3 v9 w' => ∃ (x3_1 : List ByteArray) (x9_1 : Int), v9 = .int .i64 x9_1 ∧ Aside0 (impl_substrings.l0 kq a0 x3_1 (a0.size : Int) x9_1 = some r) ∧ Aside0 (kq ≤ k) ∧ Aside0 (Kd.R Kd.string 9 w' w.heap.size (fun _ => True) v3 x3_1) ∧ Aside0 (Below w.heap.size w w'))
  case atStart => exact ⟨(y336), (0), (by first | rfl | (simp; done) | (simp [*]; done)), H', ⟨Nat.le_refl _⟩, ⟨by (with_reducible repeat (first | apply Kd.R_alloc | apply Kd.R_drewN | apply Kd.R_drew)); exact HO338.out⟩, ⟨by repeat (first | (with_reducible first | exact HB.out | apply below_alloc | apply pw_below_drewN | apply below_drew1) | exact HB.out)⟩⟩
  case round =>
    clear H'
    try clear p2
    obtain ⟨x3_1, x9_1, rfl, HA, HK1, HO_3, HB⟩ := hrel
    cases gk with
    | zero => exact absurd HA.out (by simp [impl_substrings.l0])
    | succ k1 =>
      have H := HA.out
      clear HA
      simp only [impl_substrings.l0] at H
      by_cases c4 : x9_1 < (a0.size : Int)
      · rw [if_pos c4] at H
        have c4b0 : decide (x9_1 < (a0.size : Int)) = true := decide_eq_true c4
        clear c4
        have H' := Aside0.mk H
        clear H
        go_wp2
        go_loopg [3, 5] k1 (fun kq v3 v5 w' => ∃ (x3_2 : List ByteArray) (x5_2 : Int), v5 = .int .i64 x5_2 ∧ Aside0 (impl_substrings.l1 kq a0 x3_2 x9_1 x5_2 (a0.size : Int) x9_1 = some r) ∧ Aside0 (kq ≤ k1) ∧ Aside0 (Kd.R Kd.string 9 w' w.heap.size (fun _ => True) v3 x3_2) ∧ Aside0 (Below w.heap.size w w'))
        case atStart => exact ⟨(x3_1), (wrap64 (x9_1 + 1)), (by first | rfl | (simp; done) | (simp [*]; done)), H', ⟨Nat.le_refl _⟩, ⟨by (with_reducible repeat (first | apply Kd.R_alloc | apply Kd.R_drewN | apply Kd.R_drew)); exact HO_3.out⟩, ⟨by repeat (first | (with_reducible first | exact HB.out | apply below_alloc | apply pw_below_drewN | apply below_drew1) | exact HB.out)⟩⟩
        case round =>
          clear H'
          try clear p2
          try clear c4
          try clear c4b0
          try clear p2
          obtain ⟨x3_2, x5_2, rfl, HA, HK2, HO_3, HB⟩ := hrel
          cases gk with
          | zero => exact absurd HA.out (by simp [impl_substrings.l1])
          | succ k2 =>
            have H := HA.out
            clear HA
            simp only [impl_substrings.l1] at H
            by_cases c5 : x5_2 ≤ (a0.size : Int)
            · rw [if_pos c5] at H
              have c5b0 : decide (x5_2 ≤ (a0.size : Int)) = true := decide_eq_true c5
              clear c5
              by_cases c6 : 0 ≤ x9_1
              · rw [if_pos c6] at H
                have c6b0 := eq_true c6
                have c6b1 : decide (0 ≤ x9_1) = true := decide_eq_true c6
                clear c6
                by_cases c7 : x9_1 ≤ x5_2
                · rw [if_pos c7] at H
                  have c7b0 := eq_true c7
                  have c7b1 : decide (x9_1 ≤ x5_2) = true := decide_eq_true c7
                  clear c7
                  have c8b0 := eq_true (of_decide_eq_true (by first | (with_reducible assumption) | assumption) : x5_2 ≤ (a0.size : Int))
                  by_cases c9 : x3_2.length < 8796093022208
                  · rw [if_pos c9] at H
                    have LMc9 := Aside0.mk c9
                    clear c9
                    obtain ⟨y342, hy342⟩ : ∃ y_ : List ByteArray, y_ = (x3_2 ++ [a0.extract (x9_1 : Int).toNat (x5_2 : Int).toNat]) := ⟨_, rfl⟩
                    replace H : (impl_substrings.l1 k2 a0 y342 x9_1 (wrap64 (x5_2 + 1)) (a0.size : Int) x9_1) = some r := by first | (rw [hy342]; with_reducible exact H) | (have H2_ := (Option.bind_some _ _).symm.trans H; rw [hy342]; with_reducible exact H2_) | (have H2_ := (Option.bind_some _ _).symm.trans H; with_reducible exact H2_) | with_reducible exact H | (rw [hy342]; exact H) | exact H
                    have Ny342 := Aside0.mk hy342
                    clear hy342
                    have H' := Aside0.mk H
                    clear H
                    go_wp2_with (first | ((with_reducible refine gate_builtin (b := .append) (xs := #[.tmp 20, .tmp 25]) rfl ?_); at_builtin; refine Kd.R_append Kd.string (w0 := w) w.heap.size rfl (.tmp 20) (.tmp 25) 35 9 (.string ⟨#[]⟩) 16 rfl Tryd.underlying35 info9 rfl (by decide) (by omega) u3 x3_2 (a0.extract (x9_1 : Int).toNat (x5_2 : Int).toNat) [.string (a0.extract (x9_1 : Int).toNat (x5_2 : Int).toNat)] (fun _ => True) (fun _ => False) rfl rfl ?aP (fun _ hk => hk.elim) ?aF ?aO ?aB ?aS ?aL ?_; (case aP => exact rfl); (case aB => exact (by repeat (first | (with_reducible first | exact HB.out | apply below_alloc | apply pw_below_drewN | apply below_drew1) | exact HB.out))); (case aF => exact (fun _ _ => trivial)); (case aO => exact (by (with_reducible repeat (first | apply Kd.R_alloc | apply Kd.R_drewN | apply Kd.R_drew)); exact HO_3.out)); (case aS => exact (below_size (by repeat (first | (with_reducible first | exact HB.out | apply below_alloc | apply pw_below_drewN | apply below_drew1) | exact HB.out)))); (case aL => have := LMc9.out; omega); intro v343 w10 ho hb hg hat; rw [← Ny342.out] at ho; have n0_ := Aside0.mk (hb); have n1_ := Aside0.mk (ho); clear HB; clear HO_3; have HB := n0_; have HO344 := n1_; clear n0_ n1_; clear ho hb hg hat))
                    go_roundg k2
                    case measure => have := HK1.out; have := HK2.out; omega
                    case rel => exact ⟨(y342), (wrap64 (x5_2 + 1)), (by first | rfl | (simp; done) | (simp [*]; done)), H', ⟨by have := HK1.out; have := HK2.out; omega⟩, ⟨by (with_reducible repeat (first | apply Kd.R_alloc | apply Kd.R_drewN | apply Kd.R_drew)); exact HO344.out⟩, ⟨by repeat (first | (with_reducible first | exact HB.out | apply below_alloc | apply pw_below_drewN | apply below_drew1) | exact HB.out)⟩⟩
                  · rw [if_neg c9] at H
                    exact absurd H (by simp)
                · rw [if_neg c7] at H
                  exact absurd H (by simp)
              · rw [if_neg c6] at H
                exact absurd H (by simp)
            · rw [if_neg c5] at H
              have c5b0 : decide (x5_2 ≤ (a0.size : Int)) = false := decide_eq_false c5
              clear c5
              have H' := Aside0.mk H
              clear H
              go_wp2
              go_roundg k2
              case measure => have := HK1.out; have := HK2.out; omega
              case rel => exact ⟨(x3_2), (wrap64 (x9_1 + 1)), (by first | rfl | (simp; done) | (simp [*]; done)), H', ⟨by have := HK1.out; have := HK2.out; omega⟩, ⟨by (with_reducible repeat (first | apply Kd.R_alloc | apply Kd.R_drewN | apply Kd.R_drew)); exact HO_3.out⟩, ⟨by repeat (first | (with_reducible first | exact HB.out | apply below_alloc | apply pw_below_drewN | apply below_drew1) | exact HB.out)⟩⟩
      · rw [if_neg c4] at H
        have c4b0 : decide (x9_1 < (a0.size : Int)) = false := decide_eq_false c4
        clear c4
        replace H := Option.bind_eq_some_iff.mp H
        obtain ⟨t339, A110, H⟩ := H
        replace H : (some t339) = some r := H
        have A11 := Aside0.mk A110
        clear A110
        obtain rfl := Option.some.inj H
        obtain ⟨Ao12, co12, eo12⟩ := Kd.R_slice HO_3.out
        subst eo12
        go_wp2_with (first | ((with_reducible refine gate_callee (f := 77) rfl ?_); refine goesL_ (some 29) rfl rfl Tryd.func77 (by kernel_rfl) rfl #[.slice Ao12 x3_1.length co12] rfl (by (try simp only [List.map_toArray, List.map_cons, List.map_nil]); first | done | rfl | (simp only [List.length_drop, List.length_take]; rfl)) ?_; (with_reducible refine (impl_set.calls _ _ x3_1 t339 _ ?side1 ?side2 A11.out).mono ?_); (case side1 => repeat (first | exact (Kd.R_reads' HO_3.out).2.2 | (with_reducible refine Kd.C_alloc ?_ _) | (with_reducible refine Kd.C_drewN ?_ _) | (with_reducible refine Kd.C_drew ?_))); (case side2 => exact (Kd.R_reads' HO_3.out).2.1); rintro e w13 ⟨v340, rfl, ho0, hb⟩; refine ⟨_, rfl, ?_⟩; have n0_ := Aside0.mk (Kd.R_elder' (by (with_reducible repeat (first | apply Kd.R_alloc | apply Kd.R_drewN | apply Kd.R_drew)); exact HO_3.out) (Kd.R_base ho0) hb); have n1_ := Aside0.mk (Kd.R_lower (Kd.R_new' ho0 (Kd.R_lt (by (with_reducible repeat (first | apply Kd.R_alloc | apply Kd.R_drewN | apply Kd.R_drew)); exact HO_3.out))) (below_size (by repeat (first | (with_reducible first | exact HB.out | apply below_alloc | apply pw_below_drewN | apply below_drew1) | exact HB.out)))); have n2_ := Aside0.mk (below_step (by repeat (first | (with_reducible first | exact HB.out | apply below_alloc | apply pw_below_drewN | apply below_drew1) | exact HB.out)) hb); clear HO_3; clear HB; have HO_3 := n0_; have HO341 := n1_; have HB := n2_; clear n0_ n1_ n2_; (try clear hb); (try clear hb2); (try clear hk); (try clear hi); (try clear ho0)))
        go_ret
        exact ⟨_, by first | rfl | (simp [errW_none, errW_some] <;> rfl) | (simp [*, errW_none, errW_some] <;> rfl), by (with_reducible repeat (first | apply Kd.R_alloc | apply Kd.R_drewN | apply Kd.R_drew)); exact Kd.R_mono HO341.out (fun _ hk => trivial), by repeat (first | (with_reducible first | exact HB.out | apply below_alloc | apply pw_below_drewN | apply below_drew1) | exact HB.out)⟩

end Go.Proofs.YtjoflkeiaoellaaDoor.P

namespace Go.Proofs.YtjoflkeiaoellaaDoor.L
open Go.RowKit Go.Proofs.YtjoflkeiaoellaaDoor.P Go.Proofs.YtjoflkeiaoellaaDoor.M Go.Proofs.YtjoflkeiaoellaaDoorW.PrintWords Go.Proofs.YtjoflkeiaoellaaDoorW.PrintLast Go.Proofs.YtjoflkeiaoellaaDoorW.PrintMore
set_option linter.unusedVariables false
def colsL (s : Txt) (i : Nat) : Nat → Nat → List Txt
  | _, 0 => []
  | j, d + 1 => (s.drop i).take (j - i) :: colsL s i (j + 1) d
def rowsL (s : Txt) : Nat → Nat → List Txt
  | _, 0 => []
  | i, d + 1 => colsL s i (i + 1) (s.length - i) ++ rowsL s (i + 1) d
def rawL (s : Txt) : List Txt := rowsL s 0 s.length
def partsL (s : Txt) : List Txt := setL (rawL s)
theorem colsL_length (s : Txt) (i : Nat) : ∀ d j, (colsL s i j d).length = d
  | 0, _ => rfl
  | d + 1, j => by simp [colsL, colsL_length s i d (j + 1)]
theorem rowsL_length (s : Txt) : ∀ d i, i + d = s.length → (rowsL s i d).length ≤ d * s.length
  | 0, _, _ => by simp [rowsL]
  | d + 1, i, h => by
    have := rowsL_length s d (i + 1) (by omega)
    simp only [rowsL, List.length_append, colsL_length, Nat.succ_mul]; omega
theorem rawL_length (s : Txt) (h : s.length ≤ 16) : (rawL s).length ≤ 256 := by
  have h1 := rowsL_length s s.length 0 (by omega)
  have h2 : s.length * s.length ≤ 16 * 16 := Nat.mul_le_mul h h
  unfold rawL; omega
theorem mem_colsL (s : Txt) (i : Nat) : ∀ d j x, x ∈ colsL s i j d → x.length ≤ s.length ∧ (i < j → j + d ≤ s.length + 1 → 0 < x.length) ∧ ∃ m, j ≤ m ∧ m < j + d ∧ x = (s.drop i).take (m - i)
  | 0, _, _, h => by simp [colsL] at h
  | d + 1, j, x, h => by
    rcases List.mem_cons.1 h with rfl | h
    · exact ⟨by simp; omega, fun h1 h2 => by simp; omega, j, Nat.le_refl _, by omega, rfl⟩
    · obtain ⟨h1, h2, m, h3, h4, h5⟩ := mem_colsL s i d (j + 1) x h
      exact ⟨h1, fun h6 h7 => h2 (by omega) (by omega), m, by omega, by omega, h5⟩
theorem mem_rowsL (s : Txt) : ∀ d i x, i + d = s.length → x ∈ rowsL s i d → x.length ≤ s.length ∧ 0 < x.length
  | 0, _, _, _, h => by simp [rowsL] at h
  | d + 1, i, x, hd, h => by
    rcases List.mem_append.1 h with h | h
    · obtain ⟨h1, h2, _⟩ := mem_colsL s i _ _ x h
      exact ⟨h1, h2 (by omega) (by omega)⟩
    · exact mem_rowsL s d (i + 1) x (by omega) h
theorem mem_partsL {s x : Txt} (h : x ∈ partsL s) : x.length ≤ s.length ∧ 0 < x.length := mem_rowsL s _ 0 x (by omega) ((mem_setL _ _).1 h)
theorem foldl_putL_length : ∀ (l acc : List Txt), (l.foldl putL acc).length ≤ acc.length + l.length
  | [], _ => Nat.le_refl _
  | x :: l, acc => by
    have h1 := foldl_putL_length l (putL acc x)
    have h2 := putL_length_le acc x
    rw [List.foldl_cons, List.length_cons]; omega
theorem partsL_length (s : Txt) (h : s.length ≤ 16) : (partsL s).length ≤ 256 := by
  have h1 := foldl_putL_length (rawL s) []
  have h2 := rawL_length s h
  unfold partsL setL; simp at h1; omega
theorem map_data (l : List Txt) : (l.map B).map (fun x => x.data.toList) = l := by
  rw [List.map_map]
  exact (List.map_congr_left (fun x _ => data_B x)).trans (List.map_id _)
theorem l2Put_eq (l : List Txt) (w : Txt) (h : l.length ≤ 4294967296) (h2 : ∀ x ∈ l, x.length ≤ 4611686018427387900) : spec_l2Put.f (l.map B) (B w) = some ((putL l w).map B) := by
  have hall : ((l.map B).all fun x => decide (x.size ≤ 4611686018427387900)) = true := List.all_eq_true.2 fun x hx => by
    obtain ⟨y, hy, rfl⟩ := List.mem_map.1 hx
    simpa using h2 y hy
  unfold spec_l2Put.f
  rw [map_data, data_B, if_pos ⟨by simpa using h, hall⟩]
theorem set_eq (l : List Txt) (h : l.length ≤ 4294967296) : impl_set.f (l.map B) = some ((setL l).map B) := by
  unfold impl_set.f
  rw [if_pos (by simpa using h), map_data, sorted_compact]
  rfl
theorem piece_B (s : Txt) (i j : Nat) : (B s).extract (i : Int).toNat (j : Int).toNat = B ((s.drop i).take (j - i)) := by simp
theorem impl_cols (s : Txt) (hs : s.length ≤ 16) (i : Nat) (hi : i < s.length) (r : List ByteArray) (acc2 : List Txt) (hr : Ev (fun k => impl_substrings.l0 k (B s) (acc2.map B) (s.length : Int) ((i + 1 : Nat) : Int)) r) :
    ∀ d j acc, i < j → j + d = s.length + 1 → acc ++ colsL s i j d = acc2 → acc2.length ≤ 4000 → Ev (fun k => impl_substrings.l1 k (B s) (acc.map B) (i : Int) (j : Int) (s.length : Int) (i : Int)) r := by
  intro d
  induction d with
  | zero =>
    intro j acc h1 h2 h3 h4
    simp only [colsL, List.append_nil] at h3
    subst h3
    refine Ev.step (fun k => impl_substrings.l1.eq_2 ..) (Ev.ifF (by simp; omega) ?_)
    simpa only [wrap64_succ i (by omega)] using hr
  | succ d ih =>
    intro j acc h1 h2 h3 h4
    have hl : acc.length ≤ 4000 := by rw [← h3] at h4; simp at h4; omega
    refine Ev.step (fun k => impl_substrings.l1.eq_2 ..) (Ev.ifT (by simp; omega) (Ev.ifT (by omega) (Ev.ifT (by omega) (Ev.ifT (by simp; omega) ?_))))
    rw [piece_B]
    have := ih (j + 1) (acc ++ [(s.drop i).take (j - i)]) (by omega) (by omega) (by rw [← h3]; simp [colsL]) h4
    simpa only [wrap64_succ j (by omega), List.map_append, List.map_cons, List.map_nil] using this
theorem impl_rows (s : Txt) (hs : s.length ≤ 16) (all : List Txt) (hall : all.length ≤ 4000) : ∀ d i acc, i + d = s.length → acc ++ rowsL s i d = all → Ev (fun k => impl_substrings.l0 k (B s) (acc.map B) (s.length : Int) (i : Int)) ((setL all).map B) := by
  intro d
  induction d with
  | zero =>
    intro i acc h1 h2
    simp only [rowsL, List.append_nil] at h2
    subst h2
    refine Ev.step (fun k => impl_substrings.l0.eq_2 ..) (Ev.ifF (by omega) ?_)
    rw [set_eq acc (by omega)]
    exact Ev.some_bind (Ev.now _)
  | succ d ih =>
    intro i acc h1 h2
    refine Ev.step (fun k => impl_substrings.l0.eq_2 ..) (Ev.ifT (by omega) ?_)
    have h3 : (acc ++ colsL s i (i + 1) (s.length - i)) ++ rowsL s (i + 1) d = all := by rw [← h2]; simp [rowsL]
    have hr := ih (i + 1) _ (by omega) h3
    have := impl_cols s hs i (by omega) _ _ hr (s.length - i) (i + 1) acc (by omega) (by omega) rfl (by rw [← h3] at hall; simp at hall ⊢; omega)
    simpa only [wrap64_succ i (by omega)] using this
theorem substrings_ev (s : Txt) (hs : s.length ≤ 16) : Ev (fun k => impl_substrings.f k (B s)) ((partsL s).map B) := by
  have := impl_rows s hs (rawL s) (by have := rawL_length s hs; omega) s.length 0 [] (by omega) rfl
  simpa [impl_substrings.f, partsL] using this
theorem spec_cols (s : Txt) (hs : s.length ≤ 16) (i : Nat) (hi : i < s.length) (r : List ByteArray) (acc2 : List Txt) (hr : Ev (fun k => spec_l8Parts.l0 k (B s) (acc2.map B) ((i + 1 : Nat) : Int)) r) :
    ∀ d j acc, i < j → j + d = s.length + 1 → (colsL s i j d).foldl putL acc = acc2 → acc.length + d ≤ 4000 → (∀ x ∈ acc, x.length ≤ 16) → Ev (fun k => spec_l8Parts.l1 k (B s) (acc.map B) (i : Int) (j : Int)) r := by
  intro d
  induction d with
  | zero =>
    intro j acc h1 h2 h3 h4 h5
    simp only [colsL, List.foldl_nil] at h3
    subst h3
    refine Ev.step (fun k => spec_l8Parts.l1.eq_2 ..) (Ev.ifF (by simp; omega) ?_)
    simpa only [wrap64_succ i (by omega)] using hr
  | succ d ih =>
    intro j acc h1 h2 h3 h4 h5
    refine Ev.step (fun k => spec_l8Parts.l1.eq_2 ..) (Ev.ifT (by simp; omega) (Ev.ifT (by omega) (Ev.ifT (by omega) ?_)))
    rw [piece_B, l2Put_eq acc _ (by omega) (fun x hx => by have := h5 x hx; omega)]
    refine Ev.some_bind ?_
    have h6 := putL_length_le acc ((s.drop i).take (j - i))
    have := ih (j + 1) (putL acc ((s.drop i).take (j - i))) (by omega) (by omega) (by rw [← h3]; rfl) (by omega) (fun x hx => by
      rcases (mem_putL _ _ _).1 hx with rfl | hx
      · simp; omega
      · exact h5 x hx)
    simpa only [wrap64_succ j (by omega)] using this
theorem spec_rows (s : Txt) (hs : s.length ≤ 16) (all : List Txt) : ∀ d i acc, i + d = s.length → (rowsL s i d).foldl putL acc = all → acc.length + d * s.length ≤ 4000 → (∀ x ∈ acc, x.length ≤ 16) → Ev (fun k => spec_l8Parts.l0 k (B s) (acc.map B) (i : Int)) (all.map B) := by
  intro d
  induction d with
  | zero =>
    intro i acc h1 h2 h3 h4
    simp only [rowsL, List.foldl_nil] at h2
    subst h2
    exact Ev.step (fun k => spec_l8Parts.l0.eq_2 ..) (Ev.ifF (by simp; omega) (Ev.now _))
  | succ d ih =>
    intro i acc h1 h2 h3 h4
    rw [Nat.succ_mul] at h3
    refine Ev.step (fun k => spec_l8Parts.l0.eq_2 ..) (Ev.ifT (by simp; omega) ?_)
    have h5 : (rowsL s (i + 1) d).foldl putL ((colsL s i (i + 1) (s.length - i)).foldl putL acc) = all := by rw [← h2, rowsL, List.foldl_append]
    have h6 := foldl_putL_length (colsL s i (i + 1) (s.length - i)) acc
    rw [colsL_length] at h6
    have hr := ih (i + 1) _ (by omega) h5 (by omega) (fun x hx => by
      rcases (foldl_putL_mem _ _ _).1 hx with hx | hx
      · have := (mem_colsL s i _ _ x hx).1; omega
      · exact h4 x hx)
    have := spec_cols s hs i (by omega) _ _ hr (s.length - i) (i + 1) acc (by omega) (by omega) rfl (by omega) h4
    simpa only [wrap64_succ i (by omega)] using this
theorem l8Parts_ev (s : Txt) (hs : s.length ≤ 16) : Ev (fun k => spec_l8Parts.f k (B s)) ((partsL s).map B) := by
  have h2 : s.length * s.length ≤ 16 * 16 := Nat.mul_le_mul hs hs
  have := spec_rows s hs (partsL s) s.length 0 [] (by omega) rfl (by simp; omega) (by simp)
  simpa [spec_l8Parts.f] using this

end Go.Proofs.YtjoflkeiaoellaaDoor.L

namespace Go.Proofs.YtjoflkeiaoellaaDoor.L
open Go.RowKit Go.Proofs.YtjoflkeiaoellaaDoor.P Go.Proofs.YtjoflkeiaoellaaDoor.M Go.Proofs.YtjoflkeiaoellaaDoorW.PrintWords Go.Proofs.YtjoflkeiaoellaaDoorW.PrintLast Go.Proofs.YtjoflkeiaoellaaDoorW.PrintMore
set_option linter.unusedVariables false
theorem suffs_length (s : Txt) : (suffs s).length = s.length := by simp [suffs]
theorem suffs_get (s : Txt) (n : Nat) (h : n < s.length) : (suffs s).getD n [] = s.drop n := by
  rw [getD_lt [] (by rw [suffs_length]; exact h)]; simp [suffs]
theorem l8Ends_second (s : Txt) (hs : s.length ≤ 16) (all : List Txt) (ha : all.length ≤ 1000) (hx : ∀ x ∈ all, x.length ≤ 16) : ∀ d n (acc : List Int), n + d = all.length → acc.length ≤ n → Ev (fun k => spec_l8Ends.l1 k (B s) (all.map B) acc (n : Int)) (acc ++ (all.drop n).map fun t => (s.length : Int) - (t.length : Int)) := by
  intro d
  induction d with
  | zero =>
    intro n acc h1 h2
    refine Ev.step (fun k => spec_l8Ends.l1.eq_2 ..) (Ev.ifF (by simp; omega) ?_)
    rw [List.drop_of_length_le (by omega)]; simpa using Ev.now acc
  | succ d ih =>
    intro n acc h1 h2
    have h3 : n < all.length := by omega
    have h4 : (all.getD n []).length ≤ 16 := hx _ (by rw [getD_lt [] h3]; exact List.getElem_mem _)
    refine Ev.step (fun k => spec_l8Ends.l1.eq_2 ..) ?_
    simp only [rdB all n h3, size_B]
    refine Ev.ifT (by simp; omega) (Ev.ifT (by omega) (Ev.ifT (by omega) ?_))
    rw [drop_cons_getD [] h3, List.map_cons]
    have := ih (n + 1) (acc ++ [(s.length : Int) - ((all.getD n []).length : Int)]) (by omega) (by simp; omega)
    rw [wrap64_id (x := (s.length : Int) - ((all.getD n []).length : Int)) (by omega) (by omega)]
    simpa only [wrap64_succ n (by omega), List.append_assoc, List.cons_append, List.nil_append] using this
theorem l8Ends_first (s : Txt) (hs : s.length ≤ 16) : ∀ d n (acc : List Txt), n + d = s.length → acc.length ≤ n → (∀ x ∈ acc, x.length ≤ 16) → Ev (fun k => spec_l8Ends.l0 k (B s) (acc.map B) [] (n : Int)) ((((suffs s).drop n).foldl putL acc).map fun t => (s.length : Int) - (t.length : Int)) := by
  intro d
  induction d with
  | zero =>
    intro n acc h1 h2 h3
    refine Ev.step (fun k => spec_l8Ends.l0.eq_2 ..) (Ev.ifF (by simp; omega) ?_)
    rw [List.drop_of_length_le (by rw [suffs_length]; omega), List.foldl_nil]
    simpa using l8Ends_second s hs acc (by omega) h3 acc.length 0 [] (by omega) (by simp)
  | succ d ih =>
    intro n acc h1 h2 h3
    have h4 : n < s.length := by omega
    refine Ev.step (fun k => spec_l8Ends.l0.eq_2 ..) (Ev.ifT (by simp; omega) (Ev.ifT (by omega) (Ev.ifT (by simp; omega) ?_)))
    have he : (B s).extract (n : Int).toNat (B s).size = B (s.drop n) := by
      simp only [Int.toNat_natCast, extract_B, size_B]
      rw [List.take_of_length_le (by simp)]
    rw [he, l2Put_eq acc _ (by omega) (fun x hx => by have := h3 x hx; omega)]
    refine Ev.some_bind ?_
    rw [drop_cons_getD [] (by rw [suffs_length]; exact h4), suffs_get s n h4, List.foldl_cons]
    have h5 := putL_length_le acc (s.drop n)
    simpa only [wrap64_succ n (by omega)] using ih (n + 1) (putL acc (s.drop n)) (by omega) (by omega) (fun x hx => by
      rcases (mem_putL _ _ _).1 hx with rfl | hx
      · simp; omega
      · exact h3 x hx)
theorem l8Ends_ev (s : Txt) (hs : s.length ≤ 16) : Ev (fun k => spec_l8Ends.f k (B s)) (endsL s) := by
  have := l8Ends_first s hs s.length 0 [] (by omega) (by simp) (by simp)
  simpa [spec_l8Ends.f, endsL, setL] using this
theorem ends_ev (s : Txt) (hs : s.length ≤ 16) : impl_ends.f (B s) = some (endsL s) := by
  unfold impl_ends.f
  rw [if_pos (by simp; omega), data_B]
theorem endsL_length (s : Txt) : (endsL s).length = s.length := by rw [← ends_eq, List.length_map, endsIx_length]
theorem endsL_lt (s : Txt) (n : Nat) (h : n < s.length) : 0 ≤ (endsL s).getD n 0 ∧ (endsL s).getD n 0 < (s.length : Int) := by
  rw [← ends_eq, getD_lt 0 (by simp [endsIx_length]; exact h)]
  have hm : (endsIx s)[n]'(by rw [endsIx_length]; exact h) ∈ ixs s := by
    have : (endsIx s)[n]'(by rw [endsIx_length]; exact h) ∈ endsIx s := List.getElem_mem _
    unfold endsIx at this ⊢
    exact List.mem_mergeSort.1 this
  have := (mem_ixs s _).1 hm
  simp only [List.getElem_map]
  omega

end Go.Proofs.YtjoflkeiaoellaaDoor.L

namespace Go.Proofs.YtjoflkeiaoellaaDoor.L
open Go.RowKit Go.Proofs.YtjoflkeiaoellaaDoor.P Go.Proofs.YtjoflkeiaoellaaDoor.M Go.Proofs.YtjoflkeiaoellaaDoorW.PrintWords Go.Proofs.YtjoflkeiaoellaaDoorW.PrintLast Go.Proofs.YtjoflkeiaoellaaDoorW.PrintMore
set_option linter.unusedVariables false
theorem eqIntS_loop (l m : List Int) (hl : l.length ≤ 4611686018427387903) (h : l.length = m.length) : ∀ (d n : Nat), n + d = l.length → Ev (fun k => laws_eqIntS.l0 k l m (n : Int)) (decide (l.drop n = m.drop n)) := by
  intro d
  induction d with
  | zero =>
    intro n hn
    refine Ev.step (fun k => laws_eqIntS.l0.eq_2 ..) (Ev.ifF (by omega) ?_)
    rw [List.drop_of_length_le (by omega), List.drop_of_length_le (by omega)]; simpa using Ev.now true
  | succ d ih =>
    intro n hn
    have h1 : n < l.length := by omega
    refine Ev.step (fun k => laws_eqIntS.l0.eq_2 ..) (Ev.ifT (by omega) (Ev.ifT (by omega) (Ev.ifT (by omega) ?_)))
    rw [drop_cons_getD 0 h1, drop_cons_getD 0 (show n < m.length from by omega)]
    simp only [rd_nat]
    by_cases e : l.getD n 0 = m.getD n 0
    · refine Ev.ifT e ?_
      simpa only [wrap64_succ n (by omega), e, List.cons.injEq, true_and] using ih (n + 1) (by omega)
    · refine Ev.ifF e ?_
      simpa only [e, List.cons.injEq, false_and, decide_false] using Ev.now false
theorem eqIntS_ev (l m : List Int) (hl : l.length ≤ 4611686018427387903) : Ev (fun k => laws_eqIntS.f k l m) (decide (l = m)) := by
  by_cases h : l.length = m.length
  · refine Ev.congr (fun k => by unfold laws_eqIntS.f; rw [if_pos (by omega)]) ?_
    simpa using eqIntS_loop l m hl h l.length 0 (by omega)
  · refine Ev.congr (fun k => by unfold laws_eqIntS.f; rw [if_neg (by omega)]) ?_
    have : l ≠ m := fun e => h (by rw [e])
    simpa [this] using Ev.now false

end Go.Proofs.YtjoflkeiaoellaaDoor.L

namespace Go.Proofs.YtjoflkeiaoellaaDoor.L
open Go.RowKit Go.Proofs.YtjoflkeiaoellaaDoor.P Go.Proofs.YtjoflkeiaoellaaDoor.M Go.Proofs.YtjoflkeiaoellaaDoorW.PrintWords Go.Proofs.YtjoflkeiaoellaaDoorW.PrintLast Go.Proofs.YtjoflkeiaoellaaDoorW.PrintMore
set_option linter.unusedVariables false
def marks (n : Nat) (l : List Int) : List Int := (List.range n).map (fun j : Nat => (j : Int) + 1) ++ l.drop n
theorem marks_length (n : Nat) (l : List Int) (h : n ≤ l.length) : (marks n l).length = l.length := by simp [marks]; omega
theorem marks_set (n : Nat) (l : List Int) (h : n < l.length) : (marks n l).set n ((n : Int) + 1) = marks (n + 1) l := by
  unfold marks
  rw [List.set_append_right _ _ (by simp), show ((List.range n).map fun j : Nat => (j : Int) + 1).length = n from by simp, Nat.sub_self, drop_cons_getD 0 h, List.set_cons_zero, List.range_succ, List.map_append, List.append_assoc]
  rfl
theorem markIntS_loop (l : List Int) (hl : l.length ≤ 4611686018427387900) : ∀ (d n : Nat), n + d = l.length → Ev (fun k => laws_markIntS.l0 k (marks n l) ((n : Int) + 1) (n : Int)) ((l.length : Int) + 1, marks l.length l) := by
  intro d
  induction d with
  | zero =>
    intro n hn
    refine Ev.step (fun k => laws_markIntS.l0.eq_2 ..) (Ev.ifF (by rw [marks_length n l (by omega)]; omega) ?_)
    rw [show n = l.length from by omega]; exact Ev.now _
  | succ d ih =>
    intro n hn
    refine Ev.step (fun k => laws_markIntS.l0.eq_2 ..) (Ev.ifT (by rw [marks_length n l (by omega)]; omega) (Ev.ifT (by omega) ?_))
    have := ih (n + 1) (by omega)
    rw [← marks_set n l (by omega)] at this
    rw [show wrap64 ((n : Int) + 1 + 1) = ((n + 1 : Nat) : Int) + 1 from by rw [wrap64_id (by omega) (by omega)]; omega]
    simpa only [Int.toNat_natCast, wrap64_succ n (by omega)] using this
theorem markIntS_ev (l : List Int) (hl : l.length ≤ 4611686018427387900) : Ev (fun k => laws_markIntS.f k l 1) ((l.length : Int) + 1, marks l.length l) := by
  have := markIntS_loop l hl l.length 0 (by omega)
  simpa [laws_markIntS.f, marks] using this
theorem marks_getD (n : Nat) (l : List Int) (j : Nat) (h : j < n) : (marks n l).getD j 0 = (j : Int) + 1 := by
  simp [marks, List.getD_eq_getElem?_getD, List.getElem?_append, h]
theorem heldIntS_loop (l : List Int) (hl : l.length ≤ 4611686018427387900) : ∀ (d n : Nat), n + d = l.length → Ev (fun k => laws_heldIntS.l0 k (marks l.length l) ((n : Int) + 1) (n : Int)) ((l.length : Int) + 1) := by
  intro d
  induction d with
  | zero =>
    intro n hn
    refine Ev.step (fun k => laws_heldIntS.l0.eq_2 ..) (Ev.ifF (by rw [marks_length _ l (by omega)]; omega) ?_)
    rw [show n = l.length from by omega]; exact Ev.now _
  | succ d ih =>
    intro n hn
    refine Ev.step (fun k => laws_heldIntS.l0.eq_2 ..) (Ev.ifT (by rw [marks_length _ l (by omega)]; omega) (Ev.ifT (by omega) (Ev.ifT (by rw [rd_nat, marks_getD _ _ _ (by omega)]) ?_)))
    rw [show wrap64 ((n : Int) + 1 + 1) = ((n + 1 : Nat) : Int) + 1 from by rw [wrap64_id (by omega) (by omega)]; omega]
    simpa only [wrap64_succ n (by omega)] using ih (n + 1) (by omega)
theorem heldIntS_ev (l : List Int) (hl : l.length ≤ 4611686018427387900) : Ev (fun k => laws_heldIntS.f k (marks l.length l) 1) ((l.length : Int) + 1) := by
  simpa [laws_heldIntS.f] using heldIntS_loop l hl l.length 0 (by omega)

end Go.Proofs.YtjoflkeiaoellaaDoor.L

namespace Go.Proofs.YtjoflkeiaoellaaDoor.Pure
open Go.RowKit Go.Proofs.YtjoflkeiaoellaaDoor.P Go.Proofs.YtjoflkeiaoellaaDoor.M Go.Proofs.YtjoflkeiaoellaaDoorW.PrintWords Go.Proofs.YtjoflkeiaoellaaDoorW.PrintLast Go.Proofs.YtjoflkeiaoellaaDoorW.PrintMore
set_option linter.unusedVariables false
open Go.Proofs.YtjoflkeiaoellaaDoor.L
theorem FnExactEndsOf : laws_FnExactEndsOf.Pure := by
  intro a _
  obtain ⟨s, rfl⟩ := exB a
  by_cases hb : ((B s).size : Int) > 1048576
  · exact ⟨0, by unfold laws_FnExactEndsOf.f; rw [if_pos hb]⟩
  have hs : s.length ≤ 1048576 := by simp at hb; omega
  have both : ∃ r : List Int × Bool, r.1.length ≤ 1048577 ∧ Ev (fun k => spec_EndsOf.f k (B s)) r ∧ Ev (fun k => impl_EndsOf.f (B s)) r := by
    unfold spec_EndsOf.f impl_EndsOf.f
    simp only [isText_eq]
    have e1 := l8Text_ev s (by omega)
    cases h1 : text8 s with
    | false => rw [h1] at e1; exact ⟨([], false), by simp, Ev.bind e1 (Ev.ifF (by simp) (Ev.now _)), Ev.some_bind (Ev.ifF (by simp) (Ev.now _))⟩
    | true =>
      rw [h1] at e1
      have h16 : s.length ≤ 16 := by unfold text8 at h1; simp at h1; exact h1.2
      refine ⟨(endsL s, true), by rw [endsL_length]; omega, Ev.bind e1 (Ev.ifT rfl (Ev.bind (l8Ends_ev s h16) (Ev.now _))), Ev.some_bind (Ev.ifT rfl ?_)⟩
      rw [ends_ev s h16]
      exact Ev.some_bind (Ev.now _)
  obtain ⟨r, hr, h1, h2⟩ := both
  refine Ev.rounds ?_
  unfold laws_FnExactEndsOf.f
  refine Ev.ifF hb (Ev.bind h1 (Ev.bind h2 (Ev.bind (eqIntS_ev r.1 r.1 (by omega)) (Ev.ifT (by simp) ?_))))
  refine Ev.step (fun k => laws_FnExactEndsOf.j0.eq_2 ..) (Ev.ifF (by simp) (Ev.bind (markIntS_ev r.1 (by omega)) (Ev.bind (heldIntS_ev r.1 (by omega)) (Ev.ifF (by omega) (Ev.ifT rfl (Ev.bind h2 (Ev.bind (eqIntS_ev r.1 r.1 (by omega)) (Ev.ifT (by simp) ?_))))))))
  exact Ev.step (fun k => laws_FnExactEndsOf.j1.eq_2 ..) (Ev.ifF (by simp) (Ev.bind (heldIntS_ev r.1 (by omega)) (Ev.ifF (by omega) (Ev.ifT rfl (Ev.now _)))))

end Go.Proofs.YtjoflkeiaoellaaDoor.Pure

namespace Go.Proofs.YtjoflkeiaoellaaDoor.fnExactEndsOf
open Go.ChangeShapes Go.WideShapes Go.ChangeAt Go.RowKit
open Go.ChangeMaps (open_string shut_string)
set_option linter.unusedVariables false
def laidL : List (String × DataW Unit) := [("unicode/utf8.acceptRanges", Rows.laid_unicode_utf8_acceptRanges), ("unicode/utf8.first", Rows.laid_unicode_utf8_first)]
theorem own : ownKnob Tryd.prog.godebug = none := by kernel_rfl
set_option maxRecDepth 100000 in
theorem lifted (os : Os) (started : os.Started) (H : Type) (enc : TypeId × Value → H) :
    ReturnsInHanded {} Tryd.checked os 6 .any (fun w args => (Rows.fnExactEndsOfSpec.pre enc Tryd.prog Tryd.f6 [] false w args ∧ laidMetH Tryd.prog laidL w) ∧ sizedMet enc Tryd.prog Tryd.f6 (OpenSpec.ofChange Rows.fnExactEndsOfSpec) false w args) (Rows.fnExactEndsOfSpec.post enc Tryd.prog Tryd.f6 false true false false) := by
  refine returnsInHanded_of_change_and (C := Tryd.checked) (X := fun w _ => laidMetH Tryd.prog laidL w) (fun _ _ _ hh h => h.of_heap hh) own started (by kernel_rfl) Tryd.func6
    (ChangeSpec.witness_shaped (enc := enc) (C := Tryd.checked) (os := os) (X := fun w _ => laidMetH Tryd.prog laidL w) false (World.laidAll Tryd.prog os laidL) #[.string ByteArray.empty] 8 (World.laidAll_os _ _ _) (World.shaped_of_ZipB (by kernel_rfl) (by kernel_rfl)) (by kernel_rfl) (by kernel_rfl) (by kernel_rfl)
      (by rw [MakeChecks.laidMetH_plain _ _ _ (by kernel_rfl)]; exact laidMet_laidAll _ (by kernel_rfl) (by kernel_rfl))) ?_
  intro W base args ds gs before hval0 hW hcnd hsz0 hL_ _
  have hsz : (DataW.weightsEach Tryd.prog (Tryd.f6.params.toList ++ Rows.fnExactEndsOfSpec.plain.varTypes Tryd.prog) (ds ++ gs)).all (· ≤ reachBytes) = true := hsz0
  have hval : ∀ (j : Nat) t v, Tryd.f6.params[j]? = some t → args[j]? = some v → Value.okWide Tryd.prog W .any base t v := hval0
  have hW' := hW
  obtain ⟨p, q, hA0, hV, rfl, hfz, hnd⟩ := hW
  have hA : DataW.TrodAll enc Tryd.prog W 0 (fun _ => true) true Tryd.f6.params.toList args.toList ds p := hA0
  rw [Tryd.params6] at hA hval hsz
  obtain ⟨v0, vs0, d0, ds0, p0, q0, hargs, rfl, rfl, h0, r0⟩ := trodAll_cons hA
  obtain ⟨rfl, rfl, rfl⟩ := trodAll_nil r0
  obtain rfl : args = #[v0] := by cases args; simp_all
  obtain ⟨rfl, rfl⟩ := trodVars_none hV
  obtain ⟨a0, rfl, rfl, rfl, y0⟩ := open_string Tryd.underlying9 (hval 0 9 v0 rfl rfl) h0
  have w0 : a0.size ≤ 140737488351232 := by
    have z := sized_string hsz (j := 0) (t := 9) rfl rfl
    rw [Array.length_toList] at z
    exact z
  clear hA0 hval0 hsz0 hsz
  refine (P.laws_FnExactEndsOf.walk Pure.FnExactEndsOf a0 W w0).mono fun e W' ⟨he, bel⟩ => ?_
  subst he
  exact ⟨_, rfl, _, _, _, [], _, [], hW', trodAll_mk1 (shut_bool Tryd.underlying4 _), (trodAll_cons_mk (shut_string Tryd.underlying9 y0) trodAll_mk0), rfl, bel.frame _, fun h => by cases h⟩
theorem over : Rows.fnExactEndsOfRow.holds Tryd.pinned (OpenSpec.ofChange Rows.fnExactEndsOfSpec) :=
  OpenClaim.holds_of_wide 6 Tryd.f6 rfl rfl rfl rfl rfl rfl rfl ⟨rfl, rfl, rfl, rfl, rfl⟩ rfl rfl rfl rfl rfl (by kernel_rfl) Tryd.func6 (by kernel_rfl)
    (of_decide_eq_true (by kernel_rfl)) (by unfold Func.isWrapper; first | (rw [if_pos (by decide +kernel)]; kernel_rfl) | (rw [if_neg (by decide +kernel)]; exact ⟨rfl, rfl⟩))
    (fun os started H enc _ => lifted os started H enc)
theorem proved : Rows.FnExactEndsOfSaid := over
end Go.Proofs.YtjoflkeiaoellaaDoor.fnExactEndsOf
namespace Go.Proofs.YtjoflkeiaoellaaDoor
/-- The row, under a short name, for the claim. -/
theorem fnExactEndsOf_holds : Rows.FnExactEndsOfSaid := fnExactEndsOf.proved
/-- The tied card. -/
theorem fnExactEndsOf_card : Rows.FnExactEndsOfCardSaid :=
  Claim7.holds_tied_plain_at .later [] [.data, .pinned] true (true, "4c712bdf3fc11f60ce056c4cea36d3085b06d6f32e50bfd925e90d7580ae0c2a") false
    fnExactEndsOf_holds (fun _ h => by cases h) (by kernel_rfl) (fun _ h => by cases h) fnExactEndsOf_row_tie rfl ⟨rfl, rfl⟩ (by kernel_rfl) rfl
    (fun f fn hf hfn => by
      obtain rfl : f = 6 := Option.some.inj ((show Tryd.prog.funcNamed "loop.example/g01243/laws.FnExactEndsOf" = some 6 by kernel_rfl).symm.trans hf) |>.symm
      obtain rfl : fn = Tryd.f6 := (Option.some.inj (Tryd.func6.symm.trans hfn)).symm
      exact ⟨by kernel_rfl, fun j t ht => by
        rw [Tryd.params6] at ht
        have hm : t ∈ [9] := by simpa using Array.mem_of_getElem? ht
        have hall : ([9].all fun u => !Tryd.prog.wantsStandIn u) = true := by kernel_rfl
        exact (show Tryd.prog.wantsStandIn t = false by simpa using List.all_eq_true.1 hall t hm)⟩)
    (by kernel_rfl)
end Go.Proofs.YtjoflkeiaoellaaDoor
