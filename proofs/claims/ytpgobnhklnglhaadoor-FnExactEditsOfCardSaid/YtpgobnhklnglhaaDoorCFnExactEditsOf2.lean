/-
  Part 3 of the proof that FnExactEditsOf returns true for every input: the functions that it reaches, each with its contract, and the law.
  Conditions: those of the given statement, no others.
-/
import Derived.Test.YtpgobnhklnglhaaDoorCFnExactEditsOfW0
import Derived.Lib.SlicesCompact
import Derived.Test.YtpgobnhklnglhaaDoorRows
import Derived.WalkKit
import Derived.ProofKit
import Derived.OpenShut
import Derived.ShutString
import Derived.ChangeOld
import Derived.Below
import Derived.SizedLaws
import Derived.Lay
import Derived.LaidOnce
import Derived.SevenTiedAt
import Derived.Test.YtpgobnhklnglhaaDoorCards
import Derived.Test.YtpgobnhklnglhaaDoorTie
import Derived.Test.YtpgobnhklnglhaaDoorCFnExactEditsOf0
import Derived.Test.YtpgobnhklnglhaaDoorCFnExactEditsOf1
set_option linter.unusedVariables false
set_option linter.unusedSimpArgs false
namespace Go.Proofs.YtpgobnhklnglhaaDoor.P
open Go.RowKit Go.Proofs.YtpgobnhklnglhaaDoorW.PrintWords Go.Proofs.YtpgobnhklnglhaaDoorW.PrintLast Go.Proofs.YtpgobnhklnglhaaDoorW.PrintMore
attribute [local go_sem] max2_int min2_int max_two min_two max_three min_three max_four min_four
set_option linter.unusedVariables false
set_option linter.unusedSimpArgs false
mutual
def spec_l2Of.l0 : Nat → List ByteArray → List ByteArray → Int → Option ((List (S70)))
 | 0, _, _, _ => none
 | k + 1, x0, x3, x4 => if x4 < (x0.length : Int) then (spec_l2Of.l1 k x0 x3 x4 1) else (spec_l2Of.l2 k x0 x3 0 (([] : List (S70))))
def spec_l2Of.l1 : Nat → List ByteArray → List ByteArray → Int → Int → Option ((List (S70)))
 | 0, _, _, _, _ => none
 | k + 1, x0, x3, x4, x5 => if 0 ≤ x4 then (if x4 < (x0.length : Int) then (if x5 ≤ ((rdOf ByteArray.empty x0 x4).size : Int) then (if 0 ≤ x5 then ((spec_l2Put.f x3 ((rdOf ByteArray.empty x0 x4).extract 0 (x5 : Int).toNat)).bind fun t183 => (spec_l2Of.l1 k x0 t183 x4 (wrap64 (x5 + 1)))) else (none)) else (spec_l2Of.l0 k x0 x3 (wrap64 (x4 + 1)))) else (none)) else (none)
def spec_l2Of.l2 : Nat → List ByteArray → List ByteArray → Int → List (S70) → Option ((List (S70)))
 | 0, _, _, _, _ => none
 | k + 1, x0, x3, x7, x190000 => if x7 < (x3.length : Int) then (if 0 ≤ x7 then ((spec_l2Has.f k x0 (rdOf ByteArray.empty x3 x7)).bind fun t191 => (if x7 > 0 then (if 0 ≤ (wrap64 (((rdOf ByteArray.empty x3 x7).size : Int) - 1)) then (if (wrap64 (((rdOf ByteArray.empty x3 x7).size : Int) - 1)) < ((rdOf ByteArray.empty x3 x7).size : Int) then (if (wrap64 (((rdOf ByteArray.empty x3 x7).size : Int) - 1)) ≤ ((rdOf ByteArray.empty x3 x7).size : Int) then ((spec_l2Place.f k x3 ((rdOf ByteArray.empty x3 x7).extract 0 ((wrap64 (((rdOf ByteArray.empty x3 x7).size : Int) - 1)) : Int).toNat)).bind fun t193 => (if x190000.length < 5864062014805 then (spec_l2Of.l2 k x0 x3 (wrap64 (x7 + 1)) (x190000 ++ [(⟨((bt (rdOf ByteArray.empty x3 x7) (wrap64 (((rdOf ByteArray.empty x3 x7).size : Int) - 1))) - 97) % 256, t193, t191⟩ : S70)])) else (none))) else (none)) else (none)) else (none)) else (if x190000.length < 5864062014805 then (spec_l2Of.l2 k x0 x3 (wrap64 (x7 + 1)) (x190000 ++ [(⟨(-1), (-1), t191⟩ : S70)])) else (none)))) else (none)) else (some x190000)
end
def spec_l2Of.f (k : Nat) (l0 : List ByteArray) : Option ((List (S70))) := spec_l2Of.l0 k l0 (([(⟨#[]⟩ : ByteArray)] : List ByteArray)) 0
theorem spec_l2Of.mono_l : ∀ k, (∀ y0 y1 y2, LeO (spec_l2Of.l0 k y0 y1 y2) (spec_l2Of.l0 (k + 1) y0 y1 y2)) ∧ (∀ y0 y1 y2 y3, LeO (spec_l2Of.l1 k y0 y1 y2 y3) (spec_l2Of.l1 (k + 1) y0 y1 y2 y3)) ∧ (∀ y0 y1 y2 y3, LeO (spec_l2Of.l2 k y0 y1 y2 y3) (spec_l2Of.l2 (k + 1) y0 y1 y2 y3))
 | 0 => ⟨fun _ _ _ r h => by simp [spec_l2Of.l0] at h, fun _ _ _ _ r h => by simp [spec_l2Of.l1] at h, fun _ _ _ _ r h => by simp [spec_l2Of.l2] at h⟩
 | k + 1 => by
  obtain ⟨ih0, ih1, ih2⟩ := spec_l2Of.mono_l k
  refine ⟨?_, ?_, ?_⟩
  ·
   intro y0 y1 y2
   unfold spec_l2Of.l0
   repeat' first
   | (with_reducible exact ih0 _ _ _)
   | (with_reducible exact ih1 _ _ _ _)
   | (with_reducible exact ih2 _ _ _ _)
   | (with_reducible exact spec_l2Has.mono _ _ _)
   | (with_reducible exact spec_l2Place.mono _ _ _)
   | (with_reducible exact LeO.refl _)
   | (with_reducible exact LeO.none _)
   | (with_reducible refine LeO.ite ?_ ?_)
   | (with_reducible refine LeO.bind ?_ (fun _ => ?_))
   | exact ih0 _ _ _
   | exact ih1 _ _ _ _
   | exact ih2 _ _ _ _
   | exact spec_l2Has.mono _ _ _
   | exact spec_l2Place.mono _ _ _
   | exact LeO.none _
   | refine LeO.ite ?_ ?_
   | refine LeO.bind ?_ (fun _ => ?_)
  ·
   intro y0 y1 y2 y3
   unfold spec_l2Of.l1
   repeat' first
   | (with_reducible exact ih0 _ _ _)
   | (with_reducible exact ih1 _ _ _ _)
   | (with_reducible exact ih2 _ _ _ _)
   | (with_reducible exact spec_l2Has.mono _ _ _)
   | (with_reducible exact spec_l2Place.mono _ _ _)
   | (with_reducible exact LeO.refl _)
   | (with_reducible exact LeO.none _)
   | (with_reducible refine LeO.ite ?_ ?_)
   | (with_reducible refine LeO.bind ?_ (fun _ => ?_))
   | exact ih0 _ _ _
   | exact ih1 _ _ _ _
   | exact ih2 _ _ _ _
   | exact spec_l2Has.mono _ _ _
   | exact spec_l2Place.mono _ _ _
   | exact LeO.none _
   | refine LeO.ite ?_ ?_
   | refine LeO.bind ?_ (fun _ => ?_)
  ·
   intro y0 y1 y2 y3
   unfold spec_l2Of.l2
   repeat' first
   | (with_reducible exact ih0 _ _ _)
   | (with_reducible exact ih1 _ _ _ _)
   | (with_reducible exact ih2 _ _ _ _)
   | (with_reducible exact spec_l2Has.mono _ _ _)
   | (with_reducible exact spec_l2Place.mono _ _ _)
   | (with_reducible exact LeO.refl _)
   | (with_reducible exact LeO.none _)
   | (with_reducible refine LeO.ite ?_ ?_)
   | (with_reducible refine LeO.bind ?_ (fun _ => ?_))
   | exact ih0 _ _ _
   | exact ih1 _ _ _ _
   | exact ih2 _ _ _ _
   | exact spec_l2Has.mono _ _ _
   | exact spec_l2Place.mono _ _ _
   | exact LeO.none _
   | refine LeO.ite ?_ ?_
   | refine LeO.bind ?_ (fun _ => ?_)
theorem spec_l2Of.mono : ∀ a0 k, LeO (spec_l2Of.f k a0) (spec_l2Of.f (k + 1) a0) := by
 intro a0 k
 obtain ⟨ih0, ih1, ih2⟩ := spec_l2Of.mono_l k
 unfold spec_l2Of.f
 repeat' first
   | (with_reducible exact ih0 _ _ _)
   | (with_reducible exact ih1 _ _ _ _)
   | (with_reducible exact ih2 _ _ _ _)
   | (with_reducible exact spec_l2Has.mono _ _ _)
   | (with_reducible exact spec_l2Place.mono _ _ _)
   | (with_reducible exact LeO.refl _)
   | (with_reducible exact LeO.none _)
   | (with_reducible refine LeO.ite ?_ ?_)
   | (with_reducible refine LeO.bind ?_ (fun _ => ?_))
   | exact ih0 _ _ _
   | exact ih1 _ _ _ _
   | exact ih2 _ _ _ _
   | exact spec_l2Has.mono _ _ _
   | exact spec_l2Place.mono _ _ _
   | exact LeO.none _
   | refine LeO.ite ?_ ?_
   | refine LeO.bind ?_ (fun _ => ?_)
set_option maxHeartbeats 8000000 in
set_option maxRecDepth 100000 in
theorem spec_l2Of.calls (k : Nat) (A0 : Option Addr) (c0 : Nat) (l0 : List ByteArray) (r : List (S70)) (w : World) (hr0 : Kd.C Kd.string w A0 l0.length l0) (hc0 : l0.length ≤ c0) (h : spec_l2Of.f k l0 = some r) :
  Calls Tryd.prog 32 #[.slice A0 l0.length c0] w fun e w' => ∃ v0_ : Value, e = .returned (.agg #[v0_]) ∧ Kd.R k70 70 w' w.heap.size (fun _ => True) v0_ r ∧ Below w.heap.size w w' := by
 have hu27 := Tryd.underlying27
 have hu70 := Tryd.underlying70
 have HR0 := Aside0.mk hr0
 have HC0 := Aside0.mk hc0
 clear hr0 hc0
 have HB := Aside0.mk (Below.refl w.heap.size w)
 have H : (spec_l2Of.l0 k l0 (([(⟨#[]⟩ : ByteArray)] : List ByteArray)) 0) = some r := h
 clear h
 obtain ⟨y178, hy178⟩ : ∃ y_ : List ByteArray, y_ = (([(⟨#[]⟩ : ByteArray)] : List ByteArray)) := ⟨_, rfl⟩
 replace H : (spec_l2Of.l0 k l0 y178 0) = some r := by first | (rw [hy178]; with_reducible exact H) | (have H2_ := (Option.bind_some _ _).symm.trans H; rw [hy178]; with_reducible exact H2_) | (have H2_ := (Option.bind_some _ _).symm.trans H; with_reducible exact H2_) | with_reducible exact H | (rw [hy178]; exact H) | exact H
 have Ny178 := Aside0.mk hy178
 clear hy178
 have H' := Aside0.mk H
 clear H
 go_enter Tryd.func32, Tryd.ntmps32
 go_wp2_with (first | ((with_reducible refine gate_dst (N := 2) rfl ?_); refine box_event ?hg (N := 2) ?hd (cs := #[.slice none 0 0]) (t := 27) ?hr ?_; (case hd => rfl); (case hg => rfl); (case hr => first | (go_simp; done) | (go_simp; rfl)); intro gb177 hg w2 hbox hb; have n0_ := Aside0.mk (below_step (by repeat (first | (with_reducible first | exact HB.out | apply below_alloc | apply pw_below_drewN | apply below_drew1) | exact HB.out)) hb); have n1_ := Aside0.mk (hbox); have n2_ := Aside0.mk ((by rw [hg]; exact (below_size (by repeat (first | (with_reducible first | exact HB.out | apply below_alloc | apply pw_below_drewN | apply below_drew1) | exact HB.out))) : w.heap.size ≤ gb177)); have n3_ := Aside0.mk ((by rw [hg]; exact (below_size (by repeat (first | (with_reducible first | exact HB.out | apply below_alloc | apply pw_below_drewN | apply below_drew1) | exact HB.out))) : w.heap.size ≤ gb177)); clear HB; have HB := n0_; have BK177 := n1_; have GW177 := n2_; have GE177 := n3_; clear n0_ n1_ n2_ n3_; clear hb hbox hg) | ((with_reducible refine gate_dst (N := 10) rfl ?_); refine Kd.R_lit Kd.string _ 9 ?hg (N := 10) ?hd (xs := ([(⟨#[]⟩ : ByteArray)] : List ByteArray)) (inner := [.string (⟨#[]⟩ : ByteArray)]) (ok := fun _ => True) (okp := fun _ => True) ?hr ?hp (fun _ hk => hk) trivial (Below.refl _ _) (Nat.le_refl _) (by simp) ?_; (case hd => rfl); (case hg => rfl); (case hr => first | (go_simp; done) | (go_simp; rfl)); (case hp => exact (Reps.one (show Kd.M Kd.string _ _ _ (⟨#[]⟩ : ByteArray) [.string (⟨#[]⟩ : ByteArray)] from rfl) (Reps.none _ _))); intro v179 w3 ho4 hb hg_ hnew_; clear hg_ hnew_; (first | rw [← Ny178.out] at ho4 | (simp only [Int.reduceToNat] at ho4; rw [← Ny178.out] at ho4)); have n0_ := Aside0.mk (Kd.R_lower ho4 (below_size (by repeat (first | (with_reducible first | exact HB.out | apply below_alloc | apply pw_below_drewN | apply below_drew1 | refine below_set ?_ GE177.out) | exact HB.out)))); have n1_ := Aside0.mk (blk_below (g := gb177) (o := .cells #[.slice none 0 0] 27 (0, 0)) (by (with_reducible repeat (first | refine blk_drewN ?_ _ | refine blk_drew ?_ | refine blk_alloc ?_ _)); exact BK177.out) hb); have n2_ := Aside0.mk (below_step (by repeat (first | (with_reducible first | exact HB.out | apply below_alloc | apply pw_below_drewN | apply below_drew1 | refine below_set ?_ GE177.out) | exact HB.out)) hb); clear BK177; clear HB; have HO180 := n0_; have BK177 := n1_; have HB := n2_; clear n0_ n1_ n2_; clear hb ho4))
 go_loopg [3, 4] k (fun kq v3 v4 w' => ∃ (x3_1 : List ByteArray) (x4_1 : Int), v4 = .int .i64 x4_1 ∧ Aside0 (spec_l2Of.l0 kq l0 x3_1 x4_1 = some r) ∧ Aside0 (kq ≤ k) ∧ Aside0 (Kd.R Kd.string 9 w' w.heap.size (fun _ => True) v3 x3_1) ∧ Aside0 (w'.heap[gb177]? = some (.cells #[(.slice none 0 0)] 27 (0, 0))) ∧ Aside0 (Below w.heap.size w w'))
 case atStart => exact ⟨(y178), (0), (by first | rfl | (simp; done) | (simp [*]; done)), H', ⟨Nat.le_refl _⟩, ⟨by (with_reducible repeat (first | apply Kd.R_alloc | apply Kd.R_drewN | apply Kd.R_drew)); exact HO180.out⟩, ⟨by (with_reducible repeat (first | refine blk_drewN ?_ _ | refine blk_drew ?_ | refine blk_alloc ?_ _)); exact BK177.out⟩, ⟨by repeat (first | (with_reducible first | exact HB.out | apply below_alloc | apply pw_below_drewN | apply below_drew1 | refine below_set ?_ GE177.out) | exact HB.out)⟩⟩
 case round =>
  clear H'
  try clear p2
  try clear c3
  obtain ⟨x3_1, x4_1, rfl, HA, HK1, HO_3, BK177, HB⟩ := hrel
  cases gk with
  | zero => exact absurd HA.out (by simp [spec_l2Of.l0])
  | succ k1 =>
   have H := HA.out
   clear HA
   simp only [spec_l2Of.l0] at H
   by_cases c5 : x4_1 < (l0.length : Int)
   ·
    rw [if_pos c5] at H
    have c5b0 : decide (x4_1 < (l0.length : Int)) = true := decide_eq_true c5
    clear c5
    have H' := Aside0.mk H
    clear H
    go_wp2
    go_loopg [3, 5] k1 (fun kq v3 v5 w' => ∃ (x3_2 : List ByteArray) (x5_2 : Int), v5 = .int .i64 x5_2 ∧ Aside0 (spec_l2Of.l1 kq l0 x3_2 x4_1 x5_2 = some r) ∧ Aside0 (kq ≤ k1) ∧ Aside0 (Kd.R Kd.string 9 w' w.heap.size (fun _ => True) v3 x3_2) ∧ Aside0 (w'.heap[gb177]? = some (.cells #[(.slice none 0 0)] 27 (0, 0))) ∧ Aside0 (Below w.heap.size w w'))
    case atStart => exact ⟨(x3_1), (1), (by first | rfl | (simp; done) | (simp [*]; done)), H', ⟨Nat.le_refl _⟩, ⟨by (with_reducible repeat (first | apply Kd.R_alloc | apply Kd.R_drewN | apply Kd.R_drew)); exact HO_3.out⟩, ⟨by (with_reducible repeat (first | refine blk_drewN ?_ _ | refine blk_drew ?_ | refine blk_alloc ?_ _)); exact BK177.out⟩, ⟨by repeat (first | (with_reducible first | exact HB.out | apply below_alloc | apply pw_below_drewN | apply below_drew1 | refine below_set ?_ GE177.out) | exact HB.out)⟩⟩
    case round =>
     clear H'
     try clear p2
     try clear c3
     try clear c5
     try clear c5b0
     try clear p2
     obtain ⟨x3_2, x5_2, rfl, HA, HK2, HO_3, BK177, HB⟩ := hrel
     cases gk with
     | zero => exact absurd HA.out (by simp [spec_l2Of.l1])
     | succ k2 =>
      have H := HA.out
      clear HA
      simp only [spec_l2Of.l1] at H
      by_cases c6 : 0 ≤ x4_1
      ·
       rw [if_pos c6] at H
       have c6b0 : decide (0 ≤ x4_1) = true := decide_eq_true c6
       clear c6
       by_cases c7 : x4_1 < (l0.length : Int)
       ·
        rw [if_pos c7] at H
        have c7b0 : decide (x4_1 < (l0.length : Int)) = true := decide_eq_true c7
        clear c7
        by_cases c8 : x5_2 ≤ ((rdOf ByteArray.empty l0 x4_1).size : Int)
        ·
         rw [if_pos c8] at H
         have c8b0 : decide (x5_2 ≤ ((rdOf ByteArray.empty l0 x4_1).size : Int)) = true := decide_eq_true c8
         clear c8
         by_cases c9 : 0 ≤ x5_2
         ·
          rw [if_pos c9] at H
          have c9b0 := eq_true c9
          have c9b1 : decide (0 ≤ x5_2) = true := decide_eq_true c9
          clear c9
          have c10b0 := eq_true (of_decide_eq_true (by first | (with_reducible assumption) | assumption) : x5_2 ≤ ((rdOf ByteArray.empty l0 x4_1).size : Int))
          replace H := Option.bind_eq_some_iff.mp H
          obtain ⟨t183, A110, H⟩ := H
          replace H : (spec_l2Of.l1 k2 l0 t183 x4_1 (wrap64 (x5_2 + 1))) = some r := H
          have A11 := Aside0.mk A110
          clear A110
          have H' := Aside0.mk H
          clear H
          have p181 : 0 ≤ (x4_1 : Int) := of_decide_eq_true (by first | (with_reducible assumption) | assumption)
          have q181 : x4_1 < (l0.length : Int) := of_decide_eq_true (by first | (with_reducible assumption) | assumption)
          obtain ⟨ad181, e181, hx181_0⟩ := Kd.at_string HR0.out x4_1 p181 q181
          cases e181
          replace hx181_0 := (HB.out.cell (World.block_lt_of_cell? w _ hx181_0)).trans hx181_0
          replace p181 := eq_true p181
          replace q181 := eq_true q181
          have p182 : 0 ≤ (x4_1 : Int) := of_decide_eq_true (by first | (with_reducible assumption) | assumption)
          have q182 : x4_1 < (l0.length : Int) := of_decide_eq_true (by first | (with_reducible assumption) | assumption)
          obtain ⟨ad182, e182, hx182_0⟩ := Kd.at_string HR0.out x4_1 p182 q182
          obtain rfl : ad181 = ad182 := (by injection e182)
          replace hx182_0 := (HB.out.cell (World.block_lt_of_cell? w _ hx182_0)).trans hx182_0
          replace p182 := eq_true p182
          replace q182 := eq_true q182
          obtain ⟨Ao12, co12, eo12⟩ := Kd.R_slice HO_3.out
          subst eo12
          go_wp2_with (first | ((with_reducible refine gate_callee (f := 31) rfl ?_); refine goesL_ (some 33) rfl rfl Tryd.func31 (by kernel_rfl) rfl #[.slice Ao12 x3_2.length co12, .string ((rdOf ByteArray.empty l0 x4_1).extract 0 (x5_2 : Int).toNat)] rfl (by (try simp only [List.map_toArray, List.map_cons, List.map_nil]); first | done | rfl | (simp only [List.length_drop, List.length_take]; rfl)) ?_; (with_reducible refine (spec_l2Put.calls (fun k_ => some k_ = (.slice Ao12 x3_2.length co12 : Value).ownBlock) (.slice Ao12 x3_2.length co12) x3_2 ((rdOf ByteArray.empty l0 x4_1).extract 0 (x5_2 : Int).toNat) t183 w _ ?side1 ?side2 A11.out).mono ?_); (case side1 => repeat (first | (with_reducible first | exact HB.out | apply below_alloc | apply pw_below_drewN | apply below_drew1 | refine below_set ?_ GE177.out) | exact HB.out)); (case side2 => exact Kd.R_tight rfl HO_3.out); rintro e w13 ⟨v184, rfl, ho0, hb, hkp⟩; refine ⟨_, rfl, ?_⟩; have n0_ := Aside0.mk (blk_kept (by (with_reducible repeat (first | refine blk_drewN ?_ _ | refine blk_drew ?_ | refine blk_alloc ?_ _)); exact BK177.out) hkp (fun hs_ => (fun e_ => (Kd.R_ne HO_3.out BK177.out (by decide)) e_) hs_)); have n1_ := Aside0.mk (Kd.R_mono (ok' := fun k_ => True) ho0 (fun k_ hk_ => trivial)); have n2_ := Aside0.mk (hb); clear BK177; clear HB; clear HO_3; have BK177 := n0_; have HO185 := n1_; have HB := n2_; clear n0_ n1_ n2_; (try clear hb); (try clear hkp); (try clear ho0)))
          go_roundg k2
          case measure => have := HK1.out; have := HK2.out; omega
          case rel => exact ⟨(t183), (wrap64 (x5_2 + 1)), (by first | rfl | (simp; done) | (simp [*]; done)), H', ⟨by have := HK1.out; have := HK2.out; omega⟩, ⟨by (with_reducible repeat (first | apply Kd.R_alloc | apply Kd.R_drewN | apply Kd.R_drew)); exact HO185.out⟩, ⟨by (with_reducible repeat (first | refine blk_drewN ?_ _ | refine blk_drew ?_ | refine blk_alloc ?_ _)); exact BK177.out⟩, ⟨by repeat (first | (with_reducible first | exact HB.out | apply below_alloc | apply pw_below_drewN | apply below_drew1 | refine below_set ?_ GE177.out) | exact HB.out)⟩⟩
         ·
          rw [if_neg c9] at H
          exact absurd H (by simp)
        ·
         rw [if_neg c8] at H
         have c8b0 : decide (x5_2 ≤ ((rdOf ByteArray.empty l0 x4_1).size : Int)) = false := decide_eq_false c8
         clear c8
         have H' := Aside0.mk H
         clear H
         have p181 : 0 ≤ (x4_1 : Int) := of_decide_eq_true (by first | (with_reducible assumption) | assumption)
         have q181 : x4_1 < (l0.length : Int) := of_decide_eq_true (by first | (with_reducible assumption) | assumption)
         obtain ⟨ad181, e181, hx181_0⟩ := Kd.at_string HR0.out x4_1 p181 q181
         cases e181
         replace hx181_0 := (HB.out.cell (World.block_lt_of_cell? w _ hx181_0)).trans hx181_0
         replace p181 := eq_true p181
         replace q181 := eq_true q181
         go_wp2
         go_roundg k2
         case measure => have := HK1.out; have := HK2.out; omega
         case rel => exact ⟨(x3_2), (wrap64 (x4_1 + 1)), (by first | rfl | (simp; done) | (simp [*]; done)), H', ⟨by have := HK1.out; have := HK2.out; omega⟩, ⟨by (with_reducible repeat (first | apply Kd.R_alloc | apply Kd.R_drewN | apply Kd.R_drew)); exact HO_3.out⟩, ⟨by (with_reducible repeat (first | refine blk_drewN ?_ _ | refine blk_drew ?_ | refine blk_alloc ?_ _)); exact BK177.out⟩, ⟨by repeat (first | (with_reducible first | exact HB.out | apply below_alloc | apply pw_below_drewN | apply below_drew1 | refine below_set ?_ GE177.out) | exact HB.out)⟩⟩
       ·
        rw [if_neg c7] at H
        exact absurd H (by simp)
      ·
       rw [if_neg c6] at H
       exact absurd H (by simp)
   ·
    rw [if_neg c5] at H
    have c5b0 : decide (x4_1 < (l0.length : Int)) = false := decide_eq_false c5
    clear c5
    obtain ⟨y186, hy186⟩ : ∃ y_ : List (S70), y_ = (([] : List (S70))) := ⟨_, rfl⟩
    replace H : (spec_l2Of.l2 k1 l0 x3_1 0 y186) = some r := by first | (rw [hy186]; with_reducible exact H) | (have H2_ := (Option.bind_some _ _).symm.trans H; rw [hy186]; with_reducible exact H2_) | (have H2_ := (Option.bind_some _ _).symm.trans H; with_reducible exact H2_) | with_reducible exact H | (rw [hy186]; exact H) | exact H
    have Ny186 := Aside0.mk hy186
    clear hy186
    have H' := Aside0.mk H
    clear H
    go_wp2_with (first | ((with_reducible refine gate_dst (N := 34) rfl ?_); refine Kd.R_lit k70 _ 70 ?hg (N := 34) ?hd (xs := ([] : List (S70))) (inner := []) (ok := fun _ => True) (okp := fun _ => True) ?hr ?hp (fun _ hk => hk) trivial (Below.refl _ _) (Nat.le_refl _) (by simp) ?_; (case hd => rfl); (case hg => rfl); (case hr => first | (go_simp; done) | (go_simp; rfl)); (case hp => exact (Reps.none _ _)); intro v187 w14 ho15 hb hg_ hnew_; clear hg_ hnew_; (first | rw [← Ny186.out] at ho15 | (simp only [Int.reduceToNat] at ho15; rw [← Ny186.out] at ho15)); have n0_ := Aside0.mk (Kd.R_below (by (with_reducible repeat (first | apply Kd.R_alloc | apply Kd.R_drewN | apply Kd.R_drew)); exact HO_3.out) hb); have n1_ := Aside0.mk (Kd.R_lower ho15 (below_size (by repeat (first | (with_reducible first | exact HB.out | apply below_alloc | apply pw_below_drewN | apply below_drew1 | refine below_set ?_ GE177.out) | exact HB.out)))); have n2_ := Aside0.mk (blk_below (g := gb177) (o := .cells #[.slice none 0 0] 27 (0, 0)) (by (with_reducible repeat (first | refine blk_drewN ?_ _ | refine blk_drew ?_ | refine blk_alloc ?_ _)); exact BK177.out) hb); have n3_ := Aside0.mk (below_step (by repeat (first | (with_reducible first | exact HB.out | apply below_alloc | apply pw_below_drewN | apply below_drew1 | refine below_set ?_ GE177.out) | exact HB.out)) hb); clear HO_3; clear BK177; clear HB; have HO_3 := n0_; have HO188 := n1_; have BK177 := n2_; have HB := n3_; clear n0_ n1_ n2_ n3_; clear hb ho15; obtain ⟨Ao16, co16, eo16⟩ := Kd.R_slice HO188.out; subst eo16) | ((with_reducible refine gate_dst (N := 6) rfl ?_); refine box_event ?hg (N := 6) ?hd (cs := #[.slice none 0 0]) (t := 27) ?hr ?_; (case hd => rfl); (case hg => rfl); (case hr => first | (go_simp; done) | (go_simp; rfl)); intro gb189 hg w17 hbox hb; have n0_ := Aside0.mk (Kd.R_below (by (with_reducible repeat (first | apply Kd.R_alloc | apply Kd.R_drewN | apply Kd.R_drew)); exact HO_3.out) hb); have n1_ := Aside0.mk (Kd.R_below (by (with_reducible repeat (first | apply Kd.R_alloc | apply Kd.R_drewN | apply Kd.R_drew)); exact HO188.out) hb); have n2_ := Aside0.mk (blk_below (g := gb177) (o := .cells #[.slice none 0 0] 27 (0, 0)) (by (with_reducible repeat (first | refine blk_drewN ?_ _ | refine blk_drew ?_ | refine blk_alloc ?_ _)); exact BK177.out) hb); have n3_ := Aside0.mk (below_step (by repeat (first | (with_reducible first | exact HB.out | apply below_alloc | apply pw_below_drewN | apply below_drew1 | refine below_set ?_ GE177.out) | exact HB.out)) hb); have n4_ := Aside0.mk (hbox); have n5_ := Aside0.mk ((by rw [hg]; exact (below_size (by repeat (first | (with_reducible first | exact HB.out | apply below_alloc | apply pw_below_drewN | apply below_drew1 | refine below_set ?_ GE177.out) | exact HB.out))) : w.heap.size ≤ gb189)); have n6_ := Aside0.mk ((by rw [hg]; exact (below_size (by repeat (first | (with_reducible first | exact HB.out | apply below_alloc | apply pw_below_drewN | apply below_drew1 | refine below_set ?_ GE177.out) | exact HB.out))) : w.heap.size ≤ gb189)); have n7_ := Aside0.mk ((by rw [hg]; exact Nat.ne_of_lt (blk_lt (g := gb177) (o := .cells #[.slice none 0 0] 27 (0, 0)) (by (with_reducible repeat (first | refine blk_drewN ?_ _ | refine blk_drew ?_ | refine blk_alloc ?_ _)); exact BK177.out)) : gb177 ≠ gb189)); have n8_ := Aside0.mk ((by rw [hg]; exact Nat.ne_of_gt (blk_lt (g := gb177) (o := .cells #[.slice none 0 0] 27 (0, 0)) (by (with_reducible repeat (first | refine blk_drewN ?_ _ | refine blk_drew ?_ | refine blk_alloc ?_ _)); exact BK177.out)) : gb189 ≠ gb177)); clear HO_3; clear HO188; clear BK177; clear HB; have HO_3 := n0_; have HO188 := n1_; have BK177 := n2_; have HB := n3_; have BK189 := n4_; have GW189 := n5_; have GE189 := n6_; have NB177_189 := n7_; have NB189_177 := n8_; clear n0_ n1_ n2_ n3_ n4_ n5_ n6_ n7_ n8_; clear hb hbox hg; have hnb18 := NB189_177.out; have hnc18 := NB177_189.out; have hcz19_0 : w17.cell? ⟨gb189, 0, none⟩ = some (.slice none 0 0) := (blk_cell BK189.out 0).trans rfl; have hfz19_0 := blk_frozen BK189.out 0))
    go_loopg [7] k1 (fun kq v7 w' => ∃ (x7_2 : Int) (x190000_2 : List (S70)) (u190000 : Value), v7 = .int .i64 x7_2 ∧ Aside0 (spec_l2Of.l2 kq l0 x3_1 x7_2 x190000_2 = some r) ∧ Aside0 (kq ≤ k1) ∧ Aside0 (Kd.R Kd.string 9 w' w.heap.size (fun _ => True) u3 x3_1) ∧ Aside0 (Kd.R k70 70 w' w.heap.size (fun _ => True) u190000 x190000_2) ∧ Aside0 (w'.heap[gb177]? = some (.cells #[(.slice none 0 0)] 27 (0, 0))) ∧ Aside0 (w'.heap[gb189]? = some (.cells #[u190000] 27 (0, 0))) ∧ Aside0 (Below w.heap.size w w'))
    case atStart => exact ⟨(0), (y186), (.slice Ao16 y186.length co16), (by first | rfl | (simp; done) | (simp [*]; done)), H', ⟨Nat.le_refl _⟩, ⟨by (with_reducible repeat (first | apply Kd.R_alloc | apply Kd.R_drewN | apply Kd.R_drew)); exact Kd.R_mono (Kd.R_far (p := ⟨gb189, 0, none⟩) (Kd.R_types HO_3.out BK189.out (by decide)) (fun _ hk => hk.2) (.slice Ao16 y186.length co16)) (fun _ hk => trivial)⟩, ⟨by (with_reducible repeat (first | apply Kd.R_alloc | apply Kd.R_drewN | apply Kd.R_drew)); exact Kd.R_mono (Kd.R_far (p := ⟨gb189, 0, none⟩) (Kd.R_types HO188.out BK189.out (by decide)) (fun _ hk => hk.2) (.slice Ao16 y186.length co16)) (fun _ hk => trivial)⟩, ⟨by (with_reducible repeat (first | refine blk_drewN ?_ _ | refine blk_drew ?_ | refine blk_alloc ?_ _)); refine blk_far ?_ NB177_189.out _; (with_reducible repeat (first | refine blk_drewN ?_ _ | refine blk_drew ?_ | refine blk_alloc ?_ _)); exact BK177.out⟩, ⟨by (with_reducible repeat (first | refine blk_drewN ?_ _ | refine blk_drew ?_ | refine blk_alloc ?_ _)); refine blk_put (cs := #[.slice none 0 0]) ?_ 0 _ rfl; (with_reducible repeat (first | refine blk_drewN ?_ _ | refine blk_drew ?_ | refine blk_alloc ?_ _)); exact BK189.out⟩, ⟨by repeat (first | (with_reducible first | exact HB.out | apply below_alloc | apply pw_below_drewN | apply below_drew1 | refine below_set ?_ GE177.out | refine below_set ?_ GE189.out) | exact HB.out)⟩⟩
    case round =>
     clear H'
     try clear c1
     try clear p1
     try clear q1
     try clear hx1
     try clear p2
     try clear c3
     try clear c5
     try clear c5b0
     try clear c6
     try clear c6b0
     try clear p6
     try clear c7
     try clear c7b0
     try clear c8
     try clear c8b0
     try clear c9
     try clear c9b0
     try clear c9b1
     try clear c10
     try clear c10b0
     try clear c18
     try clear p18
     try clear q18
     try clear hx18
     try clear hcz19_0
     try clear hfz19_0
     try clear hx181_0
     try clear hx182_0
     try clear p181
     try clear p182
     try clear p2
     try clear q181
     try clear q182
     obtain ⟨x7_2, x190000_2, u190000, rfl, HA, HK2, HO_3, HO_190000, BK177, BK189, HB⟩ := hrel
     cases gk with
     | zero => exact absurd HA.out (by simp [spec_l2Of.l2])
     | succ k2 =>
      have H := HA.out
      clear HA
      simp only [spec_l2Of.l2] at H
      by_cases c20 : x7_2 < (x3_1.length : Int)
      ·
       rw [if_pos c20] at H
       have c20b0 : decide (x7_2 < (x3_1.length : Int)) = true := decide_eq_true c20
       clear c20
       by_cases c21 : 0 ≤ x7_2
       ·
        rw [if_pos c21] at H
        have c21b0 : decide (0 ≤ x7_2) = true := decide_eq_true c21
        clear c21
        replace H := Option.bind_eq_some_iff.mp H
        obtain ⟨t191, A220, H⟩ := H
        replace H : (if x7_2 > 0 then (if 0 ≤ (wrap64 (((rdOf ByteArray.empty x3_1 x7_2).size : Int) - 1)) then (if (wrap64 (((rdOf ByteArray.empty x3_1 x7_2).size : Int) - 1)) < ((rdOf ByteArray.empty x3_1 x7_2).size : Int) then (if (wrap64 (((rdOf ByteArray.empty x3_1 x7_2).size : Int) - 1)) ≤ ((rdOf ByteArray.empty x3_1 x7_2).size : Int) then ((spec_l2Place.f k2 x3_1 ((rdOf ByteArray.empty x3_1 x7_2).extract 0 ((wrap64 (((rdOf ByteArray.empty x3_1 x7_2).size : Int) - 1)) : Int).toNat)).bind fun t193 => (if x190000_2.length < 5864062014805 then (spec_l2Of.l2 k2 l0 x3_1 (wrap64 (x7_2 + 1)) (x190000_2 ++ [(⟨((bt (rdOf ByteArray.empty x3_1 x7_2) (wrap64 (((rdOf ByteArray.empty x3_1 x7_2).size : Int) - 1))) - 97) % 256, t193, t191⟩ : S70)])) else (none))) else (none)) else (none)) else (none)) else (if x190000_2.length < 5864062014805 then (spec_l2Of.l2 k2 l0 x3_1 (wrap64 (x7_2 + 1)) (x190000_2 ++ [(⟨(-1), (-1), t191⟩ : S70)])) else (none))) = some r := H
        have A22 := Aside0.mk A220
        clear A220
        by_cases c23 : x7_2 > 0
        ·
         rw [if_pos c23] at H
         have c23b0 : decide (0 < x7_2) = true := decide_eq_true c23
         clear c23
         obtain ⟨ji24, hji24⟩ : ∃ j_ : Int, (wrap64 (((rdOf ByteArray.empty x3_1 x7_2).size : Int) - 1)) = j_ := ⟨_, rfl⟩
         replace H : (if 0 ≤ (ji24) then (if (ji24) < ((rdOf ByteArray.empty x3_1 x7_2).size : Int) then (if (ji24) ≤ ((rdOf ByteArray.empty x3_1 x7_2).size : Int) then ((spec_l2Place.f k2 x3_1 ((rdOf ByteArray.empty x3_1 x7_2).extract 0 ((ji24) : Int).toNat)).bind fun t193 => (if x190000_2.length < 5864062014805 then (spec_l2Of.l2 k2 l0 x3_1 (wrap64 (x7_2 + 1)) (x190000_2 ++ [(⟨((bt (rdOf ByteArray.empty x3_1 x7_2) (ji24)) - 97) % 256, t193, t191⟩ : S70)])) else (none))) else (none)) else (none)) else (none)) = some r := by first | (rw [hji24] at H; exact H) | (simp only [hji24] at H ⊢; exact H)
         (try rw [hji24] at A22)
         have hji24w : (IntKind.i64.wrap (((rdOf ByteArray.empty x3_1 x7_2).size : Int) - 1)) = ji24 := (i64_w _).trans hji24
         by_cases c25 : 0 ≤ (ji24)
         ·
          rw [if_pos c25] at H
          have c25b0 : decide (0 ≤ (ji24)) = true := decide_eq_true c25
          clear c25
          by_cases c26 : (ji24) < ((rdOf ByteArray.empty x3_1 x7_2).size : Int)
          ·
           rw [if_pos c26] at H
           have c26b0 : decide ((ji24) < ((rdOf ByteArray.empty x3_1 x7_2).size : Int)) = true := decide_eq_true c26
           clear c26
           have c28b0 := eq_true (of_decide_eq_true (by first | (with_reducible assumption) | assumption) : 0 ≤ (ji24))
           by_cases c29 : (ji24) ≤ ((rdOf ByteArray.empty x3_1 x7_2).size : Int)
           ·
            rw [if_pos c29] at H
            have c29b0 := eq_true c29
            have c29b1 : decide ((ji24) ≤ ((rdOf ByteArray.empty x3_1 x7_2).size : Int)) = true := decide_eq_true c29
            clear c29
            replace H := Option.bind_eq_some_iff.mp H
            obtain ⟨t193, A300, H⟩ := H
            replace H : (if x190000_2.length < 5864062014805 then (spec_l2Of.l2 k2 l0 x3_1 (wrap64 (x7_2 + 1)) (x190000_2 ++ [(⟨((bt (rdOf ByteArray.empty x3_1 x7_2) (ji24)) - 97) % 256, t193, t191⟩ : S70)])) else (none)) = some r := H
            have A30 := Aside0.mk A300
            clear A300
            by_cases c31 : x190000_2.length < 5864062014805
            ·
             rw [if_pos c31] at H
             have LMc31 := Aside0.mk c31
             clear c31
             obtain ⟨y194, hy194⟩ : ∃ y_ : List (S70), y_ = (x190000_2 ++ [(⟨((bt (rdOf ByteArray.empty x3_1 x7_2) (ji24)) - 97) % 256, t193, t191⟩ : S70)]) := ⟨_, rfl⟩
             replace H : (spec_l2Of.l2 k2 l0 x3_1 (wrap64 (x7_2 + 1)) y194) = some r := by first | (rw [hy194]; with_reducible exact H) | (have H2_ := (Option.bind_some _ _).symm.trans H; rw [hy194]; with_reducible exact H2_) | (have H2_ := (Option.bind_some _ _).symm.trans H; with_reducible exact H2_) | with_reducible exact H | (rw [hy194]; exact H) | exact H
             have Ny194 := Aside0.mk hy194
             clear hy194
             have H' := Aside0.mk H
             clear H
             obtain ⟨Ao32, co32, eo32⟩ := Kd.R_slice HO_3.out
             subst eo32
             have p190 : 0 ≤ (x7_2 : Int) := of_decide_eq_true (by first | (with_reducible assumption) | assumption)
             have q190 : x7_2 < (x3_1.length : Int) := of_decide_eq_true (by first | (with_reducible assumption) | assumption)
             obtain ⟨ad190, e190, hx190_0⟩ := Kd.at_string (Kd.R_reads' HO_3.out).2.2 x7_2 p190 q190
             cases e190
             replace p190 := eq_true p190
             replace q190 := eq_true q190
             go_wp2_with (first | ((with_reducible refine gate_callee (f := 60) rfl ?_); refine goesL_ (some 48) rfl rfl Tryd.func60 (by kernel_rfl) rfl #[.slice A0 l0.length c0, .string (rdOf ByteArray.empty x3_1 x7_2)] rfl (by (try simp only [List.map_toArray, List.map_cons, List.map_nil]); first | done | rfl | (simp only [List.length_drop, List.length_take]; rfl)) ?_; (with_reducible refine (spec_l2Has.calls k2 _ _ l0 (rdOf ByteArray.empty x3_1 x7_2) t191 _ ?side1 ?side2 A22.out).mono ?_); (case side1 => repeat (first | exact (Kd.C_below HR0.out HB.out) | (with_reducible refine Kd.C_alloc ?_ _) | (with_reducible refine Kd.C_drewN ?_ _) | (with_reducible refine Kd.C_drew ?_))); (case side2 => exact HC0.out); rintro e w' ⟨rfl, ⟨nd, rfl⟩⟩; refine ⟨_, rfl, ?_⟩; (try (rw [drewN_self wr]; generalize hq_ : World.drewN wr _ = wr; have n0_ : Aside0 (Kd.R k70 70 wr w.heap.size (fun _ => True) u190000 x190000_2) := ⟨by rw [← hq_]; exact (by (with_reducible repeat (first | apply Kd.R_alloc | apply Kd.R_drewN | apply Kd.R_drew)); exact HO_190000.out)⟩; have n1_ : Aside0 (Kd.R Kd.string 9 wr w.heap.size (fun _ => True) (.slice (some ad190) x3_1.length co32) x3_1) := ⟨by rw [← hq_]; exact (by (with_reducible repeat (first | apply Kd.R_alloc | apply Kd.R_drewN | apply Kd.R_drew)); exact HO_3.out)⟩; have n2_ : Aside0 (wr.heap[gb177]? = some (.cells #[.slice none 0 0] 27 (0, 0))) := ⟨by rw [← hq_]; exact (by (with_reducible repeat (first | refine blk_drewN ?_ _ | refine blk_drew ?_ | refine blk_alloc ?_ _)); exact BK177.out)⟩; have n3_ : Aside0 (wr.heap[gb189]? = some (.cells #[u190000] 27 (0, 0))) := ⟨by rw [← hq_]; exact (by (with_reducible repeat (first | refine blk_drewN ?_ _ | refine blk_drew ?_ | refine blk_alloc ?_ _)); exact BK189.out)⟩; have n4_ : Aside0 (Below w.heap.size w wr) := ⟨by rw [← hq_]; exact (by repeat (first | (with_reducible first | exact HB.out | apply below_alloc | apply pw_below_drewN | apply below_drew1 | refine below_set ?_ GE177.out | refine below_set ?_ GE189.out) | exact HB.out))⟩; clear HO_190000 HO_3 BK177 BK189 HB hq_; have HO_190000 := n0_; have HO_3 := n1_; have BK177 := n2_; have BK189 := n3_; have HB := n4_; clear n0_ n1_ n2_ n3_ n4_))) | ((with_reducible refine gate_dst (N := 9) rfl ?_); refine box_event ?hg (N := 9) ?hd (cs := #[.int .i64 0, .int .i64 0, .bool false]) (t := 70) ?hr ?_; (case hd => rfl); (case hg => rfl); (case hr => first | (go_simp; done) | (go_simp; rfl)); intro gb192 hg w33 hbox hb; have n0_ := Aside0.mk (Kd.R_below (by (with_reducible repeat (first | apply Kd.R_alloc | apply Kd.R_drewN | apply Kd.R_drew)); exact HO_3.out) hb); have n1_ := Aside0.mk (Kd.R_below (Kd.R_elderB (by (with_reducible repeat (first | apply Kd.R_alloc | apply Kd.R_drewN | apply Kd.R_drew)); exact HO_190000.out) gb192 (Nat.le_of_eq hg.symm)) hb); have n2_ := Aside0.mk (blk_below (g := gb177) (o := .cells #[.slice none 0 0] 27 (0, 0)) (by (with_reducible repeat (first | refine blk_drewN ?_ _ | refine blk_drew ?_ | refine blk_alloc ?_ _)); exact BK177.out) hb); have n3_ := Aside0.mk (blk_below (g := gb189) (o := .cells #[u190000] 27 (0, 0)) (by (with_reducible repeat (first | refine blk_drewN ?_ _ | refine blk_drew ?_ | refine blk_alloc ?_ _)); exact BK189.out) hb); have n4_ := Aside0.mk (below_step (by repeat (first | (with_reducible first | exact HB.out | apply below_alloc | apply pw_below_drewN | apply below_drew1 | refine below_set ?_ GE177.out | refine below_set ?_ GE189.out) | exact HB.out)) hb); have n5_ := Aside0.mk (hbox); have n6_ := Aside0.mk ((by rw [hg]; exact (below_size (by repeat (first | (with_reducible first | exact HB.out | apply below_alloc | apply pw_below_drewN | apply below_drew1 | refine below_set ?_ GE177.out | refine below_set ?_ GE189.out) | exact HB.out))) : w.heap.size ≤ gb192)); have n7_ := Aside0.mk ((by rw [hg]; exact (below_size (by repeat (first | (with_reducible first | exact HB.out | apply below_alloc | apply pw_below_drewN | apply below_drew1 | refine below_set ?_ GE177.out | refine below_set ?_ GE189.out) | exact HB.out))) : w.heap.size ≤ gb192)); have n8_ := Aside0.mk ((by rw [hg]; exact Nat.ne_of_lt (blk_lt (g := gb177) (o := .cells #[.slice none 0 0] 27 (0, 0)) (by (with_reducible repeat (first | refine blk_drewN ?_ _ | refine blk_drew ?_ | refine blk_alloc ?_ _)); exact BK177.out)) : gb177 ≠ gb192)); have n9_ := Aside0.mk ((by rw [hg]; exact Nat.ne_of_gt (blk_lt (g := gb177) (o := .cells #[.slice none 0 0] 27 (0, 0)) (by (with_reducible repeat (first | refine blk_drewN ?_ _ | refine blk_drew ?_ | refine blk_alloc ?_ _)); exact BK177.out)) : gb192 ≠ gb177)); have n10_ := Aside0.mk ((by rw [hg]; exact Nat.ne_of_lt (blk_lt (g := gb189) (o := .cells #[u190000] 27 (0, 0)) (by (with_reducible repeat (first | refine blk_drewN ?_ _ | refine blk_drew ?_ | refine blk_alloc ?_ _)); exact BK189.out)) : gb189 ≠ gb192)); have n11_ := Aside0.mk ((by rw [hg]; exact Nat.ne_of_gt (blk_lt (g := gb189) (o := .cells #[u190000] 27 (0, 0)) (by (with_reducible repeat (first | refine blk_drewN ?_ _ | refine blk_drew ?_ | refine blk_alloc ?_ _)); exact BK189.out)) : gb192 ≠ gb189)); clear HO_3; clear HO_190000; clear BK177; clear BK189; clear HB; have HO_3 := n0_; have HO_190000 := n1_; have BK177 := n2_; have BK189 := n3_; have HB := n4_; have BK192 := n5_; have GW192 := n6_; have GE192 := n7_; have NB177_192 := n8_; have NB192_177 := n9_; have NB189_192 := n10_; have NB192_189 := n11_; clear n0_ n1_ n2_ n3_ n4_ n5_ n6_ n7_ n8_ n9_ n10_ n11_; clear hb hbox hg; have hnb34 := NB192_177.out; have hnc34 := NB177_192.out; have hnb35 := NB192_189.out; have hnc35 := NB189_192.out; have hcz36_0 : w33.cell? ⟨gb192, 0, none⟩ = some (.int .i64 0) := (blk_cell BK192.out 0).trans rfl; have hcz36_1 : w33.cell? ⟨gb192, 1, none⟩ = some (.int .i64 0) := (blk_cell BK192.out 1).trans rfl; have hcz36_2 : w33.cell? ⟨gb192, 2, none⟩ = some (.bool false) := (blk_cell BK192.out 2).trans rfl; have hfz36_0 := blk_frozen BK192.out 0; have hfz36_1 := blk_frozen BK192.out 1; have hfz36_2 := blk_frozen BK192.out 2; have p27 : 0 ≤ ((ji24) : Int) := of_decide_eq_true (by first | (with_reducible assumption) | assumption); have q27 : (ji24) < ((rdOf ByteArray.empty x3_1 x7_2).size : Int) := of_decide_eq_true (by first | (with_reducible assumption) | assumption); have hx27 := bt_at (rdOf ByteArray.empty x3_1 x7_2) (ji24); replace p27 := eq_true p27; replace q27 := eq_true q27) | ((with_reducible refine gate_callee (f := 61) rfl ?_); refine goesL_ (some 66) rfl rfl Tryd.func61 (by kernel_rfl) rfl #[.slice (some ad190) x3_1.length co32, .string ((rdOf ByteArray.empty x3_1 x7_2).extract 0 ((ji24) : Int).toNat)] rfl (by (try simp only [List.map_toArray, List.map_cons, List.map_nil]); first | done | (simp only [hji24]; rfl) | rfl | (simp only [List.length_drop, List.length_take]; rfl)) ?_; (with_reducible refine (spec_l2Place.calls k2 _ _ x3_1 ((rdOf ByteArray.empty x3_1 x7_2).extract 0 ((ji24) : Int).toNat) t193 _ ?side1 ?side2 A30.out).mono ?_); (case side1 => refine (Kd.R_reads' (e := 9) (base := w.heap.size) (ok := fun k_ => True) (n := x3_1.length) (c := co32) ?_).2.2; exact (by (with_reducible repeat (first | apply Kd.R_alloc | apply Kd.R_drewN | apply Kd.R_drew)); exact (Kd.R_mono (Kd.R_far (p := ⟨gb192, 0, none⟩) (Kd.R_far (p := ⟨gb192, 2, none⟩) (Kd.R_far (p := ⟨gb192, 1, none⟩) (Kd.R_far (p := ⟨gb192, 0, none⟩) (Kd.R_types HO_3.out BK192.out (by decide)) (fun _ hk => hk.2) (.int .i64 (-1))) (fun _ hk => hk.2) (.int .i64 (-1))) (fun _ hk => hk.2) (.bool t191)) (fun _ hk => hk.2) (.int .i64 (((bt (rdOf ByteArray.empty x3_1 x7_2) (ji24)) - 97) % 256))) (fun _ h_ => h_.1)))); (case side2 => exact (Kd.R_reads' HO_3.out).2.1); rintro e w' ⟨rfl, ⟨nd, rfl⟩⟩; refine ⟨_, rfl, ?_⟩; have m0_ : Aside0 (Kd.R Kd.string 9 (((((w33.setCell ⟨gb192, 0, none⟩ (.int .i64 (-1))).setCell ⟨gb192, 1, none⟩ (.int .i64 (-1))).setCell ⟨gb192, 2, none⟩ (.bool t191)).setCell ⟨gb192, 0, none⟩ (.int .i64 (((bt (rdOf ByteArray.empty x3_1 x7_2) (ji24)) - 97) % 256))).drewN nd) w.heap.size (fun _ => True) (.slice (some ad190) x3_1.length co32) x3_1) := ⟨by (with_reducible repeat (first | apply Kd.R_alloc | apply Kd.R_drewN | apply Kd.R_drew)); exact Kd.R_mono (Kd.R_far (p := ⟨gb192, 0, none⟩) (Kd.R_far (p := ⟨gb192, 2, none⟩) (Kd.R_far (p := ⟨gb192, 1, none⟩) (Kd.R_far (p := ⟨gb192, 0, none⟩) (Kd.R_types HO_3.out BK192.out (by decide)) (fun _ hk => hk.2) (.int .i64 (-1))) (fun _ hk => hk.2) (.int .i64 (-1))) (fun _ hk => hk.2) (.bool t191)) (fun _ hk => hk.2) (.int .i64 (((bt (rdOf ByteArray.empty x3_1 x7_2) (ji24)) - 97) % 256))) (fun _ _ => trivial)⟩; have m1_ : Aside0 (Kd.R k70 70 (((((w33.setCell ⟨gb192, 0, none⟩ (.int .i64 (-1))).setCell ⟨gb192, 1, none⟩ (.int .i64 (-1))).setCell ⟨gb192, 2, none⟩ (.bool t191)).setCell ⟨gb192, 0, none⟩ (.int .i64 (((bt (rdOf ByteArray.empty x3_1 x7_2) (ji24)) - 97) % 256))).drewN nd) w.heap.size (fun k_ => True ∧ k_ ≠ gb192) u190000 x190000_2) := ⟨by (with_reducible repeat (first | apply Kd.R_alloc | apply Kd.R_drewN | apply Kd.R_drew)); exact Kd.R_mono (Kd.R_far (p := ⟨gb192, 0, none⟩) (Kd.R_far (p := ⟨gb192, 2, none⟩) (Kd.R_far (p := ⟨gb192, 1, none⟩) (Kd.R_far (p := ⟨gb192, 0, none⟩) (Kd.R_mono HO_190000.out (fun k_ hk => (⟨hk, hk.2⟩ : _ ∧ k_ ≠ gb192))) (fun _ hk => hk.2) (.int .i64 (-1))) (fun _ hk => hk.2) (.int .i64 (-1))) (fun _ hk => hk.2) (.bool t191)) (fun _ hk => hk.2) (.int .i64 (((bt (rdOf ByteArray.empty x3_1 x7_2) (ji24)) - 97) % 256))) (fun _ hk => ⟨trivial, hk.2⟩)⟩; have m2_ : Aside0 ((((((w33.setCell ⟨gb192, 0, none⟩ (.int .i64 (-1))).setCell ⟨gb192, 1, none⟩ (.int .i64 (-1))).setCell ⟨gb192, 2, none⟩ (.bool t191)).setCell ⟨gb192, 0, none⟩ (.int .i64 (((bt (rdOf ByteArray.empty x3_1 x7_2) (ji24)) - 97) % 256))).drewN nd).heap[gb177]? = some (.cells #[.slice none 0 0] 27 (0, 0))) := ⟨by (with_reducible repeat (first | refine blk_drewN ?_ _ | refine blk_drew ?_ | refine blk_alloc ?_ _)); refine blk_far ?_ NB177_192.out _; (with_reducible repeat (first | refine blk_drewN ?_ _ | refine blk_drew ?_ | refine blk_alloc ?_ _)); refine blk_far ?_ NB177_192.out _; (with_reducible repeat (first | refine blk_drewN ?_ _ | refine blk_drew ?_ | refine blk_alloc ?_ _)); refine blk_far ?_ NB177_192.out _; (with_reducible repeat (first | refine blk_drewN ?_ _ | refine blk_drew ?_ | refine blk_alloc ?_ _)); refine blk_far ?_ NB177_192.out _; (with_reducible repeat (first | refine blk_drewN ?_ _ | refine blk_drew ?_ | refine blk_alloc ?_ _)); exact BK177.out⟩; have m3_ : Aside0 ((((((w33.setCell ⟨gb192, 0, none⟩ (.int .i64 (-1))).setCell ⟨gb192, 1, none⟩ (.int .i64 (-1))).setCell ⟨gb192, 2, none⟩ (.bool t191)).setCell ⟨gb192, 0, none⟩ (.int .i64 (((bt (rdOf ByteArray.empty x3_1 x7_2) (ji24)) - 97) % 256))).drewN nd).heap[gb189]? = some (.cells #[u190000] 27 (0, 0))) := ⟨by (with_reducible repeat (first | refine blk_drewN ?_ _ | refine blk_drew ?_ | refine blk_alloc ?_ _)); refine blk_far ?_ NB189_192.out _; (with_reducible repeat (first | refine blk_drewN ?_ _ | refine blk_drew ?_ | refine blk_alloc ?_ _)); refine blk_far ?_ NB189_192.out _; (with_reducible repeat (first | refine blk_drewN ?_ _ | refine blk_drew ?_ | refine blk_alloc ?_ _)); refine blk_far ?_ NB189_192.out _; (with_reducible repeat (first | refine blk_drewN ?_ _ | refine blk_drew ?_ | refine blk_alloc ?_ _)); refine blk_far ?_ NB189_192.out _; (with_reducible repeat (first | refine blk_drewN ?_ _ | refine blk_drew ?_ | refine blk_alloc ?_ _)); exact BK189.out⟩; have m4_ : Aside0 ((((((w33.setCell ⟨gb192, 0, none⟩ (.int .i64 (-1))).setCell ⟨gb192, 1, none⟩ (.int .i64 (-1))).setCell ⟨gb192, 2, none⟩ (.bool t191)).setCell ⟨gb192, 0, none⟩ (.int .i64 (((bt (rdOf ByteArray.empty x3_1 x7_2) (ji24)) - 97) % 256))).drewN nd).heap[gb192]? = some (.cells #[.int .i64 (((bt (rdOf ByteArray.empty x3_1 x7_2) (ji24)) - 97) % 256), .int .i64 (-1), .bool t191] 70 (0, 0))) := ⟨by (with_reducible repeat (first | refine blk_drewN ?_ _ | refine blk_drew ?_ | refine blk_alloc ?_ _)); refine blk_put (cs := #[.int .i64 (-1), .int .i64 (-1), .bool t191]) ?_ 0 _ rfl; (with_reducible repeat (first | refine blk_drewN ?_ _ | refine blk_drew ?_ | refine blk_alloc ?_ _)); refine blk_put (cs := #[.int .i64 (-1), .int .i64 (-1), .bool false]) ?_ 2 _ rfl; (with_reducible repeat (first | refine blk_drewN ?_ _ | refine blk_drew ?_ | refine blk_alloc ?_ _)); refine blk_put (cs := #[.int .i64 (-1), .int .i64 0, .bool false]) ?_ 1 _ rfl; (with_reducible repeat (first | refine blk_drewN ?_ _ | refine blk_drew ?_ | refine blk_alloc ?_ _)); refine blk_put (cs := #[.int .i64 0, .int .i64 0, .bool false]) ?_ 0 _ rfl; (with_reducible repeat (first | refine blk_drewN ?_ _ | refine blk_drew ?_ | refine blk_alloc ?_ _)); exact BK192.out⟩; have m5_ : Aside0 (Below w.heap.size w (((((w33.setCell ⟨gb192, 0, none⟩ (.int .i64 (-1))).setCell ⟨gb192, 1, none⟩ (.int .i64 (-1))).setCell ⟨gb192, 2, none⟩ (.bool t191)).setCell ⟨gb192, 0, none⟩ (.int .i64 (((bt (rdOf ByteArray.empty x3_1 x7_2) (ji24)) - 97) % 256))).drewN nd)) := ⟨by repeat (first | (with_reducible first | exact HB.out | apply below_alloc | apply pw_below_drewN | apply below_drew1 | refine below_set ?_ GE177.out | refine below_set ?_ GE189.out | refine below_set ?_ GE192.out) | exact HB.out)⟩; clear HO_3 HO_190000 BK177 BK189 BK192 HB; generalize (((((w33.setCell ⟨gb192, 0, none⟩ (.int .i64 (-1))).setCell ⟨gb192, 1, none⟩ (.int .i64 (-1))).setCell ⟨gb192, 2, none⟩ (.bool t191)).setCell ⟨gb192, 0, none⟩ (.int .i64 (((bt (rdOf ByteArray.empty x3_1 x7_2) (ji24)) - 97) % 256))).drewN nd) = w339 at m0_ m1_ m2_ m3_ m4_ m5_ ⊢; have HO_3 := m0_; have HO_190000 := m1_; have BK177 := m2_; have BK189 := m3_; have BK192 := m4_; have HB := m5_; clear m0_ m1_ m2_ m3_ m4_ m5_; have hczz_0 : w339.cell? ⟨gb192, 0, none⟩ = some (.int .i64 (((bt (rdOf ByteArray.empty x3_1 x7_2) (ji24)) - 97) % 256)) := (blk_cell BK192.out 0).trans rfl; have hfzz_0 := blk_frozen BK192.out 0; have hczz_1 : w339.cell? ⟨gb192, 1, none⟩ = some (.int .i64 (-1)) := (blk_cell BK192.out 1).trans rfl; have hfzz_1 := blk_frozen BK192.out 1; have hczz_2 : w339.cell? ⟨gb192, 2, none⟩ = some (.bool t191) := (blk_cell BK192.out 2).trans rfl; have hfzz_2 := blk_frozen BK192.out 2; have hnb37 := NB189_177.out; have hnc37 := NB177_189.out; have hcz38_0 : w339.cell? ⟨gb189, 0, none⟩ = some (u190000) := (blk_cell BK189.out 0).trans rfl; have hfz38_0 := blk_frozen BK189.out 0) | ((with_reducible refine gate_builtin (b := .append) (xs := #[.tmp 69, .tmp 71]) rfl ?_); at_builtin; refine Kd.R_append k70 (w0 := w) w.heap.size rfl (.tmp 69) (.tmp 71) 25 70 (.agg #[(.int .i64 0), (.int .i64 0), (.bool false)]) 24 rfl Tryd.underlying25 info70 rfl (by decide) (by omega) u190000 x190000_2 (⟨((bt (rdOf ByteArray.empty x3_1 x7_2) (ji24)) - 97) % 256, t193, t191⟩ : S70) [.int .i64 (((bt (rdOf ByteArray.empty x3_1 x7_2) (ji24)) - 97) % 256), .int .i64 t193, .bool t191] (fun k_ => k_ ≠ gb192) (fun _ => False) rfl (by first | (go_simp; done) | (go_simp; rfl)) ?aP (fun _ hk => hk.elim) ?aF ?aO ?aB ?aS ?aL ?_; (case aP => exact k70_mkM _ _ _ (⟨((bt (rdOf ByteArray.empty x3_1 x7_2) (ji24)) - 97) % 256, t193, t191⟩ : S70)); (case aB => exact (by repeat (first | (with_reducible first | exact HB.out | apply below_alloc | apply pw_below_drewN | apply below_drew1 | refine below_set ?_ GE177.out | refine below_set ?_ GE189.out | refine below_set ?_ GE192.out) | exact HB.out))); (case aF => exact (fun k_ hk => Kd.freshB (g := gb192) (o := .cells #[.int .i64 (((bt (rdOf ByteArray.empty x3_1 x7_2) (ji24)) - 97) % 256), .int .i64 t193, .bool t191] 70 (0, 0)) (by (with_reducible repeat (first | refine blk_drewN ?_ _ | refine blk_drew ?_ | refine blk_alloc ?_ _)); refine blk_put (cs := #[.int .i64 (((bt (rdOf ByteArray.empty x3_1 x7_2) (ji24)) - 97) % 256), .int .i64 (-1), .bool t191]) ?_ 1 _ rfl; (with_reducible repeat (first | refine blk_drewN ?_ _ | refine blk_drew ?_ | refine blk_alloc ?_ _)); exact BK192.out) k_ hk)); (case aO => exact (by (with_reducible repeat (first | apply Kd.R_alloc | apply Kd.R_drewN | apply Kd.R_drew)); exact Kd.R_mono (Kd.R_far (p := ⟨gb192, 1, none⟩) (Kd.R_mono HO_190000.out (fun k_ hk => (⟨hk, hk.2⟩ : _ ∧ k_ ≠ gb192))) (fun _ hk => hk.2) (.int .i64 t193)) (fun _ hk => hk.1.2))); (case aS => exact (below_size (by repeat (first | (with_reducible first | exact HB.out | apply below_alloc | apply pw_below_drewN | apply below_drew1 | refine below_set ?_ GE177.out | refine below_set ?_ GE189.out | refine below_set ?_ GE192.out) | exact HB.out)))); (case aL => have := LMc31.out; omega); intro v195 w39 ho hb hg hat; rw [← Ny194.out] at ho; have n0_ := Aside0.mk (Kd.R_over' (by (with_reducible repeat (first | apply Kd.R_alloc | apply Kd.R_drewN | apply Kd.R_drew)); exact (Kd.R_mono (Kd.R_far (p := ⟨gb192, 1, none⟩) (Kd.R_types HO_3.out BK192.out (by decide)) (fun _ hk => hk.2) (.int .i64 t193)) (fun _ h_ => h_.1))) (Kd.R_typed (by (with_reducible repeat (first | apply Kd.R_alloc | apply Kd.R_drewN | apply Kd.R_drew)); exact (Kd.R_mono (Kd.R_far (p := ⟨gb192, 1, none⟩) (Kd.R_mono HO_190000.out (fun k_ hk => (⟨hk, hk.2⟩ : _ ∧ k_ ≠ gb192))) (fun _ hk => hk.2) (.int .i64 t193)) (fun _ h_ => h_.1)))) (by decide) hg); have n1_ := Aside0.mk (blk_grown (g := gb177) (o := .cells #[.slice none 0 0] 27 (0, 0)) (by (with_reducible repeat (first | refine blk_drewN ?_ _ | refine blk_drew ?_ | refine blk_alloc ?_ _)); refine blk_far ?_ NB177_192.out _; (with_reducible repeat (first | refine blk_drewN ?_ _ | refine blk_drew ?_ | refine blk_alloc ?_ _)); exact BK177.out) hg (Kd.R_ne HO_190000.out BK177.out (by decide))); have n2_ := Aside0.mk (blk_grown (g := gb189) (o := .cells #[u190000] 27 (0, 0)) (by (with_reducible repeat (first | refine blk_drewN ?_ _ | refine blk_drew ?_ | refine blk_alloc ?_ _)); refine blk_far ?_ NB189_192.out _; (with_reducible repeat (first | refine blk_drewN ?_ _ | refine blk_drew ?_ | refine blk_alloc ?_ _)); exact BK189.out) hg (Kd.R_ne HO_190000.out BK189.out (by decide))); have n3_ := Aside0.mk (blk_grown (g := gb192) (o := .cells #[.int .i64 (((bt (rdOf ByteArray.empty x3_1 x7_2) (ji24)) - 97) % 256), .int .i64 t193, .bool t191] 70 (0, 0)) (by (with_reducible repeat (first | refine blk_drewN ?_ _ | refine blk_drew ?_ | refine blk_alloc ?_ _)); refine blk_put (cs := #[.int .i64 (((bt (rdOf ByteArray.empty x3_1 x7_2) (ji24)) - 97) % 256), .int .i64 (-1), .bool t191]) ?_ 1 _ rfl; (with_reducible repeat (first | refine blk_drewN ?_ _ | refine blk_drew ?_ | refine blk_alloc ?_ _)); exact BK192.out) hg (Kd.R_away HO_190000.out (fun _ hk => hk.2))); have n4_ := Aside0.mk (hb); have n5_ := Aside0.mk (ho); clear HO_3; clear BK177; clear BK189; clear BK192; clear HB; clear HO_190000; have HO_3 := n0_; have BK177 := n1_; have BK189 := n2_; have BK192 := n3_; have HB := n4_; have HO196 := n5_; clear n0_ n1_ n2_ n3_ n4_ n5_; clear ho hb hg hat; obtain ⟨Ao40, co40, eo40⟩ := Kd.R_slice HO196.out; subst eo40; have hcz41_0 : w39.cell? ⟨gb189, 0, none⟩ = some (u190000) := (blk_cell BK189.out 0).trans rfl; have hfz41_0 := blk_frozen BK189.out 0))
             go_roundg k2
             case measure => have := HK1.out; have := HK2.out; omega
             case rel => exact ⟨(wrap64 (x7_2 + 1)), (y194), (.slice Ao40 y194.length co40), (by first | rfl | (simp; done) | (simp [*]; done)), H', ⟨by have := HK1.out; have := HK2.out; omega⟩, ⟨by (with_reducible repeat (first | apply Kd.R_alloc | apply Kd.R_drewN | apply Kd.R_drew)); exact Kd.R_mono (Kd.R_far (p := ⟨gb189, 0, none⟩) (Kd.R_types HO_3.out BK189.out (by decide)) (fun _ hk => hk.2) (.slice Ao40 y194.length co40)) (fun _ hk => trivial)⟩, ⟨by (with_reducible repeat (first | apply Kd.R_alloc | apply Kd.R_drewN | apply Kd.R_drew)); exact Kd.R_mono (Kd.R_far (p := ⟨gb189, 0, none⟩) (Kd.R_types HO196.out BK189.out (by decide)) (fun _ hk => hk.2) (.slice Ao40 y194.length co40)) (fun _ hk => trivial)⟩, ⟨by (with_reducible repeat (first | refine blk_drewN ?_ _ | refine blk_drew ?_ | refine blk_alloc ?_ _)); refine blk_far ?_ NB177_189.out _; (with_reducible repeat (first | refine blk_drewN ?_ _ | refine blk_drew ?_ | refine blk_alloc ?_ _)); exact BK177.out⟩, ⟨by (with_reducible repeat (first | refine blk_drewN ?_ _ | refine blk_drew ?_ | refine blk_alloc ?_ _)); refine blk_put (cs := #[u190000]) ?_ 0 _ rfl; (with_reducible repeat (first | refine blk_drewN ?_ _ | refine blk_drew ?_ | refine blk_alloc ?_ _)); exact BK189.out⟩, ⟨by repeat (first | (with_reducible first | exact HB.out | apply below_alloc | apply pw_below_drewN | apply below_drew1 | refine below_set ?_ GE177.out | refine below_set ?_ GE189.out | refine below_set ?_ GE192.out) | exact HB.out)⟩⟩
            ·
             rw [if_neg c31] at H
             exact absurd H (by simp)
           ·
            rw [if_neg c29] at H
            exact absurd H (by simp)
          ·
           rw [if_neg c26] at H
           exact absurd H (by simp)
         ·
          rw [if_neg c25] at H
          exact absurd H (by simp)
        ·
         rw [if_neg c23] at H
         have c23b0 : decide (0 < x7_2) = false := decide_eq_false c23
         clear c23
         by_cases c42 : x190000_2.length < 5864062014805
         ·
          rw [if_pos c42] at H
          have LMc42 := Aside0.mk c42
          clear c42
          obtain ⟨y197, hy197⟩ : ∃ y_ : List (S70), y_ = (x190000_2 ++ [(⟨(-1), (-1), t191⟩ : S70)]) := ⟨_, rfl⟩
          replace H : (spec_l2Of.l2 k2 l0 x3_1 (wrap64 (x7_2 + 1)) y197) = some r := by first | (rw [hy197]; with_reducible exact H) | (have H2_ := (Option.bind_some _ _).symm.trans H; rw [hy197]; with_reducible exact H2_) | (have H2_ := (Option.bind_some _ _).symm.trans H; with_reducible exact H2_) | with_reducible exact H | (rw [hy197]; exact H) | exact H
          have Ny197 := Aside0.mk hy197
          clear hy197
          have H' := Aside0.mk H
          clear H
          obtain ⟨Ao43, co43, eo43⟩ := Kd.R_slice HO_3.out
          subst eo43
          have p190 : 0 ≤ (x7_2 : Int) := of_decide_eq_true (by first | (with_reducible assumption) | assumption)
          have q190 : x7_2 < (x3_1.length : Int) := of_decide_eq_true (by first | (with_reducible assumption) | assumption)
          obtain ⟨ad190, e190, hx190_0⟩ := Kd.at_string (Kd.R_reads' HO_3.out).2.2 x7_2 p190 q190
          cases e190
          replace p190 := eq_true p190
          replace q190 := eq_true q190
          go_wp2_with (first | ((with_reducible refine gate_callee (f := 60) rfl ?_); refine goesL_ (some 48) rfl rfl Tryd.func60 (by kernel_rfl) rfl #[.slice A0 l0.length c0, .string (rdOf ByteArray.empty x3_1 x7_2)] rfl (by (try simp only [List.map_toArray, List.map_cons, List.map_nil]); first | done | rfl | (simp only [List.length_drop, List.length_take]; rfl)) ?_; (with_reducible refine (spec_l2Has.calls k2 _ _ l0 (rdOf ByteArray.empty x3_1 x7_2) t191 _ ?side1 ?side2 A22.out).mono ?_); (case side1 => repeat (first | exact (Kd.C_below HR0.out HB.out) | (with_reducible refine Kd.C_alloc ?_ _) | (with_reducible refine Kd.C_drewN ?_ _) | (with_reducible refine Kd.C_drew ?_))); (case side2 => exact HC0.out); rintro e w' ⟨rfl, ⟨nd, rfl⟩⟩; refine ⟨_, rfl, ?_⟩; (try (rw [drewN_self wr]; generalize hq_ : World.drewN wr _ = wr; have n0_ : Aside0 (Kd.R k70 70 wr w.heap.size (fun _ => True) u190000 x190000_2) := ⟨by rw [← hq_]; exact (by (with_reducible repeat (first | apply Kd.R_alloc | apply Kd.R_drewN | apply Kd.R_drew)); exact HO_190000.out)⟩; have n1_ : Aside0 (Kd.R Kd.string 9 wr w.heap.size (fun _ => True) (.slice (some ad190) x3_1.length co43) x3_1) := ⟨by rw [← hq_]; exact (by (with_reducible repeat (first | apply Kd.R_alloc | apply Kd.R_drewN | apply Kd.R_drew)); exact HO_3.out)⟩; have n2_ : Aside0 (wr.heap[gb177]? = some (.cells #[.slice none 0 0] 27 (0, 0))) := ⟨by rw [← hq_]; exact (by (with_reducible repeat (first | refine blk_drewN ?_ _ | refine blk_drew ?_ | refine blk_alloc ?_ _)); exact BK177.out)⟩; have n3_ : Aside0 (wr.heap[gb189]? = some (.cells #[u190000] 27 (0, 0))) := ⟨by rw [← hq_]; exact (by (with_reducible repeat (first | refine blk_drewN ?_ _ | refine blk_drew ?_ | refine blk_alloc ?_ _)); exact BK189.out)⟩; have n4_ : Aside0 (Below w.heap.size w wr) := ⟨by rw [← hq_]; exact (by repeat (first | (with_reducible first | exact HB.out | apply below_alloc | apply pw_below_drewN | apply below_drew1 | refine below_set ?_ GE177.out | refine below_set ?_ GE189.out) | exact HB.out))⟩; clear HO_190000 HO_3 BK177 BK189 HB hq_; have HO_190000 := n0_; have HO_3 := n1_; have BK177 := n2_; have BK189 := n3_; have HB := n4_; clear n0_ n1_ n2_ n3_ n4_))) | ((with_reducible refine gate_dst (N := 9) rfl ?_); refine box_event ?hg (N := 9) ?hd (cs := #[.int .i64 0, .int .i64 0, .bool false]) (t := 70) ?hr ?_; (case hd => rfl); (case hg => rfl); (case hr => first | (go_simp; done) | (go_simp; rfl)); intro gb192 hg w44 hbox hb; have n0_ := Aside0.mk (Kd.R_below (by (with_reducible repeat (first | apply Kd.R_alloc | apply Kd.R_drewN | apply Kd.R_drew)); exact HO_3.out) hb); have n1_ := Aside0.mk (Kd.R_below (Kd.R_elderB (by (with_reducible repeat (first | apply Kd.R_alloc | apply Kd.R_drewN | apply Kd.R_drew)); exact HO_190000.out) gb192 (Nat.le_of_eq hg.symm)) hb); have n2_ := Aside0.mk (blk_below (g := gb177) (o := .cells #[.slice none 0 0] 27 (0, 0)) (by (with_reducible repeat (first | refine blk_drewN ?_ _ | refine blk_drew ?_ | refine blk_alloc ?_ _)); exact BK177.out) hb); have n3_ := Aside0.mk (blk_below (g := gb189) (o := .cells #[u190000] 27 (0, 0)) (by (with_reducible repeat (first | refine blk_drewN ?_ _ | refine blk_drew ?_ | refine blk_alloc ?_ _)); exact BK189.out) hb); have n4_ := Aside0.mk (below_step (by repeat (first | (with_reducible first | exact HB.out | apply below_alloc | apply pw_below_drewN | apply below_drew1 | refine below_set ?_ GE177.out | refine below_set ?_ GE189.out) | exact HB.out)) hb); have n5_ := Aside0.mk (hbox); have n6_ := Aside0.mk ((by rw [hg]; exact (below_size (by repeat (first | (with_reducible first | exact HB.out | apply below_alloc | apply pw_below_drewN | apply below_drew1 | refine below_set ?_ GE177.out | refine below_set ?_ GE189.out) | exact HB.out))) : w.heap.size ≤ gb192)); have n7_ := Aside0.mk ((by rw [hg]; exact (below_size (by repeat (first | (with_reducible first | exact HB.out | apply below_alloc | apply pw_below_drewN | apply below_drew1 | refine below_set ?_ GE177.out | refine below_set ?_ GE189.out) | exact HB.out))) : w.heap.size ≤ gb192)); have n8_ := Aside0.mk ((by rw [hg]; exact Nat.ne_of_lt (blk_lt (g := gb177) (o := .cells #[.slice none 0 0] 27 (0, 0)) (by (with_reducible repeat (first | refine blk_drewN ?_ _ | refine blk_drew ?_ | refine blk_alloc ?_ _)); exact BK177.out)) : gb177 ≠ gb192)); have n9_ := Aside0.mk ((by rw [hg]; exact Nat.ne_of_gt (blk_lt (g := gb177) (o := .cells #[.slice none 0 0] 27 (0, 0)) (by (with_reducible repeat (first | refine blk_drewN ?_ _ | refine blk_drew ?_ | refine blk_alloc ?_ _)); exact BK177.out)) : gb192 ≠ gb177)); have n10_ := Aside0.mk ((by rw [hg]; exact Nat.ne_of_lt (blk_lt (g := gb189) (o := .cells #[u190000] 27 (0, 0)) (by (with_reducible repeat (first | refine blk_drewN ?_ _ | refine blk_drew ?_ | refine blk_alloc ?_ _)); exact BK189.out)) : gb189 ≠ gb192)); have n11_ := Aside0.mk ((by rw [hg]; exact Nat.ne_of_gt (blk_lt (g := gb189) (o := .cells #[u190000] 27 (0, 0)) (by (with_reducible repeat (first | refine blk_drewN ?_ _ | refine blk_drew ?_ | refine blk_alloc ?_ _)); exact BK189.out)) : gb192 ≠ gb189)); clear HO_3; clear HO_190000; clear BK177; clear BK189; clear HB; have HO_3 := n0_; have HO_190000 := n1_; have BK177 := n2_; have BK189 := n3_; have HB := n4_; have BK192 := n5_; have GW192 := n6_; have GE192 := n7_; have NB177_192 := n8_; have NB192_177 := n9_; have NB189_192 := n10_; have NB192_189 := n11_; clear n0_ n1_ n2_ n3_ n4_ n5_ n6_ n7_ n8_ n9_ n10_ n11_; clear hb hbox hg; have hnb45 := NB192_177.out; have hnc45 := NB177_192.out; have hnb46 := NB192_189.out; have hnc46 := NB189_192.out; have hcz47_0 : w44.cell? ⟨gb192, 0, none⟩ = some (.int .i64 0) := (blk_cell BK192.out 0).trans rfl; have hcz47_1 : w44.cell? ⟨gb192, 1, none⟩ = some (.int .i64 0) := (blk_cell BK192.out 1).trans rfl; have hcz47_2 : w44.cell? ⟨gb192, 2, none⟩ = some (.bool false) := (blk_cell BK192.out 2).trans rfl; have hfz47_0 := blk_frozen BK192.out 0; have hfz47_1 := blk_frozen BK192.out 1; have hfz47_2 := blk_frozen BK192.out 2; have hnb48 := NB189_177.out; have hnc48 := NB177_189.out; have hcz49_0 : w44.cell? ⟨gb189, 0, none⟩ = some (u190000) := (blk_cell BK189.out 0).trans rfl; have hfz49_0 := blk_frozen BK189.out 0) | ((with_reducible refine gate_builtin (b := .append) (xs := #[.tmp 69, .tmp 71]) rfl ?_); at_builtin; refine Kd.R_append k70 (w0 := w) w.heap.size rfl (.tmp 69) (.tmp 71) 25 70 (.agg #[(.int .i64 0), (.int .i64 0), (.bool false)]) 24 rfl Tryd.underlying25 info70 rfl (by decide) (by omega) u190000 x190000_2 (⟨(-1), (-1), t191⟩ : S70) [.int .i64 (-1), .int .i64 (-1), .bool t191] (fun k_ => k_ ≠ gb192) (fun _ => False) rfl (by first | (go_simp; done) | (go_simp; rfl)) ?aP (fun _ hk => hk.elim) ?aF ?aO ?aB ?aS ?aL ?_; (case aP => exact k70_mkM _ _ _ (⟨(-1), (-1), t191⟩ : S70)); (case aB => exact (by repeat (first | (with_reducible first | exact HB.out | apply below_alloc | apply pw_below_drewN | apply below_drew1 | refine below_set ?_ GE177.out | refine below_set ?_ GE189.out | refine below_set ?_ GE192.out) | exact HB.out))); (case aF => exact (fun k_ hk => Kd.freshB (g := gb192) (o := .cells #[.int .i64 (-1), .int .i64 (-1), .bool t191] 70 (0, 0)) (by (with_reducible repeat (first | refine blk_drewN ?_ _ | refine blk_drew ?_ | refine blk_alloc ?_ _)); refine blk_put (cs := #[.int .i64 (-1), .int .i64 (-1), .bool false]) ?_ 2 _ rfl; (with_reducible repeat (first | refine blk_drewN ?_ _ | refine blk_drew ?_ | refine blk_alloc ?_ _)); refine blk_put (cs := #[.int .i64 (-1), .int .i64 0, .bool false]) ?_ 1 _ rfl; (with_reducible repeat (first | refine blk_drewN ?_ _ | refine blk_drew ?_ | refine blk_alloc ?_ _)); refine blk_put (cs := #[.int .i64 0, .int .i64 0, .bool false]) ?_ 0 _ rfl; (with_reducible repeat (first | refine blk_drewN ?_ _ | refine blk_drew ?_ | refine blk_alloc ?_ _)); exact BK192.out) k_ hk)); (case aO => exact (by (with_reducible repeat (first | apply Kd.R_alloc | apply Kd.R_drewN | apply Kd.R_drew)); exact Kd.R_mono (Kd.R_far (p := ⟨gb192, 2, none⟩) (Kd.R_far (p := ⟨gb192, 1, none⟩) (Kd.R_far (p := ⟨gb192, 0, none⟩) (Kd.R_mono HO_190000.out (fun k_ hk => (⟨hk, hk.2⟩ : _ ∧ k_ ≠ gb192))) (fun _ hk => hk.2) (.int .i64 (-1))) (fun _ hk => hk.2) (.int .i64 (-1))) (fun _ hk => hk.2) (.bool t191)) (fun _ hk => hk.1.2))); (case aS => exact (below_size (by repeat (first | (with_reducible first | exact HB.out | apply below_alloc | apply pw_below_drewN | apply below_drew1 | refine below_set ?_ GE177.out | refine below_set ?_ GE189.out | refine below_set ?_ GE192.out) | exact HB.out)))); (case aL => have := LMc42.out; omega); intro v198 w50 ho hb hg hat; rw [← Ny197.out] at ho; have n0_ := Aside0.mk (Kd.R_over' (by (with_reducible repeat (first | apply Kd.R_alloc | apply Kd.R_drewN | apply Kd.R_drew)); exact (Kd.R_mono (Kd.R_far (p := ⟨gb192, 2, none⟩) (Kd.R_far (p := ⟨gb192, 1, none⟩) (Kd.R_far (p := ⟨gb192, 0, none⟩) (Kd.R_types HO_3.out BK192.out (by decide)) (fun _ hk => hk.2) (.int .i64 (-1))) (fun _ hk => hk.2) (.int .i64 (-1))) (fun _ hk => hk.2) (.bool t191)) (fun _ h_ => h_.1))) (Kd.R_typed (by (with_reducible repeat (first | apply Kd.R_alloc | apply Kd.R_drewN | apply Kd.R_drew)); exact (Kd.R_mono (Kd.R_far (p := ⟨gb192, 2, none⟩) (Kd.R_far (p := ⟨gb192, 1, none⟩) (Kd.R_far (p := ⟨gb192, 0, none⟩) (Kd.R_mono HO_190000.out (fun k_ hk => (⟨hk, hk.2⟩ : _ ∧ k_ ≠ gb192))) (fun _ hk => hk.2) (.int .i64 (-1))) (fun _ hk => hk.2) (.int .i64 (-1))) (fun _ hk => hk.2) (.bool t191)) (fun _ h_ => h_.1)))) (by decide) hg); have n1_ := Aside0.mk (blk_grown (g := gb177) (o := .cells #[.slice none 0 0] 27 (0, 0)) (by (with_reducible repeat (first | refine blk_drewN ?_ _ | refine blk_drew ?_ | refine blk_alloc ?_ _)); refine blk_far ?_ NB177_192.out _; (with_reducible repeat (first | refine blk_drewN ?_ _ | refine blk_drew ?_ | refine blk_alloc ?_ _)); refine blk_far ?_ NB177_192.out _; (with_reducible repeat (first | refine blk_drewN ?_ _ | refine blk_drew ?_ | refine blk_alloc ?_ _)); refine blk_far ?_ NB177_192.out _; (with_reducible repeat (first | refine blk_drewN ?_ _ | refine blk_drew ?_ | refine blk_alloc ?_ _)); exact BK177.out) hg (Kd.R_ne HO_190000.out BK177.out (by decide))); have n2_ := Aside0.mk (blk_grown (g := gb189) (o := .cells #[u190000] 27 (0, 0)) (by (with_reducible repeat (first | refine blk_drewN ?_ _ | refine blk_drew ?_ | refine blk_alloc ?_ _)); refine blk_far ?_ NB189_192.out _; (with_reducible repeat (first | refine blk_drewN ?_ _ | refine blk_drew ?_ | refine blk_alloc ?_ _)); refine blk_far ?_ NB189_192.out _; (with_reducible repeat (first | refine blk_drewN ?_ _ | refine blk_drew ?_ | refine blk_alloc ?_ _)); refine blk_far ?_ NB189_192.out _; (with_reducible repeat (first | refine blk_drewN ?_ _ | refine blk_drew ?_ | refine blk_alloc ?_ _)); exact BK189.out) hg (Kd.R_ne HO_190000.out BK189.out (by decide))); have n3_ := Aside0.mk (blk_grown (g := gb192) (o := .cells #[.int .i64 (-1), .int .i64 (-1), .bool t191] 70 (0, 0)) (by (with_reducible repeat (first | refine blk_drewN ?_ _ | refine blk_drew ?_ | refine blk_alloc ?_ _)); refine blk_put (cs := #[.int .i64 (-1), .int .i64 (-1), .bool false]) ?_ 2 _ rfl; (with_reducible repeat (first | refine blk_drewN ?_ _ | refine blk_drew ?_ | refine blk_alloc ?_ _)); refine blk_put (cs := #[.int .i64 (-1), .int .i64 0, .bool false]) ?_ 1 _ rfl; (with_reducible repeat (first | refine blk_drewN ?_ _ | refine blk_drew ?_ | refine blk_alloc ?_ _)); refine blk_put (cs := #[.int .i64 0, .int .i64 0, .bool false]) ?_ 0 _ rfl; (with_reducible repeat (first | refine blk_drewN ?_ _ | refine blk_drew ?_ | refine blk_alloc ?_ _)); exact BK192.out) hg (Kd.R_away HO_190000.out (fun _ hk => hk.2))); have n4_ := Aside0.mk (hb); have n5_ := Aside0.mk (ho); clear HO_3; clear BK177; clear BK189; clear BK192; clear HB; clear HO_190000; have HO_3 := n0_; have BK177 := n1_; have BK189 := n2_; have BK192 := n3_; have HB := n4_; have HO199 := n5_; clear n0_ n1_ n2_ n3_ n4_ n5_; clear ho hb hg hat; obtain ⟨Ao51, co51, eo51⟩ := Kd.R_slice HO199.out; subst eo51; have hcz52_0 : w50.cell? ⟨gb189, 0, none⟩ = some (u190000) := (blk_cell BK189.out 0).trans rfl; have hfz52_0 := blk_frozen BK189.out 0))
          go_roundg k2
          case measure => have := HK1.out; have := HK2.out; omega
          case rel => exact ⟨(wrap64 (x7_2 + 1)), (y197), (.slice Ao51 y197.length co51), (by first | rfl | (simp; done) | (simp [*]; done)), H', ⟨by have := HK1.out; have := HK2.out; omega⟩, ⟨by (with_reducible repeat (first | apply Kd.R_alloc | apply Kd.R_drewN | apply Kd.R_drew)); exact Kd.R_mono (Kd.R_far (p := ⟨gb189, 0, none⟩) (Kd.R_types HO_3.out BK189.out (by decide)) (fun _ hk => hk.2) (.slice Ao51 y197.length co51)) (fun _ hk => trivial)⟩, ⟨by (with_reducible repeat (first | apply Kd.R_alloc | apply Kd.R_drewN | apply Kd.R_drew)); exact Kd.R_mono (Kd.R_far (p := ⟨gb189, 0, none⟩) (Kd.R_types HO199.out BK189.out (by decide)) (fun _ hk => hk.2) (.slice Ao51 y197.length co51)) (fun _ hk => trivial)⟩, ⟨by (with_reducible repeat (first | refine blk_drewN ?_ _ | refine blk_drew ?_ | refine blk_alloc ?_ _)); refine blk_far ?_ NB177_189.out _; (with_reducible repeat (first | refine blk_drewN ?_ _ | refine blk_drew ?_ | refine blk_alloc ?_ _)); exact BK177.out⟩, ⟨by (with_reducible repeat (first | refine blk_drewN ?_ _ | refine blk_drew ?_ | refine blk_alloc ?_ _)); refine blk_put (cs := #[u190000]) ?_ 0 _ rfl; (with_reducible repeat (first | refine blk_drewN ?_ _ | refine blk_drew ?_ | refine blk_alloc ?_ _)); exact BK189.out⟩, ⟨by repeat (first | (with_reducible first | exact HB.out | apply below_alloc | apply pw_below_drewN | apply below_drew1 | refine below_set ?_ GE177.out | refine below_set ?_ GE189.out | refine below_set ?_ GE192.out) | exact HB.out)⟩⟩
         ·
          rw [if_neg c42] at H
          exact absurd H (by simp)
       ·
        rw [if_neg c21] at H
        exact absurd H (by simp)
      ·
       rw [if_neg c20] at H
       have c20b0 : decide (x7_2 < (x3_1.length : Int)) = false := decide_eq_false c20
       clear c20
       obtain rfl := Option.some.inj H
       obtain ⟨Ao53, co53, eo53⟩ := Kd.R_slice HO_3.out
       subst eo53
       have hnb54 := NB189_177.out
       have hnc54 := NB177_189.out
       have hcz55_0 : wr.cell? ⟨gb189, 0, none⟩ = some (u190000) := (blk_cell BK189.out 0).trans rfl
       have hfz55_0 := blk_frozen BK189.out 0
       obtain ⟨Ao56, co56, eo56⟩ := Kd.R_slice HO_190000.out
       subst eo56
       have hcz57_0 : wr.cell? ⟨gb177, 0, none⟩ = some (.slice none 0 0) := (blk_cell BK177.out 0).trans rfl
       have hfz57_0 := blk_frozen BK177.out 0
       go_wp2
       refine bodyPost_ret (results_cell_row rfl _ _ gb177 27 #[.slice Ao56 x190000_2.length co56] (0, 0) _ rfl (by (with_reducible repeat (first | refine blk_drewN ?_ _ | refine blk_drew ?_ | refine blk_alloc ?_ _)); refine blk_put (cs := #[.slice none 0 0]) ?_ 0 _ rfl; (with_reducible repeat (first | refine blk_drewN ?_ _ | refine blk_drew ?_ | refine blk_alloc ?_ _)); exact BK177.out) Tryd.underlying27 rfl (by kernel_rfl)) rfl ?_
       exact ⟨_, by first | rfl | (simp [errW_none, errW_some] <;> rfl) | (simp [*, errW_none, errW_some] <;> rfl), by (with_reducible repeat (first | apply Kd.R_alloc | apply Kd.R_drewN | apply Kd.R_drew)); exact Kd.R_mono (Kd.R_far (p := ⟨gb177, 0, none⟩) (Kd.R_types HO_190000.out BK177.out (by decide)) (fun _ hk => hk.2) (.slice Ao56 x190000_2.length co56)) (fun _ hk => trivial), by repeat (first | (with_reducible first | exact HB.out | apply below_alloc | apply pw_below_drewN | apply below_drew1 | refine below_set ?_ GE177.out | refine below_set ?_ GE189.out) | exact HB.out)⟩
end Go.Proofs.YtpgobnhklnglhaaDoor.P
namespace Go.Proofs.YtpgobnhklnglhaaDoor.M
open Go.Lib
theorem keeps_iff (d : Array Txt) (j : Nat) : keeps d j = true ↔ (j = 0 ∨ d[j]! ≠ d[j - 1]!) := by simp [keeps]
theorem mem_compact (zs : List Txt) (y : Txt) : y ∈ compact zs ↔ y ∈ zs := by
 unfold compact compactUpTo
 simp only [List.mem_map, List.mem_filter, List.mem_range]
 constructor
 ·
  rintro ⟨j, ⟨hj, _⟩, rfl⟩
  rw [getElem!_pos zs.toArray j (by simpa using hj)]
  simp
 ·
  intro hy
  have hex : ∃ n, ∃ h : n < zs.length, zs[n] = y := by
   obtain ⟨n, h, e⟩ := List.mem_iff_getElem.1 hy
   exact ⟨n, h, e⟩
  have key : ∀ n, (∃ h : n < zs.length, zs[n] = y) → ∃ m, m < zs.length ∧ keeps zs.toArray m = true ∧ zs.toArray[m]! = y := by
   intro n
   induction n with
   | zero => rintro ⟨h, e⟩; exact ⟨0, h, (keeps_iff _ _).2 (.inl rfl), by rw [getElem!_pos zs.toArray 0 (by simpa using h)]; simpa using e⟩
   | succ n ih =>
    rintro ⟨h, e⟩
    have e1 : zs.toArray[n + 1]! = y := by rw [getElem!_pos zs.toArray (n + 1) (by simpa using h)]; simpa using e
    by_cases hk : keeps zs.toArray (n + 1) = true
    ·
     exact ⟨n + 1, h, hk, e1⟩
    ·
     have : zs.toArray[n + 1]! = zs.toArray[n]! := by
      by_cases h9 : zs.toArray[n + 1]! = zs.toArray[n]!
      ·
       exact h9
      ·
       exact absurd ((keeps_iff _ _).2 (.inr h9)) hk
     refine ih ⟨by omega, ?_⟩
     have h2 : zs.toArray[n]! = zs[n] := by rw [getElem!_pos zs.toArray n (by simp; omega)]; simp
     rw [← h2, ← this, e1]
  obtain ⟨n, h⟩ := hex
  obtain ⟨m, h1, h2, h3⟩ := key n h
  exact ⟨m, ⟨h1, h2⟩, h3⟩
theorem pair_get {zs : List Txt} (h : zs.Pairwise (fun a b => decide (a ≤ b) = true)) {i j : Nat} (hij : i < j) (hj : j < zs.length) : zs.toArray[i]! ≤ zs.toArray[j]! := by
 have := List.pairwise_iff_getElem.1 h i j (by omega) hj hij
 rw [getElem!_pos zs.toArray i (by simp; omega), getElem!_pos zs.toArray j (by simpa using hj)]
 simpa using this
theorem asc_compact {zs : List Txt} (h : zs.Pairwise (fun a b => decide (a ≤ b) = true)) : Asc (compact zs) := by
 unfold Asc compact compactUpTo
 rw [List.pairwise_map]
 have h1 : ((List.range zs.length).filter (keeps zs.toArray)).Pairwise (· < ·) := List.Pairwise.filter _ List.pairwise_lt_range
 refine List.Pairwise.imp_of_mem ?_ h1
 intro a b ha hb hab
 rw [List.mem_filter, List.mem_range] at ha hb
 have hk := (keeps_iff _ _).1 hb.2
 have hne : zs.toArray[b]! ≠ zs.toArray[b - 1]! := by
  rcases hk with h0 | h0
  ·
   omega
  ·
   exact h0
 have h2 : zs.toArray[b - 1]! ≤ zs.toArray[b]! := pair_get h (by omega) hb.1
 have h3 : zs.toArray[a]! ≤ zs.toArray[b - 1]! := by
  by_cases e : a = b - 1
  ·
   subst e; exact List.le_refl _
  ·
   exact pair_get h (by omega) (by omega)
 have h4 : zs.toArray[b - 1]! < zs.toArray[b]! := by
  by_cases hlt : zs.toArray[b - 1]! < zs.toArray[b]!
  ·
   exact hlt
  ·
   exact absurd (List.le_antisymm (List.not_lt.1 hlt) h2) hne
 exact List.lt_of_le_of_lt h3 h4
theorem sorted_compact (l : List Txt) : compact (l.mergeSort fun x y => decide (x ≤ y)) = setL l := by
 have hp : (l.mergeSort fun x y => decide (x ≤ y)).Pairwise (fun a b => decide (a ≤ b) = true) := by
  refine List.pairwise_mergeSort ?_ ?_ l
  ·
   intro a b c h1 h2
   simp only [decide_eq_true_eq] at h1 h2 ⊢
   exact List.le_trans h1 h2
  ·
   intro a b
   simp only [Bool.or_eq_true, decide_eq_true_eq]
   exact List.le_total a b
 refine asc_ext _ _ (asc_compact hp) (asc_setL l) fun y => ?_
 rw [mem_compact, List.mem_mergeSort, mem_setL]
end Go.Proofs.YtpgobnhklnglhaaDoor.M
namespace Go.Proofs.YtpgobnhklnglhaaDoor.M
open Go.RowKit Go.Proofs.YtpgobnhklnglhaaDoorW.PrintWords
theorem rdB (l : List Txt) (n : Nat) (h : n < l.length) : rdOf ByteArray.empty (l.map B) (n : Int) = B (l.getD n []) := by
 simp [rdOf, List.getD_eq_getElem?_getD, h]
theorem exBs (l : List ByteArray) : ∃ m : List Txt, l = m.map B := ⟨l.map fun x => x.data.toList, by rw [List.map_map]; exact ((List.map_congr_left (fun x _ => B_data x)).trans (List.map_id _)).symm⟩
theorem map_B_inj {l m : List Txt} (h : l.map B = m.map B) : l = m := (List.map_inj_right (fun _ _ h => B_inj h)).1 h
end Go.Proofs.YtpgobnhklnglhaaDoor.M
namespace Go.Proofs.YtpgobnhklnglhaaDoor.L
open Go.RowKit Go.Proofs.YtpgobnhklnglhaaDoor.P Go.Proofs.YtpgobnhklnglhaaDoor.M Go.Proofs.YtpgobnhklnglhaaDoorW.PrintWords Go.Proofs.YtpgobnhklnglhaaDoorW.PrintLast Go.Proofs.YtpgobnhklnglhaaDoorW.PrintMore
set_option linter.unusedVariables false
theorem map_data (l : List Txt) : (l.map B).map (fun x => x.data.toList) = l := by
 rw [List.map_map]
 exact (List.map_congr_left (fun x _ => data_B x)).trans (List.map_id _)
theorem l2Put_eq (l : List Txt) (w : Txt) (h : l.length ≤ 4294967296) (h2 : ∀ x ∈ l, x.length ≤ 4611686018427387900) : spec_l2Put.f (l.map B) (B w) = some ((putL l w).map B) := by
 have hall : ((l.map B).all fun x => decide (x.size ≤ 4611686018427387900)) = true := List.all_eq_true.2 fun x hx => by
  obtain ⟨y, hy, rfl⟩ := List.mem_map.1 hx
  simpa using h2 y hy
 unfold spec_l2Put.f
 rw [map_data, data_B, if_pos ⟨by simpa using h, hall⟩]
theorem set_eq (l : List Txt) (h : l.length ≤ 4294967296) : impl_set.f (l.map B) = some ((setL l).map B) := by
 unfold impl_set.f
 rw [if_pos (by simpa using h), map_data, sorted_compact]
 rfl
end Go.Proofs.YtpgobnhklnglhaaDoor.L
namespace Go.Proofs.YtpgobnhklnglhaaDoor.M
theorem txt_lt_snoc : ∀ (p : Txt) (x : UInt8), p < p ++ [x]
 | [], x => List.nil_lt_cons x []
 | a :: p, x => List.cons_lt_cons_iff.2 (.inr ⟨rfl, txt_lt_snoc p x⟩)
theorem dropLast_getD (p : Txt) (h : p ≠ []) : p.dropLast ++ [p.getD (p.length - 1) 0] = p := by
 have h0 := List.length_pos_iff.2 h
 have h1 : p.length - 1 < p.length := by omega
 rw [List.dropLast_eq_take, getD_lt 0 h1, ← List.take_succ_eq_append_getElem h1, List.take_of_length_le (by omega)]
theorem txt_dropLast_lt (p : Txt) (h : p ≠ []) : p.dropLast < p := by
 have := txt_lt_snoc p.dropLast (p.getD (p.length - 1) 0)
 rwa [dropLast_getD p h] at this
def Clo (P : List Txt) : Prop := [] ∈ P ∧ ∀ p ∈ P, p ≠ [] → p.dropLast ∈ P
def begs (w : Txt) : List Txt := (List.range w.length).map fun n => w.take (n + 1)
def preL (ws : List Txt) : List Txt := setL ([] :: ws.flatMap begs)
theorem mem_begs {w p : Txt} : p ∈ begs w ↔ p ≠ [] ∧ p <+: w := by
 constructor
 ·
  intro h
  obtain ⟨n, hn, rfl⟩ := List.mem_map.1 h
  rw [List.mem_range] at hn
  exact ⟨fun e => by have := congrArg List.length e; rw [List.length_take, List.length_nil] at this; omega, List.take_prefix _ _⟩
 ·
  rintro ⟨h1, h2⟩
  have h3 := h2.length_le
  have h4 := List.length_pos_iff.2 h1
  refine List.mem_map.2 ⟨p.length - 1, List.mem_range.2 (by omega), ?_⟩
  rw [show p.length - 1 + 1 = p.length from by omega]
  exact (List.prefix_iff_eq_take.1 h2).symm
theorem mem_preL {ws : List Txt} {p : Txt} : p ∈ preL ws ↔ p = [] ∨ ∃ w ∈ ws, p ≠ [] ∧ p <+: w := by
 unfold preL
 rw [mem_setL, List.mem_cons, List.mem_flatMap]
 simp only [mem_begs]
theorem clo_preL (ws : List Txt) : Clo (preL ws) := by
 refine ⟨mem_preL.2 (.inl rfl), fun p hp hne => ?_⟩
 rcases mem_preL.1 hp with rfl | ⟨w, hw, _, h⟩
 ·
  exact absurd rfl hne
 ·
  by_cases h0 : p.dropLast = []
  ·
   rw [h0]; exact mem_preL.2 (.inl rfl)
  ·
   exact mem_preL.2 (.inr ⟨w, hw, h0, (List.dropLast_prefix p).trans h⟩)
theorem asc_preL (ws : List Txt) : Asc (preL ws) := asc_setL _
theorem self_preL {ws : List Txt} {w : Txt} (h : w ∈ ws) : w ∈ preL ws := by
 by_cases h0 : w = []
 ·
  rw [h0]; exact mem_preL.2 (.inl rfl)
 ·
  exact mem_preL.2 (.inr ⟨w, h, h0, List.prefix_refl _⟩)
theorem preL_congr {ws vs : List Txt} (h : ∀ w, w ∈ ws ↔ w ∈ vs) : preL ws = preL vs :=
 asc_ext _ _ (asc_preL _) (asc_preL _) fun y => by rw [mem_preL, mem_preL]; simp only [h]
theorem foldl_putL_len : ∀ (l acc : List Txt), (l.foldl putL acc).length ≤ acc.length + l.length
 | [], _ => Nat.le_refl _
 | x :: l, acc => by
  have h1 := foldl_putL_len l (putL acc x)
  have h2 := putL_length_le acc x
  rw [List.foldl_cons, List.length_cons]; omega
theorem setL_length_le (l : List Txt) : (setL l).length ≤ l.length := by have := foldl_putL_len l []; simpa [setL] using this
theorem begs_length (w : Txt) : (begs w).length = w.length := by simp [begs]
theorem flatMap_begs_length : ∀ (ws : List Txt), (∀ w ∈ ws, w.length ≤ 12) → (ws.flatMap begs).length ≤ 12 * ws.length
 | [], _ => by simp
 | w :: ws, h => by
  have h1 := flatMap_begs_length ws fun x hx => h x (List.mem_cons_of_mem _ hx)
  have h2 := h w (by simp)
  rw [List.flatMap_cons, List.length_append, begs_length, List.length_cons]; omega
theorem preL_length {ws : List Txt} (h : ∀ w ∈ ws, w.length ≤ 12) : (preL ws).length ≤ 12 * ws.length + 1 := by
 have h1 := flatMap_begs_length ws h
 have h2 := setL_length_le ([] :: ws.flatMap begs)
 unfold preL
 rw [List.length_cons] at h2
 omega
def placeL : List Txt → Txt → Nat
 | [], _ => 0
 | x :: r, p => if x = p then 0 else placeL r p + 1
theorem placeL_le : ∀ (P : List Txt) (p : Txt), placeL P p ≤ P.length
 | [], _ => Nat.le_refl _
 | x :: r, p => by
  have := placeL_le r p
  by_cases h : x = p
  ·
   simp [placeL, h]
  ·
   simp only [placeL, if_neg h, List.length_cons]; omega
theorem placeL_mem : ∀ {P : List Txt} {p : Txt}, p ∈ P → placeL P p < P.length ∧ P.getD (placeL P p) [] = p
 | [], _, h => by simp at h
 | x :: r, p, h => by
  by_cases h0 : x = p
  ·
   simp [placeL, h0]
  ·
   have h1 : p ∈ r := by
    rcases List.mem_cons.1 h with e | e
    ·
     exact absurd e.symm h0
    ·
     exact e
   obtain ⟨h2, h3⟩ := placeL_mem h1
   simp only [placeL, if_neg h0, List.length_cons]
   exact ⟨by omega, by simpa using h3⟩
theorem getD_mem {P : List Txt} {i : Nat} (h : i < P.length) : P.getD i [] ∈ P := by rw [getD_lt [] h]; exact List.getElem_mem h
theorem asc_get {P : List Txt} (hA : Asc P) {i j : Nat} (hj : j < P.length) (hij : i < j) : P.getD i [] < P.getD j [] := by
 have := List.pairwise_iff_getElem.1 hA i j (by omega) hj hij
 rwa [getD_lt [] hj, getD_lt [] (show i < P.length by omega)]
theorem asc_get_lt {P : List Txt} (hA : Asc P) {i j : Nat} (hi : i < P.length) (hj : j < P.length) (h : P.getD i [] < P.getD j []) : i < j := by
 rcases Nat.lt_trichotomy i j with h1 | h1 | h1
 ·
  exact h1
 ·
  subst h1; exact absurd h (txt_irrefl _)
 ·
  exact absurd (asc_get hA hi h1) (txt_asymm h)
theorem asc_inj {P : List Txt} (hA : Asc P) {i j : Nat} (hi : i < P.length) (hj : j < P.length) (h : P.getD i [] = P.getD j []) : i = j := by
 rcases Nat.lt_trichotomy i j with h1 | h1 | h1
 ·
  exact absurd (h ▸ asc_get hA hj h1) (txt_irrefl _)
 ·
  exact h1
 ·
  exact absurd (h ▸ asc_get hA hi h1) (txt_irrefl _)
theorem placeL_get {P : List Txt} (hA : Asc P) {i : Nat} (hi : i < P.length) : placeL P (P.getD i []) = i := by
 obtain ⟨h1, h2⟩ := placeL_mem (getD_mem hi)
 exact asc_inj hA h1 hi h2
theorem clo_zero {P : List Txt} (hA : Asc P) (hC : Clo P) : 0 < P.length ∧ P.getD 0 [] = [] := by
 obtain ⟨h1, h2⟩ := placeL_mem hC.1
 refine ⟨by omega, ?_⟩
 rcases Nat.eq_zero_or_pos (placeL P []) with h0 | h0
 ·
  rwa [h0] at h2
 ·
  have := asc_get hA h1 h0
  rw [h2] at this
  exact absurd this (List.not_lt_nil _)
theorem clo_pos {P : List Txt} (hA : Asc P) (hC : Clo P) {i : Nat} (hi : i < P.length) (h0 : 0 < i) : P.getD i [] ≠ [] := fun e => by
 obtain ⟨h1, h2⟩ := clo_zero hA hC
 have := asc_inj hA hi h1 (e.trans h2.symm)
 omega
theorem clo_parent {P : List Txt} (hA : Asc P) (hC : Clo P) {i : Nat} (hi : i < P.length) (h0 : 0 < i) :
  placeL P (P.getD i []).dropLast < i ∧ P.getD (placeL P (P.getD i []).dropLast) [] = (P.getD i []).dropLast := by
 have hne := clo_pos hA hC hi h0
 obtain ⟨h1, h2⟩ := placeL_mem (hC.2 _ (getD_mem hi) hne)
 exact ⟨asc_get_lt hA h1 hi (by rw [h2]; exact txt_dropLast_lt _ hne), h2⟩
def ltrOf (p : Txt) : Int := (((p.getD (p.length - 1) 0).toNat : Int) - 97) % 256
def ndL (P ws : List Txt) (p : Txt) : Int × Int × Bool := (if p = [] then -1 else ltrOf p, if p = [] then -1 else (placeL P p.dropLast : Int), decide (p ∈ ws))
def nodesL (P ws : List Txt) : List (Int × Int × Bool) := P.map (ndL P ws)
def wordL (w : Txt) : Bool := w.all letterB && decide (w.length ≤ 12)
structure OkW (ws : List Txt) : Prop where
 asc : Asc ws
 len : ws.length ≤ 40
 word : ∀ w ∈ ws, wordL w = true
theorem wordL_iff {w : Txt} : wordL w = true ↔ (∀ c ∈ w, letterB c = true) ∧ w.length ≤ 12 := by
 unfold wordL
 rw [Bool.and_eq_true, List.all_eq_true, decide_eq_true_eq]
theorem OkW.le {ws : List Txt} (h : OkW ws) : ∀ w ∈ ws, w.length ≤ 12 := fun w hw => (wordL_iff.1 (h.word w hw)).2
theorem OkW.pre {ws : List Txt} (h : OkW ws) : (preL ws).length ≤ 481 := by
 have h1 := preL_length h.le
 have h2 := h.len
 omega
theorem wordL_pre {p w : Txt} (h : p <+: w) (hw : wordL w = true) : wordL p = true := by
 obtain ⟨h1, h2⟩ := wordL_iff.1 hw
 exact wordL_iff.2 ⟨fun c hc => h1 c (h.subset hc), Nat.le_trans h.length_le h2⟩
theorem preL_word {ws : List Txt} (h : ∀ w ∈ ws, wordL w = true) {p : Txt} (hp : p ∈ preL ws) : wordL p = true := by
 rcases mem_preL.1 hp with rfl | ⟨w, hw, _, h1⟩
 ·
  rfl
 ·
  exact wordL_pre h1 (h w hw)
theorem letter_bd {c : UInt8} (h : letterB c = true) : 97 ≤ c.toNat ∧ c.toNat ≤ 122 := by simpa [letterB] using h
theorem getLast_mem {p : Txt} (h : p ≠ []) : p.getD (p.length - 1) 0 ∈ p := by
 have := List.length_pos_iff.2 h
 rw [getD_lt 0 (show p.length - 1 < p.length by omega)]
 exact List.getElem_mem _
theorem ltrOf_bd {p : Txt} (hw : wordL p = true) (h : p ≠ []) : ltrOf p = ((p.getD (p.length - 1) 0).toNat : Int) - 97 ∧ 0 ≤ ltrOf p ∧ ltrOf p ≤ 25 := by
 have h1 := letter_bd ((wordL_iff.1 hw).1 _ (getLast_mem h))
 unfold ltrOf
 omega
theorem filter_preL {ws : List Txt} (h : Asc ws) : (preL ws).filter (fun p => decide (p ∈ ws)) = ws := by
 refine asc_ext _ _ ((asc_preL ws).filter _) h fun y => ?_
 rw [List.mem_filter, decide_eq_true_eq]
 exact ⟨fun h => h.2, fun h => ⟨self_preL h, h⟩⟩
end Go.Proofs.YtpgobnhklnglhaaDoor.M
namespace Go.Proofs.YtpgobnhklnglhaaDoor.L
open Go.RowKit Go.Proofs.YtpgobnhklnglhaaDoor.P Go.Proofs.YtpgobnhklnglhaaDoor.M Go.Proofs.YtpgobnhklnglhaaDoorW.PrintWords Go.Proofs.YtpgobnhklnglhaaDoorW.PrintLast Go.Proofs.YtpgobnhklnglhaaDoorW.PrintMore
set_option linter.unusedVariables false
theorem l1In_eq (a b c : Int) : spec_l1In.f a b c = some (decide (b ≤ a ∧ a ≤ c)) := by
 unfold spec_l1In.f
 by_cases h : b ≤ a
 ·
  rw [if_pos (by omega)]; simp [h]
 ·
  rw [if_neg (by omega)]; simp [h]
instance : DecidableEq S70 := fun a b => if h : a.f0 = b.f0 ∧ a.f1 = b.f1 ∧ a.f2 = b.f2 then isTrue (by obtain ⟨a0, a1, a2⟩ := a; obtain ⟨b0, b1, b2⟩ := b; obtain ⟨h1, h2, h3⟩ := h; simp only at h1 h2 h3; subst h1 h2 h3; rfl) else isFalse (fun e => h (by rw [e]; exact ⟨rfl, rfl, rfl⟩))
def mkN (x : Int × Int × Bool) : S70 := ⟨x.1, x.2.1, x.2.2⟩
def trN (P ws : List Txt) : List S70 := (nodesL P ws).map mkN
theorem trN_length (P ws : List Txt) : (trN P ws).length = P.length := by simp [trN, nodesL]
theorem rdN (P ws : List Txt) (i : Nat) (h : i < P.length) : rd_T70 (trN P ws) (i : Int) = mkN (ndL P ws (P.getD i [])) := by
 unfold rd_T70 trN nodesL
 rw [Int.toNat_natCast, getD_lt _ (by simpa using h), getD_lt _ h]
 simp
theorem strOfNums_B (n : Int) : strOfNums [n] = B [UInt8.ofNat n.toNat] := rfl
theorem letter_back {p : Txt} (hw : wordL p = true) (h : p ≠ []) : strOfNums [(wrap64 (97 + ltrOf p)) % 256] = B [p.getD (p.length - 1) 0] := by
 obtain ⟨h1, h2, h3⟩ := ltrOf_bd hw h
 have h4 := letter_bd ((wordL_iff.1 hw).1 _ (getLast_mem h))
 rw [strOfNums_B]
 congr 2
 have e : (wrap64 (97 + ltrOf p) % 256).toNat = (p.getD (p.length - 1) 0).toNat := by rw [wrap64_id (by omega) (by omega)]; omega
 rw [e]
 simp
theorem l2Word_loop (l : Txt) (hl : l.length ≤ 4611686018427387903) : ∀ (d n : Nat), n + d = l.length → Ev (fun k => spec_l2Word.l0 k (B l) (n : Int)) ((l.drop n).all letterB && decide (l.length ≤ 12)) := by
 have last : ∀ n : Nat, Ev (fun k => spec_l2Word.j1 k (B l) (n : Int) false) (decide (l.length ≤ 12)) := by
  intro n
  refine Ev.step (fun k => spec_l2Word.j1.eq_2 ..) (Ev.ifF (by simp) ?_)
  have : decide (((B l).size : Int) ≤ 12) = decide (l.length ≤ 12) := by simp; omega
  rw [this]; exact Ev.now _
 intro d
 induction d with
 | zero =>
  intro n hn
  refine Ev.step (fun k => spec_l2Word.l0.eq_2 ..) (Ev.ifF (by simp; omega) ?_)
  rw [List.drop_of_length_le (by omega)]; simpa using last n
 | succ d ih =>
  intro n hn
  have h1 : n < l.length := by omega
  refine Ev.step (fun k => spec_l2Word.l0.eq_2 ..) (Ev.ifT (by simp; omega) ?_)
  rw [drop_cons_getD 0 h1]
  by_cases h16 : n ≤ 12
  ·
   rw [show decide ((n : Int) ≤ 12) = true from by simp; omega]
   refine Ev.step (fun k => spec_l2Word.j1.eq_2 ..) (Ev.ifT rfl (Ev.ifT (by omega) (Ev.ifT (by simp; omega) ?_)))
   simp only [bt_B l n h1]
   by_cases ha : ((l.getD n 0).toNat : Int) < 97
   ·
    refine Ev.ifT ha ?_
    have : letterB (l.getD n 0) = false := by simp only [letterB, decide_eq_false_iff_not]; omega
    simpa only [List.all_cons, this, Bool.false_and] using Ev.now false
   refine Ev.ifF ha ?_
   by_cases hz : ((l.getD n 0).toNat : Int) > 122
   ·
    refine Ev.ifT hz ?_
    have : letterB (l.getD n 0) = false := by simp only [letterB, decide_eq_false_iff_not]; omega
    simpa only [List.all_cons, this, Bool.false_and] using Ev.now false
   refine Ev.ifF hz ?_
   have : letterB (l.getD n 0) = true := by simp only [letterB, decide_eq_true_eq]; omega
   simpa only [wrap64_succ n (by omega), List.all_cons, this, Bool.true_and] using ih (n + 1) (by omega)
  ·
   rw [show decide ((n : Int) ≤ 12) = false from by simp; omega]
   have : ((l.getD n 0 :: l.drop (n + 1)).all letterB && decide (l.length ≤ 12)) = decide (l.length ≤ 12) := by
    have : decide (l.length ≤ 12) = false := by simp; omega
    rw [this]; simp
   rw [this]; exact last n
theorem l2Word_ev (l : Txt) (hl : l.length ≤ 4611686018427387903) : Ev (fun k => spec_l2Word.f k (B l)) (wordL l) := by
 simpa [spec_l2Word.f, wordL] using l2Word_loop l hl l.length 0 (by omega)
theorem l2Prefix_last (x1 : Int) (s : Txt) (N : List S70) : Ev (fun k => spec_l2Prefix.j1 k x1 (B s) false N) (if x1 = 0 then B s else B [63]) := by
 refine Ev.step (fun k => spec_l2Prefix.j1.eq_2 ..) (Ev.ifF (by simp) ?_)
 by_cases h : x1 = 0
 ·
  have e : (if x1 = 0 then B s else B [63]) = B s := if_pos h
  rw [e]; exact Ev.ifT h (Ev.now _)
 ·
  have e : (if x1 = 0 then B s else B [63]) = B [63] := if_neg h
  rw [e]; exact Ev.ifF h (Ev.now _)
theorem l2Prefix_ex (N : List S70) : ∀ (d : Nat) (x1 : Int) (s : Txt), x1.toNat ≤ d → x1 < N.length → s.length ≤ 13 → ∃ r : Txt, r.length ≤ 13 ∧ Ev (fun k => spec_l2Prefix.l0 k x1 (B s) N) (B r) := by
 have low : ∀ (x1 : Int) (s : Txt), x1 ≤ 0 → s.length ≤ 13 → ∃ r : Txt, r.length ≤ 13 ∧ Ev (fun k => spec_l2Prefix.l0 k x1 (B s) N) (B r) := by
  intro x1 s h1 h2
  have hl := l2Prefix_last x1 s N
  by_cases h : x1 = 0
  ·
   rw [if_pos h] at hl; exact ⟨s, h2, Ev.step (fun k => spec_l2Prefix.l0.eq_2 ..) (Ev.ifF (by omega) hl)⟩
  ·
   rw [if_neg h] at hl; exact ⟨[63], by simp, Ev.step (fun k => spec_l2Prefix.l0.eq_2 ..) (Ev.ifF (by omega) hl)⟩
 intro d
 induction d with
 | zero => intro x1 s h1 h2 h3; exact low x1 s (by omega) h3
 | succ d ih =>
  intro x1 s h1 h2 h3
  by_cases hp : x1 ≤ 0
  ·
   exact low x1 s hp h3
  by_cases h12 : s.length ≤ 12
  ·
   have hd : decide (((B s).size : Int) ≤ 12) = true := by simp; omega
   by_cases hin : (0 : Int) ≤ (rd_T70 N x1).f0 ∧ (rd_T70 N x1).f0 ≤ 25
   ·
    by_cases hpar : (rd_T70 N x1).f1 ≥ x1
    ·
     refine ⟨[63], by simp, Ev.step (fun k => spec_l2Prefix.l0.eq_2 ..) (Ev.ifT (by omega) ?_)⟩
     rw [hd]
     refine Ev.step (fun k => spec_l2Prefix.j1.eq_2 ..) (Ev.ifT rfl (Ev.ifT (by omega) (Ev.ifT h2 ?_)))
     rw [l1In_eq, decide_eq_true hin]
     exact Ev.some_bind (Ev.ifT rfl (Ev.ifT hpar (Ev.now _)))
    ·
     obtain ⟨r, hr, he⟩ := ih (rd_T70 N x1).f1 (UInt8.ofNat ((wrap64 (97 + (rd_T70 N x1).f0)) % 256).toNat :: s) (by omega) (by omega) (by simp; omega)
     refine ⟨r, hr, Ev.step (fun k => spec_l2Prefix.l0.eq_2 ..) (Ev.ifT (by omega) ?_)⟩
     rw [hd]
     refine Ev.step (fun k => spec_l2Prefix.j1.eq_2 ..) (Ev.ifT rfl (Ev.ifT (by omega) (Ev.ifT h2 ?_)))
     rw [l1In_eq, decide_eq_true hin]
     refine Ev.some_bind (Ev.ifT rfl (Ev.ifF hpar (Ev.some_bind ?_)))
     rw [strOfNums_B, append_B]
     exact Ev.ifT (by simp; omega) he
   ·
    refine ⟨[63], by simp, Ev.step (fun k => spec_l2Prefix.l0.eq_2 ..) (Ev.ifT (by omega) ?_)⟩
    rw [hd]
    refine Ev.step (fun k => spec_l2Prefix.j1.eq_2 ..) (Ev.ifT rfl (Ev.ifT (by omega) (Ev.ifT h2 ?_)))
    rw [l1In_eq, decide_eq_false hin]
    exact Ev.some_bind (Ev.ifF (by simp) (Ev.now _))
  ·
   have hd : decide (((B s).size : Int) ≤ 12) = false := by simp; omega
   refine ⟨[63], by simp, Ev.step (fun k => spec_l2Prefix.l0.eq_2 ..) (Ev.ifT (by omega) ?_)⟩
   rw [hd]
   have hl := l2Prefix_last x1 s N
   rwa [if_neg (by omega)] at hl
theorem l2Prefix_up {P : List Txt} (ws : List Txt) (hA : Asc P) (hC : Clo P) (hW : ∀ p ∈ P, wordL p = true) : ∀ (n : Nat) (p s : Txt), p.length = n → p ∈ P → (p ++ s).length ≤ 12 → Ev (fun k => spec_l2Prefix.l0 k (placeL P p : Int) (B s) (trN P ws)) (B (p ++ s)) := by
 intro n
 induction n with
 | zero =>
  intro p s h1 h2 h3
  have hp : p = [] := List.eq_nil_of_length_eq_zero h1
  subst hp
  obtain ⟨z1, z2⟩ := clo_zero hA hC
  have hz : placeL P [] = 0 := by have := placeL_get hA z1; rwa [z2] at this
  rw [hz]
  have hl := l2Prefix_last ((0 : Nat) : Int) s (trN P ws)
  exact Ev.step (fun k => spec_l2Prefix.l0.eq_2 ..) (Ev.ifF (by simp) (by simpa using hl))
 | succ n ih =>
  intro p s h1 h2 h3
  have hne : p ≠ [] := fun e => by rw [e] at h1; simp at h1
  obtain ⟨i1, i2⟩ := placeL_mem h2
  have i3 : 0 < placeL P p := by
   rcases Nat.eq_zero_or_pos (placeL P p) with h0 | h0
   ·
    rw [h0, (clo_zero hA hC).2] at i2; exact absurd i2.symm hne
   ·
    exact h0
  obtain ⟨j1, j2⟩ := clo_parent hA hC i1 i3
  rw [i2] at j1 j2
  have hsl : s.length ≤ 12 := by rw [List.length_append] at h3; omega
  have hd : decide (((B s).size : Int) ≤ 12) = true := by simp; omega
  have hf : rd_T70 (trN P ws) (placeL P p : Int) = ⟨ltrOf p, (placeL P p.dropLast : Int), decide (p ∈ ws)⟩ := by
   rw [rdN P ws _ i1, i2]; unfold mkN ndL; rw [if_neg hne, if_neg hne]
  obtain ⟨_, b1, b2⟩ := ltrOf_bd (hW p h2) hne
  refine Ev.step (fun k => spec_l2Prefix.l0.eq_2 ..) (Ev.ifT (by omega) ?_)
  rw [hd]
  refine Ev.step (fun k => spec_l2Prefix.j1.eq_2 ..) (Ev.ifT rfl (Ev.ifT (by omega) (Ev.ifT (by rw [trN_length]; omega) ?_)))
  rw [hf, l1In_eq, decide_eq_true ⟨b1, b2⟩]
  refine Ev.some_bind (Ev.ifT rfl (Ev.ifF (by show ¬ ((placeL P p.dropLast : Nat) : Int) ≥ ((placeL P p : Nat) : Int); omega) (Ev.some_bind ?_)))
  rw [letter_back (hW p h2) hne, append_B]
  have hpd : p.dropLast.length = n := by rw [List.length_dropLast]; omega
  have e1 : p.dropLast ++ ([p.getD (p.length - 1) 0] ++ s) = p ++ s := by rw [← List.append_assoc, dropLast_getD p hne]
  refine Ev.ifT (by simp; omega) ?_
  have := ih p.dropLast ([p.getD (p.length - 1) 0] ++ s) hpd (hC.2 p h2 hne) (by rw [e1]; exact h3)
  rwa [e1] at this
theorem l2Prefix_ev {P : List Txt} (ws : List Txt) (hA : Asc P) (hC : Clo P) (hW : ∀ p ∈ P, wordL p = true) (i : Nat) (hi : i < P.length) : Ev (fun k => spec_l2Prefix.f k (trN P ws) (i : Int)) (B (P.getD i [])) := by
 have hm := getD_mem hi
 have := l2Prefix_up ws hA hC hW _ (P.getD i []) [] rfl hm (by rw [List.append_nil]; exact (wordL_iff.1 (hW _ hm)).2)
 rw [placeL_get hA hi, List.append_nil] at this
 exact this
def setR : List Txt → List Txt → List ByteArray × Bool
 | [], acc => (acc.map B, decide (acc.length ≤ 40))
 | w :: r, acc => if wordL w = true then setR r (putL acc w) else ([], false)
theorem setR_eq : ∀ (l acc : List Txt), setR l acc = if l.all wordL = true then ((l.foldl putL acc).map B, decide ((l.foldl putL acc).length ≤ 40)) else ([], false)
 | [], acc => rfl
 | w :: r, acc => by
  unfold setR
  rw [setR_eq r (putL acc w), List.all_cons, List.foldl_cons]
  cases h : wordL w with
  | false => rw [if_neg Bool.false_ne_true, if_neg (by rw [Bool.false_and]; exact Bool.false_ne_true)]
  | true => rw [if_pos rfl, Bool.true_and]
theorem l2Set_loop {b : Nat} (hb : b ≤ 1000000) (ws : List Txt) (hl : ws.length ≤ 2147483648) (hw : ∀ w ∈ ws, w.length ≤ b) : ∀ (d i : Nat) (acc : List Txt), i + d = ws.length → acc.length ≤ i → (∀ w ∈ acc, w.length ≤ b) →
  Ev (fun k => spec_l2Set.l0 k (ws.map B) (acc.map B) (i : Int)) (setR (ws.drop i) acc) := by
 intro d
 induction d with
 | zero =>
  intro i acc h1 h2 h3
  rw [List.drop_of_length_le (by omega)]
  refine Ev.step (fun k => spec_l2Set.l0.eq_2 ..) (Ev.ifF (by simp; omega) ?_)
  have : decide (((acc.map B).length : Int) ≤ 40) = decide (acc.length ≤ 40) := by
   rw [List.length_map]; exact decide_eq_decide.2 (by omega)
  rw [this]
  exact Ev.now _
 | succ d ih =>
  intro i acc h1 h2 h3
  have hi : i < ws.length := by omega
  have hm := getD_mem hi
  rw [drop_cons_getD [] hi]
  refine Ev.step (fun k => spec_l2Set.l0.eq_2 ..) (Ev.ifT (by simp; omega) (Ev.ifT (by omega) ?_))
  rw [rdB ws i hi]
  refine Ev.bind (f := fun k t => if t = true then (spec_l2Put.f (acc.map B) (B (ws.getD i []))).bind fun t165 => spec_l2Set.l0 k (ws.map B) t165 (wrap64 ((i : Int) + 1)) else some ([], false)) (l2Word_ev _ (by have := hw _ hm; omega)) ?_
  unfold setR
  cases hq : wordL (ws.getD i []) with
  | false =>
   rw [if_neg Bool.false_ne_true]
   exact Ev.ifF Bool.false_ne_true (Ev.now _)
  | true =>
   rw [if_pos (show true = true from rfl)]
   refine Ev.ifT rfl ?_
   rw [l2Put_eq acc _ (by omega) (fun x hx => by have := h3 x hx; omega)]
   refine Ev.some_bind ?_
   have h6 := putL_length_le acc (ws.getD i [])
   have := ih (i + 1) (putL acc (ws.getD i [])) (by omega) (by omega) (fun x hx => by
    rcases (mem_putL _ _ _).1 hx with rfl | hx
    ·
     exact hw _ hm
    ·
     exact h3 x hx)
   rw [wrap64_succ i (by omega)]
   exact this
theorem l2Set_ev {b : Nat} (ws : List Txt) (hl : ws.length ≤ 2147483648) (hw : ∀ w ∈ ws, w.length ≤ b) (hb : b ≤ 1000000 := by omega) : Ev (fun k => spec_l2Set.f k (ws.map B)) (if ws.all wordL = true then ((setL ws).map B, decide ((setL ws).length ≤ 40)) else ([], false)) := by
 have := l2Set_loop hb ws hl hw ws.length 0 [] (by omega) (by simp) (by simp)
 rw [List.drop_zero, setR_eq] at this
 exact this
theorem l2Has_loop (l : List Txt) (p : Txt) (hl : l.length ≤ 4611686018427387903) : ∀ (d i : Nat), i + d = l.length → Ev (fun k => spec_l2Has.l0 k (l.map B) (B p) (i : Int)) (decide (p ∈ l.drop i)) := by
 intro d
 induction d with
 | zero =>
  intro i h
  rw [List.drop_of_length_le (by omega)]
  exact Ev.step (fun k => spec_l2Has.l0.eq_2 ..) (Ev.ifF (by simp; omega) (by simpa using Ev.now false))
 | succ d ih =>
  intro i h
  have hi : i < l.length := by omega
  refine Ev.step (fun k => spec_l2Has.l0.eq_2 ..) (Ev.ifT (by simp; omega) (Ev.ifT (by omega) ?_))
  rw [rdB l i hi, drop_cons_getD [] hi, toList_B, toList_B]
  by_cases e : l.getD i [] = p
  ·
   rw [show decide (p ∈ l.getD i [] :: l.drop (i + 1)) = true from decide_eq_true (by rw [e]; exact List.mem_cons_self)]
   exact Ev.ifT e (Ev.now _)
  ·
   rw [show decide (p ∈ l.getD i [] :: l.drop (i + 1)) = decide (p ∈ l.drop (i + 1)) from decide_eq_decide.2 ⟨fun h => (List.mem_cons.1 h).resolve_left (fun q => e q.symm), fun h => List.mem_cons_of_mem _ h⟩]
   refine Ev.ifF e ?_
   rw [wrap64_succ i (by omega)]
   exact ih (i + 1) (by omega)
theorem l2Has_ev (l : List Txt) (p : Txt) (hl : l.length ≤ 4611686018427387903) : Ev (fun k => spec_l2Has.f k (l.map B) (B p)) (decide (p ∈ l)) := by
 have := l2Has_loop l p hl l.length 0 (by omega)
 rw [List.drop_zero] at this
 exact this
theorem l2Place_loop (l : List Txt) (p : Txt) (hl : l.length ≤ 4611686018427387903) : ∀ (d i : Nat), i + d = l.length → Ev (fun k => spec_l2Place.l0 k (l.map B) (B p) (i : Int)) (if p ∈ l.drop i then ((i + placeL (l.drop i) p : Nat) : Int) else -1) := by
 intro d
 induction d with
 | zero =>
  intro i h
  rw [List.drop_of_length_le (by omega)]
  exact Ev.step (fun k => spec_l2Place.l0.eq_2 ..) (Ev.ifF (by simp; omega) (by simpa using Ev.now (-1 : Int)))
 | succ d ih =>
  intro i h
  have hi : i < l.length := by omega
  refine Ev.step (fun k => spec_l2Place.l0.eq_2 ..) (Ev.ifT (by simp; omega) (Ev.ifT (by omega) ?_))
  rw [rdB l i hi, drop_cons_getD [] hi, toList_B, toList_B]
  by_cases e : l.getD i [] = p
  ·
   rw [if_pos (show p ∈ l.getD i [] :: l.drop (i + 1) from by rw [e]; exact List.mem_cons_self), placeL, if_pos e]
   exact Ev.ifT e (Ev.now _)
  ·
   refine Ev.ifF e ?_
   rw [wrap64_succ i (by omega)]
   have h1 := ih (i + 1) (by omega)
   by_cases hm : p ∈ l.drop (i + 1)
   ·
    rw [if_pos hm] at h1
    rw [if_pos (List.mem_cons_of_mem _ hm), placeL, if_neg e]
    rwa [show i + (placeL (l.drop (i + 1)) p + 1) = i + 1 + placeL (l.drop (i + 1)) p from by omega]
   ·
    rw [if_neg hm] at h1
    rw [if_neg (fun h => hm ((List.mem_cons.1 h).resolve_left (fun q => e q.symm)))]
    exact h1
theorem l2Place_ev (l : List Txt) (p : Txt) (hl : l.length ≤ 4611686018427387903) (h : p ∈ l) : Ev (fun k => spec_l2Place.f k (l.map B) (B p)) (placeL l p : Int) := by
 have := l2Place_loop l p hl l.length 0 (by omega)
 rw [List.drop_zero, if_pos h, Nat.zero_add] at this
 exact this
def begF (w : Txt) : Nat → Nat → List Txt
 | _, 0 => []
 | n, d + 1 => w.take n :: begF w (n + 1) d
theorem begF_eq (w : Txt) : ∀ d n, begF w n d = (List.range d).map fun j => w.take (n + j)
 | 0, _ => rfl
 | d + 1, n => by
  rw [begF, begF_eq w d (n + 1), List.range_succ_eq_map, List.map_cons, List.map_map]
  congr 1
  exact List.map_congr_left fun j _ => by show w.take (n + 1 + j) = w.take (n + (j + 1)); congr 1; omega
theorem begs_begF (w : Txt) : begs w = begF w 1 w.length := by
 rw [begF_eq]
 exact List.map_congr_left fun j _ => by congr 1; omega
theorem begF_len (w : Txt) : ∀ d n, (begF w n d).length = d := fun d n => by rw [begF_eq]; simp
theorem l2Of_in (ws : List Txt) (hl : ws.length ≤ 40) (hw : ∀ w ∈ ws, w.length ≤ 12) (i : Nat) (hi : i < ws.length) (r : List S70) (acc2 : List Txt) (hr : Ev (fun k => spec_l2Of.l0 k (ws.map B) (acc2.map B) ((i + 1 : Nat) : Int)) r) :
  ∀ (d n : Nat) (acc : List Txt), 0 < n → n + d = (ws.getD i []).length + 1 → (begF (ws.getD i []) n d).foldl putL acc = acc2 → acc.length + d ≤ 1000 → (∀ x ∈ acc, x.length ≤ 12) → Ev (fun k => spec_l2Of.l1 k (ws.map B) (acc.map B) (i : Int) (n : Int)) r := by
 have hwi := hw _ (getD_mem hi)
 intro d
 induction d with
 | zero =>
  intro n acc h0 h1 h2 h3 h4
  rw [begF, List.foldl_nil] at h2
  subst h2
  refine Ev.step (fun k => spec_l2Of.l1.eq_2 ..) (Ev.ifT (by omega) (Ev.ifT (by simp; omega) (Ev.ifF (by rw [rdB ws i hi, size_B]; omega) ?_)))
  rw [wrap64_succ i (by omega)]
  exact hr
 | succ d ih =>
  intro n acc h0 h1 h2 h3 h4
  refine Ev.step (fun k => spec_l2Of.l1.eq_2 ..) (Ev.ifT (by omega) (Ev.ifT (by simp; omega) (Ev.ifT (by rw [rdB ws i hi, size_B]; omega) (Ev.ifT (by omega) ?_))))
  rw [rdB ws i hi, extract_B, List.drop_zero, Int.toNat_natCast, Nat.sub_zero, l2Put_eq acc _ (by omega) (fun x hx => by have := h4 x hx; omega)]
  refine Ev.some_bind ?_
  rw [wrap64_succ n (by omega)]
  have h6 := putL_length_le acc ((ws.getD i []).take n)
  exact ih (n + 1) (putL acc ((ws.getD i []).take n)) (by omega) (by omega) (by rw [← h2]; rfl) (by omega) (fun x hx => by
   rcases (mem_putL _ _ _).1 hx with rfl | hx
   ·
    rw [List.length_take]; omega
   ·
    exact h4 x hx)
theorem l2Of_out (ws : List Txt) (hl : ws.length ≤ 40) (hw : ∀ w ∈ ws, w.length ≤ 12) (r : List S70) (all : List Txt) (hr : Ev (fun k => spec_l2Of.l2 k (ws.map B) (all.map B) 0 []) r) :
  ∀ (d i : Nat) (acc : List Txt), i + d = ws.length → ((ws.drop i).flatMap begs).foldl putL acc = all → acc.length + 12 * d ≤ 600 → (∀ x ∈ acc, x.length ≤ 12) → Ev (fun k => spec_l2Of.l0 k (ws.map B) (acc.map B) (i : Int)) r := by
 intro d
 induction d with
 | zero =>
  intro i acc h1 h2 h3 h4
  rw [List.drop_of_length_le (by omega), List.flatMap_nil, List.foldl_nil] at h2
  subst h2
  exact Ev.step (fun k => spec_l2Of.l0.eq_2 ..) (Ev.ifF (by simp; omega) hr)
 | succ d ih =>
  intro i acc h1 h2 h3 h4
  have hi : i < ws.length := by omega
  have hwi := hw _ (getD_mem hi)
  rw [drop_cons_getD [] hi, List.flatMap_cons, List.foldl_append] at h2
  have h5 := foldl_putL_len (begs (ws.getD i [])) acc
  rw [begs_length] at h5
  have hn := ih (i + 1) _ (by omega) h2 (by omega) (fun x hx => by
   rcases (foldl_putL_mem _ _ _).1 hx with hx | hx
   ·
    exact Nat.le_trans (mem_begs.1 hx).2.length_le hwi
   ·
    exact h4 x hx)
  refine Ev.step (fun k => spec_l2Of.l0.eq_2 ..) (Ev.ifT (by simp; omega) ?_)
  exact l2Of_in ws hl hw i hi r _ hn (ws.getD i []).length 1 acc (by omega) (by omega) (by rw [← begs_begF]) (by omega) h4
theorem l2Of_nodes {ws P : List Txt} (hA : Asc P) (hC : Clo P) (hW : ∀ p ∈ P, wordL p = true) (hP : P.length ≤ 1000) (hl : ws.length ≤ 1000) : ∀ (d i : Nat) (acc : List S70), i + d = P.length → acc.length ≤ i →
  Ev (fun k => spec_l2Of.l2 k (ws.map B) (P.map B) (i : Int) acc) (acc ++ ((P.drop i).map fun p => mkN (ndL P ws p))) := by
 intro d
 induction d with
 | zero =>
  intro i acc h1 h2
  rw [List.drop_of_length_le (by omega), List.map_nil, List.append_nil]
  exact Ev.step (fun k => spec_l2Of.l2.eq_2 ..) (Ev.ifF (by simp; omega) (Ev.now _))
 | succ d ih =>
  intro i acc h1 h2
  have hi : i < P.length := by omega
  have hm := getD_mem hi
  rw [drop_cons_getD [] hi, List.map_cons]
  refine Ev.step (fun k => spec_l2Of.l2.eq_2 ..) (Ev.ifT (by simp; omega) (Ev.ifT (by omega) ?_))
  rw [rdB P i hi]
  refine Ev.bind (l2Has_ev ws (P.getD i []) (by omega)) ?_
  have hcons : ∀ x : S70, acc ++ (x :: (P.drop (i + 1)).map fun p => mkN (ndL P ws p)) = (acc ++ [x]) ++ (P.drop (i + 1)).map fun p => mkN (ndL P ws p) := fun x => by simp
  rw [hcons]
  by_cases h0 : i = 0
  ·
   have hp : P.getD i [] = [] := by rw [h0]; exact (clo_zero hA hC).2
   refine Ev.ifF (by omega) (Ev.ifT (by omega) ?_)
   have hx : mkN (ndL P ws (P.getD i [])) = ⟨-1, -1, decide (P.getD i [] ∈ ws)⟩ := by unfold mkN ndL; rw [if_pos hp, if_pos hp]
   rw [hx, wrap64_succ i (by omega)]
   exact ih (i + 1) _ (by omega) (by simp; omega)
  ·
   have hne := clo_pos hA hC hi (by omega)
   have hlen := List.length_pos_iff.2 hne
   have h12 := (wordL_iff.1 (hW _ hm)).2
   have hw1 : wrap64 (((B (P.getD i [])).size : Int) - 1) = ((P.getD i []).length - 1 : Nat) := by rw [size_B, wrap64_id (by omega) (by omega)]; omega
   rw [hw1]
   refine Ev.ifT (by omega) (Ev.ifT (by omega) (Ev.ifT (by rw [size_B]; omega) (Ev.ifT (by rw [size_B]; omega) ?_)))
   rw [extract_B, List.drop_zero, Int.toNat_natCast, Nat.sub_zero, ← List.dropLast_eq_take]
   refine Ev.bind (l2Place_ev P _ (by omega) (hC.2 _ hm hne)) (Ev.ifT (by omega) ?_)
   have hx : mkN (ndL P ws (P.getD i [])) = ⟨((bt (B (P.getD i [])) (((P.getD i []).length - 1 : Nat) : Int)) - 97) % 256, (placeL P (P.getD i []).dropLast : Int), decide (P.getD i [] ∈ ws)⟩ := by
    unfold mkN ndL
    rw [if_neg hne, if_neg hne, bt_B _ _ (by omega)]
    rfl
   rw [hx, wrap64_succ i (by omega)]
   exact ih (i + 1) _ (by omega) (by simp; omega)
theorem l2Of_ev {ws : List Txt} (h : OkW ws) : Ev (fun k => spec_l2Of.f k (ws.map B)) (trN (preL ws) ws) := by
 have h1 := h.pre
 have h2 := h.len
 have hn := l2Of_nodes (ws := ws) (asc_preL ws) (clo_preL ws) (fun p hp => preL_word h.word hp) (by omega) (by omega) (preL ws).length 0 [] (by omega) (by simp)
 rw [List.drop_zero, List.nil_append] at hn
 have e : (preL ws).map (fun p => mkN (ndL (preL ws) ws p)) = trN (preL ws) ws := by unfold trN nodesL; rw [List.map_map]; rfl
 rw [e] at hn
 exact l2Of_out ws h.len h.le _ (preL ws) hn ws.length 0 [[]] (by omega) rfl (by simp; omega) (by simp)
theorem rd_get (N : List S70) (i : Nat) (h : i < N.length) : rd_T70 N (i : Int) = N[i] := by
 unfold rd_T70
 rw [Int.toNat_natCast, getD_lt _ h]
theorem okW_setL {ws : List Txt} (h : ws.all wordL = true) (hl : (setL ws).length ≤ 40) : OkW (setL ws) := ⟨asc_setL ws, hl, fun w hw => List.all_eq_true.1 h w ((mem_setL ws w).1 hw)⟩
def IsTr (N : List S70) : Prop := ∃ ws, OkW ws ∧ N = trN (preL ws) ws
theorem IsTr.len {N : List S70} (h : IsTr N) : 1 ≤ N.length ∧ N.length ≤ 481 := by
 obtain ⟨ws, h, rfl⟩ := h
 rw [trN_length]
 exact ⟨(clo_zero (asc_preL ws) (clo_preL ws)).1, h.pre⟩
theorem areLettersW_eq (l : List UInt8) (hl : l.length ≤ 9223372036854775807) : impl_areLetters.f (B l) = some (l.all letterB) := by
 unfold impl_areLetters.f
 rw [if_pos (by simpa using hl), data_B]
 rfl
theorem isWord_eq (l : List UInt8) : impl_isWord.f (B l) = some (wordL l) := by
 unfold impl_isWord.f wordL
 by_cases h : l.length ≤ 12
 ·
  rw [if_pos (by simp; omega), areLettersW_eq l (by omega)]; simp [h]
 ·
  rw [if_neg (by simp; omega)]; simp [h]
end Go.Proofs.YtpgobnhklnglhaaDoor.L
namespace Go.Proofs.YtpgobnhklnglhaaDoor.M
theorem mem_foldl_of {α β : Type} (f : List α → β → List α) (P : β → α → Prop) (h : ∀ acc x y, y ∈ f acc x ↔ y ∈ acc ∨ P x y) : ∀ (l : List β) (acc : List α) (y : α), y ∈ l.foldl f acc ↔ y ∈ acc ∨ ∃ x ∈ l, P x y
 | [], acc, y => by simp
 | x :: l, acc, y => by
  rw [List.foldl_cons, mem_foldl_of f P h l, h]
  simp only [List.mem_cons, exists_eq_or_imp]
  constructor
  ·
   rintro ((h | h) | h)
   ·
    exact .inl h
   ·
    exact .inr (.inl h)
   ·
    exact .inr (.inr h)
  ·
   rintro (h | h | h)
   ·
    exact .inl (.inl h)
   ·
    exact .inl (.inr h)
   ·
    exact .inr h
theorem asc_foldl_of {β : Type} (f : List Txt → β → List Txt) (h : ∀ acc x, Asc acc → Asc (f acc x)) : ∀ (l : List β) (acc : List Txt), Asc acc → Asc (l.foldl f acc)
 | [], _, h0 => h0
 | x :: l, acc, h0 => by rw [List.foldl_cons]; exact asc_foldl_of f h l _ (h acc x h0)
theorem len_foldl_of {β : Type} (f : List Txt → β → List Txt) (m : Nat) (h : ∀ acc x, (f acc x).length ≤ acc.length + m) : ∀ (l : List β) (acc : List Txt), (l.foldl f acc).length ≤ acc.length + m * l.length
 | [], acc => by simp
 | x :: l, acc => by
  have h1 := len_foldl_of f m h l (f acc x)
  have h2 := h acc x
  rw [List.foldl_cons, List.length_cons, Nat.mul_succ]; omega
def insT (w : Txt) (i : Nat) (c : Txt) : Txt := w.take i ++ c ++ w.drop i
def repT (w : Txt) (i : Nat) (c : Txt) : Txt := w.take i ++ c ++ w.drop (i + 1)
def delT (w : Txt) (i : Nat) : Txt := w.take i ++ w.drop (i + 1)
def stepI (w : Txt) (i : Nat) (acc : List Txt) (c : Txt) : List Txt :=
 if i < w.length ∧ c ≠ (w.drop i).take 1 then putL (if w.length < 12 then putL acc (insT w i c) else acc) (repT w i c) else (if w.length < 12 then putL acc (insT w i c) else acc)
def stepO (w : Txt) (ls : List Txt) (acc : List Txt) (i : Nat) : List Txt :=
 if i < w.length then putL (ls.foldl (stepI w i) acc) (delT w i) else ls.foldl (stepI w i) acc
def editS (w : Txt) (ls : List Txt) : List Txt := (List.range (w.length + 1)).foldl (stepO w ls) []
theorem mem_stepI (w : Txt) (i : Nat) (acc : List Txt) (c y : Txt) : y ∈ stepI w i acc c ↔ y ∈ acc ∨ ((w.length < 12 ∧ y = insT w i c) ∨ (i < w.length ∧ c ≠ (w.drop i).take 1 ∧ y = repT w i c)) := by
 unfold stepI
 by_cases h1 : i < w.length ∧ c ≠ (w.drop i).take 1
 ·
  rw [if_pos h1, mem_putL]
  by_cases h2 : w.length < 12
  ·
   rw [if_pos h2, mem_putL]
   constructor
   ·
    rintro (h | h | h)
    ·
     exact .inr (.inr ⟨h1.1, h1.2, h⟩)
    ·
     exact .inr (.inl ⟨h2, h⟩)
    ·
     exact .inl h
   ·
    rintro (h | ⟨_, h⟩ | ⟨_, _, h⟩)
    ·
     exact .inr (.inr h)
    ·
     exact .inr (.inl h)
    ·
     exact .inl h
  ·
   rw [if_neg h2]
   constructor
   ·
    rintro (h | h)
    ·
     exact .inr (.inr ⟨h1.1, h1.2, h⟩)
    ·
     exact .inl h
   ·
    rintro (h | ⟨h, _⟩ | ⟨_, _, h⟩)
    ·
     exact .inr h
    ·
     exact absurd h h2
    ·
     exact .inl h
 ·
  rw [if_neg h1]
  by_cases h2 : w.length < 12
  ·
   rw [if_pos h2, mem_putL]
   constructor
   ·
    rintro (h | h)
    ·
     exact .inr (.inl ⟨h2, h⟩)
    ·
     exact .inl h
   ·
    rintro (h | ⟨_, h⟩ | ⟨a, b, _⟩)
    ·
     exact .inr h
    ·
     exact .inl h
    ·
     exact absurd ⟨a, b⟩ h1
  ·
   rw [if_neg h2]
   constructor
   ·
    exact .inl
   ·
    rintro (h | ⟨h, _⟩ | ⟨a, b, _⟩)
    ·
     exact h
    ·
     exact absurd h h2
    ·
     exact absurd ⟨a, b⟩ h1
theorem mem_stepO (w : Txt) (ls acc : List Txt) (i : Nat) (y : Txt) : y ∈ stepO w ls acc i ↔ y ∈ acc ∨ ((∃ c ∈ ls, (w.length < 12 ∧ y = insT w i c) ∨ (i < w.length ∧ c ≠ (w.drop i).take 1 ∧ y = repT w i c)) ∨ (i < w.length ∧ y = delT w i)) := by
 have hm := mem_foldl_of (stepI w i) _ (mem_stepI w i) ls acc y
 unfold stepO
 by_cases h : i < w.length
 ·
  rw [if_pos h, mem_putL, hm]
  constructor
  ·
   rintro (e | e | e)
   ·
    exact .inr (.inr ⟨h, e⟩)
   ·
    exact .inl e
   ·
    exact .inr (.inl e)
  ·
   rintro (e | e | ⟨_, e⟩)
   ·
    exact .inr (.inl e)
   ·
    exact .inr (.inr e)
   ·
    exact .inl e
 ·
  rw [if_neg h, hm]
  constructor
  ·
   rintro (e | e)
   ·
    exact .inl e
   ·
    exact .inr (.inl e)
  ·
   rintro (e | e | ⟨a, _⟩)
   ·
    exact .inl e
   ·
    exact .inr e
   ·
    exact absurd a h
theorem mem_editS (w : Txt) (ls : List Txt) (y : Txt) : y ∈ editS w ls ↔ ∃ i ∈ List.range (w.length + 1), (∃ c ∈ ls, (w.length < 12 ∧ y = insT w i c) ∨ (i < w.length ∧ c ≠ (w.drop i).take 1 ∧ y = repT w i c)) ∨ (i < w.length ∧ y = delT w i) := by
 unfold editS
 rw [mem_foldl_of (stepO w ls) _ (fun acc i y => mem_stepO w ls acc i y)]
 simp
theorem asc_stepI (w : Txt) (i : Nat) (acc : List Txt) (c : Txt) (h : Asc acc) : Asc (stepI w i acc c) := by
 unfold stepI
 split
 ·
  refine asc_putL _ _ ?_
  split
  ·
   exact asc_putL _ _ h
  ·
   exact h
 ·
  split
  ·
   exact asc_putL _ _ h
  ·
   exact h
theorem asc_stepO (w : Txt) (ls acc : List Txt) (i : Nat) (h : Asc acc) : Asc (stepO w ls acc i) := by
 have := asc_foldl_of (stepI w i) (asc_stepI w i) ls acc h
 unfold stepO
 split
 ·
  exact asc_putL _ _ this
 ·
  exact this
theorem asc_editS (w : Txt) (ls : List Txt) : Asc (editS w ls) := asc_foldl_of (stepO w ls) (asc_stepO w ls) _ _ List.Pairwise.nil
theorem len_stepI (w : Txt) (i : Nat) (acc : List Txt) (c : Txt) : (stepI w i acc c).length ≤ acc.length + 2 := by
 have h1 := putL_length_le acc (insT w i c)
 unfold stepI
 by_cases h2 : w.length < 12
 ·
  rw [if_pos h2]
  split
  ·
   have := putL_length_le (putL acc (insT w i c)) (repT w i c); omega
  ·
   omega
 ·
  rw [if_neg h2]
  split
  ·
   have := putL_length_le acc (repT w i c); omega
  ·
   omega
theorem len_stepO (w : Txt) (ls acc : List Txt) (i : Nat) : (stepO w ls acc i).length ≤ acc.length + (2 * ls.length + 1) := by
 have h1 := len_foldl_of (stepI w i) 2 (len_stepI w i) ls acc
 unfold stepO
 split
 ·
  have := putL_length_le (ls.foldl (stepI w i) acc) (delT w i); omega
 ·
  omega
def editI (w : Txt) (ls : List Txt) : List Txt := (List.range (w.length + 1)).flatMap fun i => ls.flatMap fun c => insT w i c :: (if i < w.length then [repT w i c, delT w i] else [])
theorem mem_editI (w : Txt) (ls : List Txt) (y : Txt) : y ∈ editI w ls ↔ ∃ i ∈ List.range (w.length + 1), ∃ c ∈ ls, y = insT w i c ∨ (i < w.length ∧ (y = repT w i c ∨ y = delT w i)) := by
 unfold editI
 simp only [List.mem_flatMap, List.mem_cons]
 refine exists_congr fun i => and_congr_right fun _ => exists_congr fun c => and_congr_right fun _ => or_congr_right ?_
 by_cases h : i < w.length
 ·
  rw [if_pos h]; simp [h]
 ·
  rw [if_neg h]; simp [h]
def OneL (c : Txt) : Prop := ∃ x, letterB x = true ∧ c = [x]
theorem word_app {a b : Txt} (ha : ∀ x ∈ a, letterB x = true) (hb : ∀ x ∈ b, letterB x = true) (h : a.length + b.length ≤ 12) : wordL (a ++ b) = true :=
 wordL_iff.2 ⟨fun x hx => (List.mem_append.1 hx).elim (ha x) (hb x), by rw [List.length_append]; exact h⟩
theorem rep_ne (w : Txt) (i : Nat) (hi : i < w.length) (c : Txt) (hc : OneL c) : repT w i c = w ↔ c = (w.drop i).take 1 := by
 obtain ⟨x, _, rfl⟩ := hc
 have hd : w.drop i = w[i] :: w.drop (i + 1) := List.drop_eq_getElem_cons hi
 have e : w = w.take i ++ ([w[i]] ++ w.drop (i + 1)) := by
  conv => lhs; rw [← List.take_append_drop i w, hd]
  rfl
 unfold repT
 rw [hd]
 constructor
 ·
  intro h
  rw [List.append_assoc] at h
  have h2 := List.append_cancel_left (h.trans e)
  simp only [List.cons_append, List.nil_append, List.cons.injEq] at h2
  rw [h2.1]; rfl
 ·
  intro h
  have hx : x = w[i] := (List.cons.inj (show [x] = w[i] :: [] from h)).1
  rw [List.append_assoc, hx]
  exact e.symm
theorem edits_same {w : Txt} (hw : wordL w = true) {ls : List Txt} (h1 : ∀ c ∈ ls, OneL c) (h0 : ∃ c, c ∈ ls) : (setL (editI w ls)).filter (fun o => !(decide (o = w) || !wordL o)) = editS w ls := by
 obtain ⟨w1, w2⟩ := wordL_iff.1 hw
 have ht : ∀ i, ∀ x ∈ w.take i, letterB x = true := fun i x hx => w1 x (List.mem_of_mem_take hx)
 have hd : ∀ i, ∀ x ∈ w.drop i, letterB x = true := fun i x hx => w1 x (List.mem_of_mem_drop hx)
 refine asc_ext _ _ ((asc_setL _).filter _) (asc_editS w ls) fun y => ?_
 rw [List.mem_filter, mem_setL, mem_editI, mem_editS, Bool.not_eq_true', Bool.or_eq_false_iff, decide_eq_false_iff_not, Bool.not_eq_false']
 constructor
 ·
  rintro ⟨⟨i, hi, c, hc, h⟩, hne, hwd⟩
  refine ⟨i, hi, ?_⟩
  have hi2 := List.mem_range.1 hi
  rcases h with rfl | ⟨hil, rfl | rfl⟩
  ·
   refine .inl ⟨c, hc, .inl ⟨?_, rfl⟩⟩
   have := (wordL_iff.1 hwd).2
   obtain ⟨x, _, rfl⟩ := h1 c hc
   unfold insT at this
   simp at this
   omega
  ·
   refine .inl ⟨c, hc, .inr ⟨hil, fun e => hne ((rep_ne w i hil c (h1 c hc)).2 e), rfl⟩⟩
  ·
   exact .inr ⟨hil, rfl⟩
 ·
  rintro ⟨i, hi, h⟩
  have hi2 := List.mem_range.1 hi
  rcases h with ⟨c, hc, ⟨hl, rfl⟩ | ⟨hil, hx, rfl⟩⟩ | ⟨hil, rfl⟩
  ·
   refine ⟨⟨i, hi, c, hc, .inl rfl⟩, fun e => ?_, ?_⟩
   ·
    obtain ⟨x, _, rfl⟩ := h1 c hc
    have := congrArg List.length e
    unfold insT at this
    simp at this
    omega
   ·
    obtain ⟨x, hx, rfl⟩ := h1 c hc
    unfold insT
    rw [List.append_assoc]
    refine word_app (ht i) (fun z hz => ?_) (by simp; omega)
    rcases List.mem_append.1 hz with h | h
    ·
     rw [List.mem_singleton.1 h]; exact hx
    ·
     exact hd i z h
  ·
   refine ⟨⟨i, hi, c, hc, .inr ⟨hil, .inl rfl⟩⟩, fun e => hx ((rep_ne w i hil c (h1 c hc)).1 e), ?_⟩
   obtain ⟨x, hx2, rfl⟩ := h1 c hc
   unfold repT
   rw [List.append_assoc]
   refine word_app (ht i) (fun z hz => ?_) (by simp; omega)
   rcases List.mem_append.1 hz with h | h
   ·
    rw [List.mem_singleton.1 h]; exact hx2
   ·
    exact hd _ z h
  ·
   obtain ⟨c, hc⟩ := h0
   refine ⟨⟨i, hi, c, hc, .inr ⟨hil, .inr rfl⟩⟩, fun e => ?_, ?_⟩
   ·
    have := congrArg List.length e
    unfold delT at this
    simp at this
    omega
   ·
    unfold delT
    exact word_app (ht i) (hd _) (by simp; omega)
end Go.Proofs.YtpgobnhklnglhaaDoor.M
namespace Go.Proofs.YtpgobnhklnglhaaDoor.L
open Go.RowKit Go.Proofs.YtpgobnhklnglhaaDoor.P Go.Proofs.YtpgobnhklnglhaaDoor.M Go.Proofs.YtpgobnhklnglhaaDoorW.PrintWords Go.Proofs.YtpgobnhklnglhaaDoorW.PrintLast Go.Proofs.YtpgobnhklnglhaaDoorW.PrintMore
set_option linter.unusedVariables false
theorem markText_loop : ∀ (d n : Nat) (acc : ByteArray), n < 10 ^ d → acc.size + d ≤ 4611686018427387903 → n ≤ 4611686018427387903 → ∃ m, Ev (fun k => laws_markText.l0 k (n : Int) acc) m := by
 intro d
 induction d with
 | zero =>
  intro n acc h1 h2 h3
  have h0 : n = 0 := by simpa using h1
  subst h0
  exact ⟨_, Ev.step (fun k => laws_markText.l0.eq_2 ..) (Ev.ifF (by omega) (Ev.ifT (by omega) (Ev.now _)))⟩
 | succ d ih =>
  intro n acc h1 h2 h3
  by_cases h0 : n = 0
  ·
   subst h0
   exact ⟨_, Ev.step (fun k => laws_markText.l0.eq_2 ..) (Ev.ifF (by omega) (Ev.ifT (by omega) (Ev.now _)))⟩
  ·
   have hd : wrap64 (Int.tdiv (n : Int) 10) = ((n / 10 : Nat) : Int) := by
    rw [Int.tdiv_eq_ediv_of_nonneg (by omega), wrap64_id (by omega) (by omega)]; rfl
   have hsz : ∀ x : Int, (strOfNums [x]).size = 1 := fun x => by simp [strOfNums, ← ByteArray.size_data]
   obtain ⟨m, hm⟩ := ih (n / 10) (strOfNums [(wrap64 (48 + (Int.tmod (n : Int) 10))) % 256] ++ acc) (by rw [Nat.pow_succ] at h1; omega) (by rw [ByteArray.size_append, hsz]; omega) (by omega)
   refine ⟨m, Ev.step (fun k => laws_markText.l0.eq_2 ..) (Ev.ifT (by omega) (Ev.some_bind (Ev.ifT (by rw [hsz]; omega) ?_)))⟩
   simpa only [hd] using hm
theorem markText_ex (n : Nat) (h0 : 0 < n) (h : n < 10 ^ 18) : ∃ m, Ev (fun k => laws_markText.f k (n : Int)) m := by
 obtain ⟨m, hm⟩ := markText_loop 18 n ⟨#[]⟩ h (by decide) (by omega)
 exact ⟨m, Ev.congr (fun k => by unfold laws_markText.f; rw [if_neg (by omega)]) hm⟩
open Classical in
noncomputable def mt (n : Nat) : ByteArray := if h : ∃ m, Ev (fun k => laws_markText.f k (n : Int)) m then Classical.choose h else ⟨#[]⟩
theorem mt_ev (n : Nat) (h0 : 0 < n) (h : n < 10 ^ 18) : Ev (fun k => laws_markText.f k (n : Int)) (mt n) := by
 have hx := markText_ex n h0 h
 unfold mt
 rw [dif_pos hx]
 exact Classical.choose_spec hx
theorem eqStringS_loop (l m : List Txt) (hl : l.length ≤ 4611686018427387903) (h : l.length = m.length) : ∀ (d n : Nat), n + d = l.length → Ev (fun k => laws_eqStringS.l0 k (l.map B) (m.map B) (n : Int)) (decide (l.drop n = m.drop n)) := by
 intro d
 induction d with
 | zero =>
  intro n hn
  refine Ev.step (fun k => laws_eqStringS.l0.eq_2 ..) (Ev.ifF (by simp; omega) ?_)
  rw [List.drop_of_length_le (by omega), List.drop_of_length_le (by omega)]; simpa using Ev.now true
 | succ d ih =>
  intro n hn
  have h1 : n < l.length := by omega
  refine Ev.step (fun k => laws_eqStringS.l0.eq_2 ..) (Ev.ifT (by simp; omega) (Ev.ifT (by omega) (Ev.ifT (by simp; omega) ?_)))
  rw [drop_cons_getD [] h1, drop_cons_getD [] (show n < m.length from by omega)]
  simp only [rdB l n h1, rdB m n (by omega), toList_B]
  by_cases e : l.getD n [] = m.getD n []
  ·
   refine Ev.ifT e ?_
   simpa only [wrap64_succ n (by omega), e, List.cons.injEq, true_and] using ih (n + 1) (by omega)
  ·
   refine Ev.ifF e ?_
   simpa only [e, List.cons.injEq, false_and, decide_false] using Ev.now false
theorem eqStringS_ev (l : List ByteArray) (hl : l.length ≤ 4611686018427387903) : Ev (fun k => laws_eqStringS.f k l l) true := by
 obtain ⟨l, rfl⟩ := exBs l
 refine Ev.congr (fun k => by unfold laws_eqStringS.f; rw [if_pos (by rfl)]) ?_
 simpa using eqStringS_loop l l (by simpa using hl) rfl l.length 0 (by omega)
noncomputable def marksT (n : Nat) (l : List ByteArray) : List ByteArray := (List.range n).map (fun j : Nat => mt (j + 1)) ++ l.drop n
theorem marksT_length (n : Nat) (l : List ByteArray) (h : n ≤ l.length) : (marksT n l).length = l.length := by simp [marksT]; omega
theorem marksT_set (n : Nat) (l : List ByteArray) (h : n < l.length) : (marksT n l).set n (mt (n + 1)) = marksT (n + 1) l := by
 unfold marksT
 rw [List.set_append_right _ _ (by simp), show ((List.range n).map fun j : Nat => mt (j + 1)).length = n from by simp, Nat.sub_self, drop_cons_getD ByteArray.empty h, List.set_cons_zero, List.range_succ, List.map_append, List.append_assoc]
 rfl
theorem markStringS_loop (l : List ByteArray) (hl : l.length ≤ 1000000000) : ∀ (d n : Nat), n + d = l.length → Ev (fun k => laws_markStringS.l0 k (marksT n l) ((n : Int) + 1) (n : Int)) ((l.length : Int) + 1, marksT l.length l) := by
 intro d
 induction d with
 | zero =>
  intro n hn
  refine Ev.step (fun k => laws_markStringS.l0.eq_2 ..) (Ev.ifF (by rw [marksT_length n l (by omega)]; omega) ?_)
  rw [show n = l.length from by omega]; exact Ev.now _
 | succ d ih =>
  intro n hn
  refine Ev.step (fun k => laws_markStringS.l0.eq_2 ..) (Ev.ifT (by rw [marksT_length n l (by omega)]; omega) (Ev.bind (mt_ev (n + 1) (by omega) (by omega)) (Ev.ifT (by omega) ?_)))
  have := ih (n + 1) (by omega)
  rw [← marksT_set n l (by omega)] at this
  rw [show wrap64 ((n : Int) + 1 + 1) = ((n + 1 : Nat) : Int) + 1 from by rw [wrap64_id (by omega) (by omega)]; omega]
  simpa only [Int.toNat_natCast, wrap64_succ n (by omega)] using this
theorem markStringS_ev (l : List ByteArray) (hl : l.length ≤ 1000000000) : Ev (fun k => laws_markStringS.f k l 1) ((l.length : Int) + 1, marksT l.length l) := by
 have := markStringS_loop l hl l.length 0 (by omega)
 simpa [laws_markStringS.f, marksT] using this
theorem marksT_rd (n : Nat) (l : List ByteArray) (j : Nat) (h : j < n) : rdOf ByteArray.empty (marksT n l) (j : Int) = mt (j + 1) := by
 simp [marksT, rdOf, List.getElem?_append, h]
theorem heldStringS_loop (l : List ByteArray) (hl : l.length ≤ 1000000000) : ∀ (d n : Nat), n + d = l.length → Ev (fun k => laws_heldStringS.l0 k (marksT l.length l) ((n : Int) + 1) (n : Int)) ((l.length : Int) + 1) := by
 intro d
 induction d with
 | zero =>
  intro n hn
  refine Ev.step (fun k => laws_heldStringS.l0.eq_2 ..) (Ev.ifF (by rw [marksT_length _ l (by omega)]; omega) ?_)
  rw [show n = l.length from by omega]; exact Ev.now _
 | succ d ih =>
  intro n hn
  refine Ev.step (fun k => laws_heldStringS.l0.eq_2 ..) (Ev.ifT (by rw [marksT_length _ l (by omega)]; omega) (Ev.ifT (by omega) (Ev.bind (mt_ev (n + 1) (by omega) (by omega)) (Ev.ifT (by rw [marksT_rd _ _ _ (by omega)]) ?_))))
  rw [show wrap64 ((n : Int) + 1 + 1) = ((n + 1 : Nat) : Int) + 1 from by rw [wrap64_id (by omega) (by omega)]; omega]
  simpa only [wrap64_succ n (by omega)] using ih (n + 1) (by omega)
theorem heldStringS_ev (l : List ByteArray) (hl : l.length ≤ 1000000000) : Ev (fun k => laws_heldStringS.f k (marksT l.length l) 1) ((l.length : Int) + 1) := by
 simpa [laws_heldStringS.f] using heldStringS_loop l hl l.length 0 (by omega)
end Go.Proofs.YtpgobnhklnglhaaDoor.L
namespace Go.Proofs.YtpgobnhklnglhaaDoor.Pure
open Go.RowKit Go.Proofs.YtpgobnhklnglhaaDoor.P Go.Proofs.YtpgobnhklnglhaaDoor.M Go.Proofs.YtpgobnhklnglhaaDoorW.PrintWords Go.Proofs.YtpgobnhklnglhaaDoorW.PrintLast Go.Proofs.YtpgobnhklnglhaaDoorW.PrintMore
set_option linter.unusedVariables false
open Go.Proofs.YtpgobnhklnglhaaDoor.L
namespace EditsOf
def letL (w : Txt) : List Txt := w.map fun b => [b]
theorem chars_eq (w : Txt) : Go.Lib.charsB (B w) = (letL w).map B := by
 have h := Go.Lib.chars_data (B w)
 rw [data_B] at h
 obtain ⟨m, hm⟩ := exBs (Go.Lib.charsB (B w))
 rw [hm] at h ⊢
 rw [map_data] at h
 rw [h]; rfl
theorem take_B (w : Txt) (i : Nat) : (B w).extract 0 (i : Int).toNat = B (w.take i) := by rw [extract_B, List.drop_zero, Int.toNat_natCast, Nat.sub_zero]
theorem drop_B (w : Txt) (i : Nat) : (B w).extract (i : Int).toNat (B w).size = B (w.drop i) := by
 rw [extract_B, Int.toNat_natCast, size_B, List.take_of_length_le (by rw [List.length_drop]; omega)]
theorem piece1 (L : Txt) (k : Nat) : (B L).extract (k : Int).toNat ((k + 1 : Nat) : Int).toNat = B ((L.drop k).take 1) := by
 rw [extract_B, Int.toNat_natCast, Int.toNat_natCast, show k + 1 - k = 1 from by omega]
theorem one_letter (L : Txt) (k : Nat) (h : k < L.length) : (L.drop k).take 1 = [L.getD k 0] := by rw [drop_cons_getD 0 h]; rfl
theorem ins_len (w : Txt) (i : Nat) (c : Txt) (hc : c.length = 1) : (insT w i c).length = w.length + 1 := by unfold insT; simp; omega
theorem rep_len (w : Txt) (i : Nat) (c : Txt) (hc : c.length = 1) (hi : i < w.length) : (repT w i c).length = w.length := by unfold repT; simp; omega
theorem del_len (w : Txt) (i : Nat) : (delT w i).length ≤ w.length := by unfold delT; simp; omega
theorem step_small (w : Txt) (hw : w.length ≤ 12) (i : Nat) (acc : List Txt) (c : Txt) (hc : c.length = 1) (h : ∀ x ∈ acc, x.length ≤ 100) : ∀ x ∈ stepI w i acc c, x.length ≤ 100 := by
 intro x hx
 rcases (mem_stepI w i acc c x).1 hx with hx | ⟨_, rfl⟩ | ⟨hi, _, rfl⟩
 ·
  exact h x hx
 ·
  rw [ins_len w i c hc]; omega
 ·
  rw [rep_len w i c hc hi]; omega
theorem spec_in (w : Txt) (hw : w.length ≤ 12) (L : Txt) (hL : L.length ≤ 13) (i : Nat) (hi : i ≤ w.length) (r : List ByteArray × Bool) (all : List Txt)
  (hr : Ev (fun k => if (i : Int) < ((B w).size : Int) then (if 0 ≤ (i : Int) then (if (i : Int) ≤ ((B w).size : Int) then (if 0 ≤ (wrap64 ((i : Int) + 1)) then (if (wrap64 ((i : Int) + 1)) ≤ ((B w).size : Int) then (if ((B w).extract 0 (i : Int).toNat).size + ((B w).extract ((wrap64 ((i : Int) + 1)) : Int).toNat (B w).size).size ≤ 9223372036854775807 then ((spec_l2Put.f (all.map B) (((B w).extract 0 (i : Int).toNat) ++ ((B w).extract ((wrap64 ((i : Int) + 1)) : Int).toNat (B w).size))).bind fun t315 => (spec_EditsOf.l0 k (B w) t315 (B L) (wrap64 ((i : Int) + 1)))) else (none)) else (none)) else (none)) else (none)) else (none)) else (spec_EditsOf.l0 k (B w) (all.map B) (B L) (wrap64 ((i : Int) + 1)))) r) :
  ∀ (d n : Nat) (acc : List Txt), n + d = L.length → acc.length ≤ 1000000 + 2 * n → (∀ x ∈ acc, x.length ≤ 100) → ((letL L).drop n).foldl (stepI w i) acc = all → Ev (fun k => spec_EditsOf.l1 k (B w) (acc.map B) (B L) (i : Int) (n : Int)) r := by
 intro d
 induction d with
 | zero =>
  intro n acc q1 q2 q3 q4
  rw [List.drop_of_length_le (by unfold letL; rw [List.length_map]; omega), List.foldl_nil] at q4
  subst q4
  exact Ev.step (fun k => spec_EditsOf.l1.eq_2 ..) (Ev.ifF (by rw [size_B]; omega) hr)
 | succ d ih =>
  intro n acc q1 q2 q3 q4
  have hn : n < L.length := by omega
  have hc1 : ((L.drop n).take 1).length = 1 := by rw [one_letter L n hn]; rfl
  have hdrop : (letL L).drop n = (L.drop n).take 1 :: (letL L).drop (n + 1) := by
   rw [one_letter L n hn, drop_cons_getD [] (by unfold letL; rw [List.length_map]; exact hn)]
   congr 1
   unfold letL
   rw [List.getD_eq_getElem?_getD, List.getElem?_map, getD_lt 0 hn, List.getElem?_eq_getElem hn]; rfl
  rw [hdrop, List.foldl_cons] at q4
  have hsm := step_small w hw i acc _ hc1 q3
  have hln := len_stepI w i acc ((L.drop n).take 1)
  have next := ih (n + 1) _ (by omega) (by omega) hsm q4
  have hins := ins_len w i _ hc1
  refine Ev.step (fun k => spec_EditsOf.l1.eq_2 ..) (Ev.ifT (by rw [size_B]; omega) (Ev.ifT (by omega) ?_))
  rw [wrap64_succ n (by omega)]
  refine Ev.ifT (by omega) (Ev.ifT (by rw [size_B]; omega) ?_)
  rw [piece1, take_B, drop_B]
  by_cases h12 : w.length < 12
  ·
   refine Ev.ifT (by rw [size_B]; omega) (Ev.ifT (by omega) (Ev.ifT (by rw [size_B]; omega) (Ev.ifT (by rw [size_B, size_B, List.length_take, hc1]; omega) (Ev.ifT (by rw [append_B, size_B, size_B, List.length_append, List.length_take, hc1, List.length_drop]; omega) ?_))))
   rw [append_B, append_B, l2Put_eq acc _ (by omega) (fun x hx => by have := q3 x hx; omega)]
   refine Ev.some_bind ?_
   have hput := putL_length_le acc (insT w i ((L.drop n).take 1))
   by_cases hil : i < w.length
   ·
    refine Ev.ifT (by rw [size_B]; omega) ?_
    rw [wrap64_succ i (by omega)]
    refine Ev.ifT (by omega) (Ev.ifT (by rw [size_B]; omega) ?_)
    rw [piece1, toList_B, toList_B]
    by_cases he : (L.drop n).take 1 = (w.drop i).take 1
    ·
     have e : stepI w i acc ((L.drop n).take 1) = putL acc (insT w i ((L.drop n).take 1)) := by unfold stepI; rw [if_neg (fun h => h.2 he), if_pos h12]
     rw [e] at next
     exact Ev.ifT he next
    ·
     have e : stepI w i acc ((L.drop n).take 1) = putL (putL acc (insT w i ((L.drop n).take 1))) (repT w i ((L.drop n).take 1)) := by unfold stepI; rw [if_pos ⟨hil, he⟩, if_pos h12]
     rw [e] at next
     refine Ev.ifF he (Ev.ifT (by omega) ?_)
     rw [drop_B]
     refine Ev.ifT (by rw [size_B, size_B, List.length_append, List.length_take, hc1, List.length_drop]; omega) ?_
     rw [append_B]
     have hp := l2Put_eq (putL acc (insT w i ((L.drop n).take 1))) (repT w i ((L.drop n).take 1)) (by omega) (fun x hx => by
      rcases (mem_putL acc _ x).1 hx with rfl | hx
      ·
       omega
      ·
       have := q3 x hx; omega)
     unfold insT repT at hp
     unfold insT repT at next
     rw [hp]
     exact Ev.some_bind next
   ·
    have e : stepI w i acc ((L.drop n).take 1) = putL acc (insT w i ((L.drop n).take 1)) := by unfold stepI; rw [if_neg (fun h => hil h.1), if_pos h12]
    rw [e] at next
    exact Ev.ifF (by rw [size_B]; omega) next
  ·
   refine Ev.ifF (by rw [size_B]; omega) ?_
   by_cases hil : i < w.length
   ·
    refine Ev.ifT (by rw [size_B]; omega) (Ev.ifT (by omega) ?_)
    rw [wrap64_succ i (by omega)]
    refine Ev.ifT (by omega) (Ev.ifT (by rw [size_B]; omega) ?_)
    rw [piece1, toList_B, toList_B]
    by_cases he : (L.drop n).take 1 = (w.drop i).take 1
    ·
     have e : stepI w i acc ((L.drop n).take 1) = acc := by unfold stepI; rw [if_neg (fun h => h.2 he), if_neg h12]
     rw [e] at next
     exact Ev.ifT he next
    ·
     have e : stepI w i acc ((L.drop n).take 1) = putL acc (repT w i ((L.drop n).take 1)) := by unfold stepI; rw [if_pos ⟨hil, he⟩, if_neg h12]
     rw [e] at next
     refine Ev.ifF he (Ev.ifT (by rw [size_B]; omega) (Ev.ifT (by rw [size_B, size_B, List.length_take, hc1]; omega) (Ev.ifT (by omega) ?_)))
     rw [drop_B, append_B]
     refine Ev.ifT (by rw [size_B, size_B, List.length_append, List.length_take, hc1, List.length_drop]; omega) ?_
     rw [append_B]
     have hp := l2Put_eq acc (repT w i ((L.drop n).take 1)) (by omega) (fun x hx => by have := q3 x hx; omega)
     unfold repT at hp
     unfold repT at next
     rw [hp]
     exact Ev.some_bind next
   ·
    have e : stepI w i acc ((L.drop n).take 1) = acc := by unfold stepI; rw [if_neg (fun h => hil h.1), if_neg h12]
    rw [e] at next
    exact Ev.ifF (by rw [size_B]; omega) next
theorem own_eq (l : List Txt) (h : l.length ≤ 1000000) : spec_l2Own.f (l.map B) = some (l.map B) := by
 unfold spec_l2Own.f
 rw [Option.bind_some, if_pos (by simp; omega), List.nil_append]
theorem fold_small (w : Txt) (hw : w.length ≤ 12) (i : Nat) : ∀ (ls acc : List Txt), (∀ c ∈ ls, c.length = 1) → (∀ x ∈ acc, x.length ≤ 100) → ∀ x ∈ ls.foldl (stepI w i) acc, x.length ≤ 100
 | [], _, _, h => h
 | c :: ls, acc, hc, h => fold_small w hw i ls _ (fun y hy => hc y (List.mem_cons_of_mem _ hy)) (step_small w hw i acc c (hc c (by simp)) h)
theorem stepO_small (w : Txt) (hw : w.length ≤ 12) (i : Nat) (ls acc : List Txt) (hc : ∀ c ∈ ls, c.length = 1) (h : ∀ x ∈ acc, x.length ≤ 100) : ∀ x ∈ stepO w ls acc i, x.length ≤ 100 := by
 have hf := fold_small w hw i ls acc hc h
 intro x hx
 unfold stepO at hx
 split at hx
 ·
  rcases (mem_putL _ _ x).1 hx with rfl | hx
  ·
   have := del_len w i; omega
  ·
   exact hf x hx
 ·
  exact hf x hx
theorem let_one (L : Txt) : ∀ c ∈ letL L, c.length = 1 := by
 intro c hc
 obtain ⟨b, _, rfl⟩ := List.mem_map.1 hc
 rfl
theorem spec_out (w : Txt) (hw : w.length ≤ 12) (L : Txt) (hL : L.length ≤ 13) (R : List Txt) : ∀ (d i : Nat) (acc : List Txt), i + d = w.length + 1 → acc.length ≤ 1000 * i → (∀ x ∈ acc, x.length ≤ 100) → ((List.range (w.length + 1)).drop i).foldl (stepO w (letL L)) acc = R → Ev (fun k => spec_EditsOf.l0 k (B w) (acc.map B) (B L) (i : Int)) (R.map B, true) := by
 intro d
 induction d with
 | zero =>
  intro i acc q1 q2 q3 q4
  rw [List.drop_of_length_le (by rw [List.length_range]; omega), List.foldl_nil] at q4
  subst q4
  refine Ev.step (fun k => spec_EditsOf.l0.eq_2 ..) (Ev.ifF (by rw [size_B]; omega) ?_)
  have : acc.length ≤ 1000000 := Nat.le_trans q2 (Nat.le_trans (Nat.mul_le_mul_left 1000 (show i ≤ 13 by omega)) (by omega))
  rw [own_eq acc this]
  exact Ev.some_bind (Ev.now _)
 | succ d ih =>
  intro i acc q1 q2 q3 q4
  have hi : i ≤ w.length := by omega
  have hdrop : (List.range (w.length + 1)).drop i = i :: (List.range (w.length + 1)).drop (i + 1) := by
   rw [List.drop_eq_getElem_cons (by rw [List.length_range]; omega), List.getElem_range]
  rw [hdrop, List.foldl_cons] at q4
  have hl1 := len_stepO w (letL L) acc i
  have hll : (letL L).length ≤ 13 := by unfold letL; rw [List.length_map]; exact hL
  have hs := stepO_small w hw i (letL L) acc (let_one L) q3
  have q2b : acc.length ≤ 1000000 := Nat.le_trans q2 (Nat.le_trans (Nat.mul_le_mul_left 1000 (show i ≤ 12 by omega)) (by omega))
  have hf := fold_small w hw i (letL L) acc (let_one L) q3
  have hfl := len_foldl_of (stepI w i) 2 (len_stepI w i) (letL L) acc
  have next := ih (i + 1) _ (by omega) (by rw [Nat.mul_succ]; omega) hs q4
  refine Ev.step (fun k => spec_EditsOf.l0.eq_2 ..) (Ev.ifT (by rw [size_B]; omega) ?_)
  refine spec_in w hw L hL i hi _ ((letL L).foldl (stepI w i) acc) ?_ L.length 0 acc (by omega) (by omega) q3 (by rw [List.drop_zero])
  rw [wrap64_succ i (by omega)]
  by_cases hil : i < w.length
  ·
   have e : stepO w (letL L) acc i = putL ((letL L).foldl (stepI w i) acc) (delT w i) := by unfold stepO; rw [if_pos hil]
   rw [e] at next
   refine Ev.ifT (by rw [size_B]; omega) (Ev.ifT (by omega) (Ev.ifT (by rw [size_B]; omega) (Ev.ifT (by omega) (Ev.ifT (by rw [size_B]; omega) ?_))))
   rw [take_B, drop_B]
   refine Ev.ifT (by rw [size_B, size_B, List.length_take, List.length_drop]; omega) ?_
   rw [append_B]
   have hp := l2Put_eq ((letL L).foldl (stepI w i) acc) (delT w i) (by omega) (fun x hx => by have := hf x hx; omega)
   unfold delT at hp
   unfold delT at next
   rw [hp]
   exact Ev.some_bind next
  ·
   have e : stepO w (letL L) acc i = (letL L).foldl (stepI w i) acc := by unfold stepO; rw [if_neg hil]
   rw [e] at next
   exact Ev.ifF (by rw [size_B]; omega) next
theorem one_B (w : Txt) (i : Nat) (c : Txt) (hi : i ≤ w.length) : impl_EditsOf.one (B w) i (B c) = (insT w i c :: (if i < w.length then [repT w i c, delT w i] else [])).map B := by
 unfold impl_EditsOf.one insT repT delT
 have e1 : (B w).extract 0 i = B (w.take i) := by rw [extract_B, List.drop_zero, Nat.sub_zero]
 have e2 : ∀ j, (B w).extract j (B w).size = B (w.drop j) := fun j => by rw [extract_B, size_B, List.take_of_length_le (by rw [List.length_drop]; omega)]
 rw [e1, e2, e2, append_B, append_B, append_B, append_B, size_B]
 split <;> rfl
theorem row_B (w : Txt) (LS : List Txt) (i : Nat) (hi : i ≤ w.length) : impl_EditsOf.row (B w) (LS.map B) i = (LS.flatMap fun c => insT w i c :: (if i < w.length then [repT w i c, delT w i] else [])).map B := by
 unfold impl_EditsOf.row
 rw [List.flatMap_map, List.map_flatMap]
 exact congrArg (fun f => List.flatMap f LS) (funext fun c => one_B w i c hi)
theorem all_B (w : Txt) (LS : List Txt) : impl_EditsOf.all (B w) (LS.map B) (w.length + 1) = (editI w LS).map B := by
 unfold impl_EditsOf.all editI
 rw [List.map_flatMap]
 have : ∀ l : List Nat, (∀ i ∈ l, i ≤ w.length) → l.flatMap (impl_EditsOf.row (B w) (LS.map B)) = l.flatMap fun i => (LS.flatMap fun c => insT w i c :: (if i < w.length then [repT w i c, delT w i] else [])).map B := by
  intro l
  induction l with
  | nil => intro _; rfl
  | cons i l ih =>
   intro h
   rw [List.flatMap_cons, List.flatMap_cons, row_B w LS i (h i (by simp)), ih fun j hj => h j (List.mem_cons_of_mem _ hj)]
 exact this _ fun i hi => by have := List.mem_range.1 hi; omega
def bad (w o : Txt) : Bool := decide (o = w) || !wordL o
theorem keep_B (w o : Txt) : impl_EditsOf.keep (B w) (B o) = some (bad w o) := by
 unfold impl_EditsOf.keep bad
 rw [toList_B, toList_B]
 by_cases h : o = w
 ·
  rw [if_pos h, decide_eq_true h]; rfl
 ·
  rw [if_neg h, decide_eq_false h, isWord_eq]; rfl
theorem editI_len (w : Txt) (LS : List Txt) : (editI w LS).length ≤ 3 * LS.length * (w.length + 1) := by
 have := impl_EditsOf.all_le (B w) (LS.map B) (w.length + 1)
 rw [all_B, List.length_map, List.length_map] at this
 exact this
theorem both (w : Txt) (hw0 : w.length ≤ 1048576) : ∃ r : List ByteArray × Bool, r.1.length ≤ 1000000 ∧ Ev (fun k => spec_EditsOf.f k (B w)) r ∧ impl_EditsOf.f (B w) = some r := by
 have hlw := l2Word_ev w (by omega)
 unfold spec_EditsOf.f impl_EditsOf.f
 rw [isWord_eq]
 cases hwd : wordL w with
 | false =>
  rw [hwd] at hlw
  exact ⟨([], false), by simp, Ev.some_bind (Ev.bind hlw (Ev.ifF Bool.false_ne_true (Ev.now _))), rfl⟩
 | true =>
  rw [hwd] at hlw
  obtain ⟨w1, w2⟩ := wordL_iff.1 hwd
  have hLS : ∀ c ∈ setL (letL (w ++ [97])), OneL c := fun c hc => by
   obtain ⟨b, hb, rfl⟩ := List.mem_map.1 ((mem_setL _ _).1 hc)
   rcases List.mem_append.1 hb with hb | hb
   ·
    exact ⟨b, w1 b hb, rfl⟩
   ·
    rw [List.mem_singleton.1 hb]; exact ⟨97, by decide, rfl⟩
  have h0 : ∃ c, c ∈ setL (letL (w ++ [97])) := ⟨[97], (mem_setL _ _).2 (List.mem_map.2 ⟨97, by simp, rfl⟩)⟩
  have hsame := edits_same hwd hLS h0
  have hcl : (letL (w ++ [97])).length = w.length + 1 := by unfold letL; rw [List.length_map, List.length_append]; rfl
  have hsl := setL_length_le (letL (w ++ [97]))
  have hel := editI_len w (setL (letL (w ++ [97])))
  have hel2 : (editI w (setL (letL (w ++ [97])))).length ≤ 3 * 13 * 13 := Nat.le_trans hel (Nat.mul_le_mul (Nat.mul_le_mul_left 3 (by omega)) (by omega))
  have hes := setL_length_le (editI w (setL (letL (w ++ [97]))))
  have hlet : editS w (letL (97 :: w)) = editS w (setL (letL (w ++ [97]))) := by
   refine asc_ext _ _ (asc_editS w _) (asc_editS w _) fun y => ?_
   have hm : ∀ c, c ∈ letL (97 :: w) ↔ c ∈ setL (letL (w ++ [97])) := fun c => by
    rw [mem_setL]
    unfold letL
    rw [List.mem_map, List.mem_map]
    refine exists_congr fun b => and_congr_left fun _ => ?_
    rw [List.mem_cons, List.mem_append, List.mem_singleton]
    exact or_comm
   rw [mem_editS, mem_editS]
   simp only [hm]
  refine ⟨((editS w (setL (letL (w ++ [97])))).map B, true), ?_, ?_, ?_⟩
  ·
   rw [List.length_map, ← hsame]
   exact Nat.le_trans (List.length_filter_le _ _) (by omega)
  ·
   refine Ev.some_bind (Ev.bind hlw (Ev.ifT rfl (Ev.ifT (by rw [size_B]; omega) ?_)))
   have happ : (⟨#[97]⟩ : ByteArray) ++ B w = B (97 :: w) := append_B [97] w
   rw [happ, ← hlet]
   exact spec_out w w2 (97 :: w) (by rw [List.length_cons]; omega) _ (w.length + 1) 0 [] (by omega) (by simp) (by simp) (by rw [List.drop_zero]; rfl)
  ·
   rw [Option.bind_some, if_pos rfl, if_pos ⟨by rw [size_B]; omega, fun b hb => by rw [data_B] at hb; have := letter_bd (w1 b hb); omega⟩]
   have happ : B w ++ (⟨#[97]⟩ : ByteArray) = B (w ++ [97]) := append_B w [97]
   rw [happ, chars_eq, set_eq _ (by omega), Option.bind_some, if_pos, size_B, all_B, set_eq _ (by omega), Option.bind_some, if_pos (by rw [List.length_map]; omega)]
   ·
    rw [filt_of (fun o => bad w o.data.toList) (fun o ho => by
     obtain ⟨y, _, rfl⟩ := List.mem_map.1 ho
     rw [keep_B, data_B]), Option.bind_some]
    congr 2
    rw [← hsame, List.filter_map]
    congr 1
    refine List.filter_congr fun o _ => ?_
    show (!((impl_EditsOf.keep (B w) (B o)).getD false)) = _
    rw [keep_B]; rfl
   ·
    unfold impl_EditsOf.sound
    rw [Bool.and_eq_true, Bool.and_eq_true, decide_eq_true_eq, decide_eq_true_eq, List.all_eq_true]
    refine ⟨⟨by rw [size_B]; omega, by rw [List.length_map]; omega⟩, fun c hc => ?_⟩
    obtain ⟨y, hy, rfl⟩ := List.mem_map.1 hc
    obtain ⟨x, _, rfl⟩ := hLS y hy
    rw [size_B]; simp
end EditsOf
theorem FnExactEditsOf : laws_FnExactEditsOf.Pure := by
 intro a _
 obtain ⟨w, rfl⟩ := exB a
 by_cases hb : ((B w).size : Int) > 1048576
 ·
  exact ⟨0, by unfold laws_FnExactEditsOf.f; rw [if_pos hb]⟩
 have hs : w.length ≤ 1048576 := by rw [size_B] at hb; omega
 obtain ⟨r, hr, h1, h2⟩ := EditsOf.both w hs
 refine Ev.rounds ?_
 unfold laws_FnExactEditsOf.f
 rw [h2]
 refine Ev.ifF hb (Ev.bind h1 (Ev.some_bind (Ev.bind (eqStringS_ev r.1 (by omega)) (Ev.ifT rfl ?_))))
 refine Ev.step (fun k => laws_FnExactEditsOf.j0.eq_2 ..) (Ev.ifF (by simp) (Ev.bind (markStringS_ev r.1 (by omega)) (Ev.bind (heldStringS_ev r.1 (by omega)) (Ev.ifF (by omega) (Ev.ifT rfl ?_)))))
 rw [h2]
 refine Ev.some_bind (Ev.bind (eqStringS_ev r.1 (by omega)) (Ev.ifT rfl ?_))
 exact Ev.step (fun k => laws_FnExactEditsOf.j1.eq_2 ..) (Ev.ifF (by simp) (Ev.bind (heldStringS_ev r.1 (by omega)) (Ev.ifF (by omega) (Ev.ifT rfl (Ev.now _)))))
end Go.Proofs.YtpgobnhklnglhaaDoor.Pure
namespace Go.Proofs.YtpgobnhklnglhaaDoor.fnExactEditsOf
open Go.ChangeShapes Go.WideShapes Go.ChangeAt Go.RowKit
open Go.ChangeMaps (open_string shut_string)
set_option linter.unusedVariables false
def laidL : List (String × DataW Unit) := [("unicode/utf8.acceptRanges", Rows.laid_unicode_utf8_acceptRanges), ("unicode/utf8.first", Rows.laid_unicode_utf8_first)]
theorem own : ownKnob Tryd.prog.godebug = none := by kernel_rfl
set_option maxRecDepth 100000 in
theorem lifted (os : Os) (started : os.Started) (H : Type) (enc : TypeId × Value → H) :
    ReturnsInHanded {} Tryd.checked os 5 .any (fun w args => (Rows.fnExactEditsOfSpec.pre enc Tryd.prog Tryd.f5 [] false w args ∧ laidMetH Tryd.prog laidL w) ∧ sizedMet enc Tryd.prog Tryd.f5 (OpenSpec.ofChange Rows.fnExactEditsOfSpec) false w args) (Rows.fnExactEditsOfSpec.post enc Tryd.prog Tryd.f5 false true false false) := by
  refine returnsInHanded_of_change_and (C := Tryd.checked) (X := fun w _ => laidMetH Tryd.prog laidL w) (fun _ _ _ hh h => h.of_heap hh) own started (by kernel_rfl) Tryd.func5
    (ChangeSpec.witness_shaped (enc := enc) (C := Tryd.checked) (os := os) (X := fun w _ => laidMetH Tryd.prog laidL w) false (World.laidAll Tryd.prog os laidL) #[.string ByteArray.empty] 8 (World.laidAll_os _ _ _) (World.shaped_of_ZipB (by kernel_rfl) (by kernel_rfl)) (by kernel_rfl) (by kernel_rfl) (by kernel_rfl)
      (by rw [MakeChecks.laidMetH_plain _ _ _ (by kernel_rfl)]; exact laidMet_laidAll _ (by kernel_rfl) (by kernel_rfl))) ?_
  intro W base args ds gs before hval0 hW hcnd hsz0 hL_ _
  have hsz : (DataW.weightsEach Tryd.prog (Tryd.f5.params.toList ++ Rows.fnExactEditsOfSpec.plain.varTypes Tryd.prog) (ds ++ gs)).all (· ≤ reachBytes) = true := hsz0
  have hval : ∀ (j : Nat) t v, Tryd.f5.params[j]? = some t → args[j]? = some v → Value.okWide Tryd.prog W .any base t v := hval0
  have hW' := hW
  obtain ⟨p, q, hA0, hV, rfl, hfz, hnd⟩ := hW
  have hA : DataW.TrodAll enc Tryd.prog W 0 (fun _ => true) true Tryd.f5.params.toList args.toList ds p := hA0
  rw [Tryd.params5] at hA hval hsz
  obtain ⟨v0, vs0, d0, ds0, p0, q0, hargs, rfl, rfl, h0, r0⟩ := trodAll_cons hA
  obtain ⟨rfl, rfl, rfl⟩ := trodAll_nil r0
  obtain rfl : args = #[v0] := by cases args; simp_all
  obtain ⟨rfl, rfl⟩ := trodVars_none hV
  obtain ⟨a0, rfl, rfl, rfl, y0⟩ := open_string Tryd.underlying9 (hval 0 9 v0 rfl rfl) h0
  have w0 : a0.size ≤ 140737488351232 := by
    have z := sized_string hsz (j := 0) (t := 9) rfl rfl
    rw [Array.length_toList] at z
    exact z
  clear hA0 hval0 hsz0 hsz
  refine (P.laws_FnExactEditsOf.walk Pure.FnExactEditsOf a0 W w0).mono fun e W' ⟨he, bel⟩ => ?_
  subst he
  exact ⟨_, rfl, _, _, _, [], _, [], hW', trodAll_mk1 (shut_bool Tryd.underlying4 _), (trodAll_cons_mk (shut_string Tryd.underlying9 y0) trodAll_mk0), rfl, bel.frame _, fun h => by cases h⟩
theorem over : Rows.fnExactEditsOfRow.holds Tryd.pinned (OpenSpec.ofChange Rows.fnExactEditsOfSpec) :=
  OpenClaim.holds_of_wide 5 Tryd.f5 rfl rfl rfl rfl rfl rfl rfl ⟨rfl, rfl, rfl, rfl, rfl⟩ rfl rfl rfl rfl rfl (by kernel_rfl) Tryd.func5 (by kernel_rfl)
    (of_decide_eq_true (by kernel_rfl)) (by unfold Func.isWrapper; first | (rw [if_pos (by decide +kernel)]; kernel_rfl) | (rw [if_neg (by decide +kernel)]; exact ⟨rfl, rfl⟩))
    (fun os started H enc _ => lifted os started H enc)
theorem proved : Rows.FnExactEditsOfSaid := over
end Go.Proofs.YtpgobnhklnglhaaDoor.fnExactEditsOf
namespace Go.Proofs.YtpgobnhklnglhaaDoor
theorem fnExactEditsOf_holds : Rows.FnExactEditsOfSaid := fnExactEditsOf.proved
theorem fnExactEditsOf_card : Rows.FnExactEditsOfCardSaid :=
  Claim7.holds_tied_plain_at .later [] [.data, .pinned] true (true, "9ae60ee42558e505d51ea8aff4f405cbdc85461b0477ae2c9f3e080b28545796") false
    fnExactEditsOf_holds (fun _ h => by cases h) (by kernel_rfl) (fun _ h => by cases h) fnExactEditsOf_row_tie rfl ⟨rfl, rfl⟩ (by kernel_rfl) rfl
    (fun f fn hf hfn => by
      obtain rfl : f = 5 := Option.some.inj ((show Tryd.prog.funcNamed "loop.example/g01243/laws.FnExactEditsOf" = some 5 by kernel_rfl).symm.trans hf) |>.symm
      obtain rfl : fn = Tryd.f5 := (Option.some.inj (Tryd.func5.symm.trans hfn)).symm
      exact ⟨by kernel_rfl, fun j t ht => by
        rw [Tryd.params5] at ht
        have hm : t ∈ [9] := by simpa using Array.mem_of_getElem? ht
        have hall : ([9].all fun u => !Tryd.prog.wantsStandIn u) = true := by kernel_rfl
        exact (show Tryd.prog.wantsStandIn t = false by simpa using List.all_eq_true.1 hall t hm)⟩)
    (by kernel_rfl)
end Go.Proofs.YtpgobnhklnglhaaDoor
