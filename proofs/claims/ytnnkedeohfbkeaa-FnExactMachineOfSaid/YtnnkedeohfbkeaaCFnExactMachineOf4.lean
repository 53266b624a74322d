/-
  Part 5 of the proof that FnExactMachineOf returns true for every input: the functions that it reaches, each with its contract, and the law.
  Conditions: those of the given statement, no others.
-/
import Derived.Test.YtnnkedeohfbkeaaCFnExactMachineOfW0
import Derived.Shelf.Abstract
import Derived.Deep.RegionHeld3
import Derived.Lib.SlicesCompact
import Derived.Test.YtnnkedeohfbkeaaCFnExactMachineOf0
import Derived.Test.YtnnkedeohfbkeaaCFnExactMachineOf3
import Derived.Test.YtnnkedeohfbkeaaCFnExactMachineOf1
import Derived.Test.YtnnkedeohfbkeaaCFnExactMachineOf2
set_option linter.unusedVariables false
set_option linter.unusedSimpArgs false
set_option maxHeartbeats 8000000
set_option maxRecDepth 100000
namespace Go.Proofs.Ytnnkedeohfbkeaa.P
open Go.RowKit Go.Proofs.YtnnkedeohfbkeaaW.PrintWords Go.Proofs.YtnnkedeohfbkeaaW.PrintLast Go.Proofs.YtnnkedeohfbkeaaW.PrintMore
open Go.Proofs.YtnnkedeohfbkeaaW.PrintWords renaming blk_frozen → bF_, blk_cell → bC_, below_set → bS_, blk_below → bB_, below_step → bT_, pw_below_drewN → bN_, below_size → bZ_, below_drew1 → bD_, below_alloc → bA_, blk_far → bR_, gate_callee → gC_, gate_dst → gD_, box_event → bE_, blk_drew → b1_, blk_put → bP_, blk_drewN → b2_, blk_alloc → b3_, blk_lt → bL_, cell_far → cF_
open Go.Proofs.YtnnkedeohfbkeaaW.PrintLast renaming any_of → aO_, i64_w → i6_, i32_w → i3_, take_ofW → tW_
open Go.Proofs.YtnnkedeohfbkeaaW.PrintWords.Kd renaming R_below → kB_, R_mono → kM_, R_far → kF_, R_reads' → kR_, R_types → kT_, R_slice → kS_, R_celln → kC_, R_alloc → k1_, R_drewN → k2_, R_drew → k3_, C_below → k4_, R_lower → k5_, R_ne → k6_, own_blk → k7_
open Go.Proofs.YtnnkedeohfbkeaaW.PrintWords.LeO renaming none → l0_, bind → l1_, ite → l2_, refl → l3_
open World renaming block_lt_of_cell? → wB_
open _root_.Option renaming bind_eq_some_iff → oB_
open _root_.ByteArray renaming empty → eB_
open List renaming setIfInBounds_toArray → sA_, set_cons_zero → sB_, set_cons_succ → sC_, map_toArray → sD_, map_cons → sE_, map_nil → sF_, length_drop → sG_, length_take → sH_
open Bool renaming true → ty, false → fy
open Aside0 renaming mk → aM_
attribute [local go_sem] max2_int min2_int max_two min_two max_three min_three max_four min_four
mutual
def spec_l2Of.l0 : Nat → List ByteArray → List ByteArray → Int → Option ((List (S65)))
 | 0, _, _, _ => none
 | k + 1, x0, x3, x4 => if x4 < (x0.length : Int) then (spec_l2Of.l1 k x0 x3 x4 1) else (spec_l2Of.l2 k x0 x3 0 (([] : List (S65))))
def spec_l2Of.l1 : Nat → List ByteArray → List ByteArray → Int → Int → Option ((List (S65)))
 | 0, _, _, _, _ => none
 | k + 1, x0, x3, x4, x5 => if 0 ≤ x4 then (if x4 < (x0.length : Int) then (if x5 ≤ ((rdOf eB_ x0 x4).size : Int) then (if 0 ≤ x5 then ((spec_l2Put.f x3 ((rdOf eB_ x0 x4).extract 0 (x5 : Int).toNat)).bind fun t183 => (spec_l2Of.l1 k x0 t183 x4 (wrap64 (x5 + 1)))) else (none)) else (spec_l2Of.l0 k x0 x3 (wrap64 (x4 + 1)))) else (none)) else (none)
def spec_l2Of.l2 : Nat → List ByteArray → List ByteArray → Int → List (S65) → Option ((List (S65)))
 | 0, _, _, _, _ => none
 | k + 1, x0, x3, x7, x190000 => if x7 < (x3.length : Int) then (if 0 ≤ x7 then ((spec_l2Has.f k x0 (rdOf eB_ x3 x7)).bind fun t191 => (if x7 > 0 then (if 0 ≤ (wrap64 (((rdOf eB_ x3 x7).size : Int) - 1)) then (if (wrap64 (((rdOf eB_ x3 x7).size : Int) - 1)) < ((rdOf eB_ x3 x7).size : Int) then (if (wrap64 (((rdOf eB_ x3 x7).size : Int) - 1)) ≤ ((rdOf eB_ x3 x7).size : Int) then ((spec_l2Place.f k x3 ((rdOf eB_ x3 x7).extract 0 ((wrap64 (((rdOf eB_ x3 x7).size : Int) - 1)) : Int).toNat)).bind fun t193 => (if x190000.length < 5864062014805 then (spec_l2Of.l2 k x0 x3 (wrap64 (x7 + 1)) (x190000 ++ [(⟨((bt (rdOf eB_ x3 x7) (wrap64 (((rdOf eB_ x3 x7).size : Int) - 1))) - 97) % 256, t193, t191⟩ : S65)])) else (none))) else (none)) else (none)) else (none)) else (if x190000.length < 5864062014805 then (spec_l2Of.l2 k x0 x3 (wrap64 (x7 + 1)) (x190000 ++ [(⟨(-1), (-1), t191⟩ : S65)])) else (none)))) else (none)) else (some x190000)
end
def spec_l2Of.f (k : Nat) (l0 : List ByteArray) : Option ((List (S65))) := spec_l2Of.l0 k l0 (([(⟨#[]⟩ : ByteArray)] : List ByteArray)) 0
theorem spec_l2Of.mono_l : ∀ k, (∀ y0 y1 y2, LeO (spec_l2Of.l0 k y0 y1 y2) (spec_l2Of.l0 (k + 1) y0 y1 y2)) ∧ (∀ y0 y1 y2 y3, LeO (spec_l2Of.l1 k y0 y1 y2 y3) (spec_l2Of.l1 (k + 1) y0 y1 y2 y3)) ∧ (∀ y0 y1 y2 y3, LeO (spec_l2Of.l2 k y0 y1 y2 y3) (spec_l2Of.l2 (k + 1) y0 y1 y2 y3))
 | 0 => ⟨fun _ _ _ r h => by simp [spec_l2Of.l0] at h, fun _ _ _ _ r h => by simp [spec_l2Of.l1] at h, fun _ _ _ _ r h => by simp [spec_l2Of.l2] at h⟩
 | k + 1 => by
  obtain ⟨ih0, ih1, ih2⟩ := spec_l2Of.mono_l k
  refine ⟨?_, ?_, ?_⟩
  ·
   intro y0 y1 y2
   unfold spec_l2Of.l0
   repeat' first
   | (with_reducible exact ih0 _ _ _)
   | (with_reducible exact ih1 _ _ _ _)
   | (with_reducible exact ih2 _ _ _ _)
   | (with_reducible exact spec_l2Has.mono _ _ _)
   | (with_reducible exact spec_l2Place.mono _ _ _)
   | (with_reducible exact l3_ _)
   | (with_reducible exact l0_ _)
   | (with_reducible refine l2_ ?_ ?_)
   | (with_reducible refine l1_ ?_ (fun _ => ?_))
   | exact ih0 _ _ _
   | exact ih1 _ _ _ _
   | exact ih2 _ _ _ _
   | exact spec_l2Has.mono _ _ _
   | exact spec_l2Place.mono _ _ _
   | exact l0_ _
   | refine l2_ ?_ ?_
   | refine l1_ ?_ (fun _ => ?_)
  ·
   intro y0 y1 y2 y3
   unfold spec_l2Of.l1
   repeat' first
   | (with_reducible exact ih0 _ _ _)
   | (with_reducible exact ih1 _ _ _ _)
   | (with_reducible exact ih2 _ _ _ _)
   | (with_reducible exact spec_l2Has.mono _ _ _)
   | (with_reducible exact spec_l2Place.mono _ _ _)
   | (with_reducible exact l3_ _)
   | (with_reducible exact l0_ _)
   | (with_reducible refine l2_ ?_ ?_)
   | (with_reducible refine l1_ ?_ (fun _ => ?_))
   | exact ih0 _ _ _
   | exact ih1 _ _ _ _
   | exact ih2 _ _ _ _
   | exact spec_l2Has.mono _ _ _
   | exact spec_l2Place.mono _ _ _
   | exact l0_ _
   | refine l2_ ?_ ?_
   | refine l1_ ?_ (fun _ => ?_)
  ·
   intro y0 y1 y2 y3
   unfold spec_l2Of.l2
   repeat' first
   | (with_reducible exact ih0 _ _ _)
   | (with_reducible exact ih1 _ _ _ _)
   | (with_reducible exact ih2 _ _ _ _)
   | (with_reducible exact spec_l2Has.mono _ _ _)
   | (with_reducible exact spec_l2Place.mono _ _ _)
   | (with_reducible exact l3_ _)
   | (with_reducible exact l0_ _)
   | (with_reducible refine l2_ ?_ ?_)
   | (with_reducible refine l1_ ?_ (fun _ => ?_))
   | exact ih0 _ _ _
   | exact ih1 _ _ _ _
   | exact ih2 _ _ _ _
   | exact spec_l2Has.mono _ _ _
   | exact spec_l2Place.mono _ _ _
   | exact l0_ _
   | refine l2_ ?_ ?_
   | refine l1_ ?_ (fun _ => ?_)
theorem spec_l2Of.mono : ∀ a0 k, LeO (spec_l2Of.f k a0) (spec_l2Of.f (k + 1) a0) := by
 intro a0 k
 obtain ⟨ih0, ih1, ih2⟩ := spec_l2Of.mono_l k
 unfold spec_l2Of.f
 repeat' first
   | (with_reducible exact ih0 _ _ _)
   | (with_reducible exact ih1 _ _ _ _)
   | (with_reducible exact ih2 _ _ _ _)
   | (with_reducible exact spec_l2Has.mono _ _ _)
   | (with_reducible exact spec_l2Place.mono _ _ _)
   | (with_reducible exact l3_ _)
   | (with_reducible exact l0_ _)
   | (with_reducible refine l2_ ?_ ?_)
   | (with_reducible refine l1_ ?_ (fun _ => ?_))
   | exact ih0 _ _ _
   | exact ih1 _ _ _ _
   | exact ih2 _ _ _ _
   | exact spec_l2Has.mono _ _ _
   | exact spec_l2Place.mono _ _ _
   | exact l0_ _
   | refine l2_ ?_ ?_
   | refine l1_ ?_ (fun _ => ?_)
theorem spec_l2Of.calls (k : Nat) (A0 : Option Addr) (c0 : Nat) (l0 : List ByteArray) (r : List (S65)) (w : World) (hr0 : Kd.C Kd.string w A0 l0.length l0) (hc0 : l0.length ≤ c0) (h : spec_l2Of.f k l0 = some r) :
  Calls Try.prog 45 #[.slice A0 l0.length c0] w fun e w' => ∃ v0_ : Value, e = .returned (.agg #[v0_]) ∧ Kd.R k65 65 w' w.heap.size (fun _ => True) v0_ r ∧ Below w.heap.size w w' := by
 have hu30 := Try.underlying30
 have hu65 := Try.underlying65
 have HR0 := aM_ hr0
 have HC0 := aM_ hc0
 clear hr0 hc0
 have HB := aM_ (Below.refl w.heap.size w)
 have H : (spec_l2Of.l0 k l0 (([(⟨#[]⟩ : ByteArray)] : List ByteArray)) 0) = some r := h
 clear h
 obtain ⟨y178, hy178⟩ : ∃ y_ : List ByteArray, y_ = (([(⟨#[]⟩ : ByteArray)] : List ByteArray)) := ⟨_, rfl⟩
 replace H : (spec_l2Of.l0 k l0 y178 0) = some r := by first | (rw [hy178]; with_reducible exact H) | (have H2_ := (Option.bind_some _ _).symm.trans H; rw [hy178]; with_reducible exact H2_) | (have H2_ := (Option.bind_some _ _).symm.trans H; with_reducible exact H2_) | with_reducible exact H | (rw [hy178]; exact H) | exact H
 have Ny178 := aM_ hy178
 clear hy178
 have H' := aM_ H
 clear H
 go_enter Try.func45, Try.ntmps45
 go_wp2_with (first | ((with_reducible refine gD_ (N := 2) rfl ?_); refine bE_ ?hg (N := 2) ?hd (cs := #[.slice none 0 0]) (t := 30) ?hr ?_; (case hd => rfl); (case hg => rfl); (case hr => (go_simp; done)); intro gb177 hg w2 hbox hb; have BK177 := aM_ (hbox); have GW177 := aM_ ((by rw [hg]; exact (bZ_ HB.out) : w.heap.size ≤ gb177)); have GE177 := GW177; replace HB := aM_ (bT_ HB.out hb); clear hb hbox hg) | ((with_reducible refine gD_ (N := 10) rfl ?_); refine Kd.R_lit Kd.string _ 9 ?hg (N := 10) ?hd (xs := ([(⟨#[]⟩ : ByteArray)] : List ByteArray)) (inner := [.string (⟨#[]⟩ : ByteArray)]) (ok := fun _ => True) (okp := fun _ => True) ?hr ?hp (fun _ hk => hk) trivial (Below.refl _ _) (Nat.le_refl _) (by simp) ?_; (case hd => rfl); (case hg => rfl); (case hr => (go_simp; done)); (case hp => exact (Reps.one (show Kd.M Kd.string _ _ _ (⟨#[]⟩ : ByteArray) [.string (⟨#[]⟩ : ByteArray)] from rfl) (Reps.none _ _))); intro v179 w3 ho4 hb hg_ hnew_; clear hg_ hnew_; (rw [← Ny178.out] at ho4); have HO180 := aM_ (k5_ ho4 (bZ_ HB.out)); replace BK177 := aM_ (bB_ BK177.out hb); replace HB := aM_ (bT_ HB.out hb); clear hb ho4))
 go_loopg [3, 4] k (fun kq v3 v4 w' => ∃ (x3_1 : List ByteArray) (x4_1 : Int), v4 = .int .i64 x4_1 ∧ Aside0 (spec_l2Of.l0 kq l0 x3_1 x4_1 = some r) ∧ Aside0 (kq ≤ k) ∧ Aside0 (Kd.R Kd.string 9 w' w.heap.size (fun _ => True) v3 x3_1) ∧ Aside0 (w'.heap[gb177]? = some (.cells #[(.slice none 0 0)] 30 (0, 0))) ∧ Aside0 (Below w.heap.size w w'))
 case atStart => exact ⟨(y178), (0), (by rfl), H', ⟨Nat.le_refl _⟩, ⟨HO180.out⟩, ⟨BK177.out⟩, ⟨HB.out⟩⟩
 case round =>
  clear H'
  try clear p2
  obtain ⟨x3_1, x4_1, rfl, HA, HK1, HO_3, BK177, HB⟩ := hrel
  cases gk with
  | zero => exact absurd HA.out (by simp [spec_l2Of.l0])
  | succ k1 =>
   have H := HA.out
   clear HA
   simp only [spec_l2Of.l0] at H
   by_cases c5 : x4_1 < (l0.length : Int)
   ·
    rw [if_pos c5] at H
    have c5b0 := decide_eq_true c5
    clear c5
    have H' := aM_ H
    clear H
    go_wp2
    go_loopg [3, 5] k1 (fun kq v3 v5 w' => ∃ (x3_2 : List ByteArray) (x5_2 : Int), v5 = .int .i64 x5_2 ∧ Aside0 (spec_l2Of.l1 kq l0 x3_2 x4_1 x5_2 = some r) ∧ Aside0 (kq ≤ k1) ∧ Aside0 (Kd.R Kd.string 9 w' w.heap.size (fun _ => True) v3 x3_2) ∧ Aside0 (w'.heap[gb177]? = some (.cells #[(.slice none 0 0)] 30 (0, 0))) ∧ Aside0 (Below w.heap.size w w'))
    case atStart => exact ⟨(x3_1), (1), (by rfl), H', ⟨Nat.le_refl _⟩, ⟨HO_3.out⟩, ⟨BK177.out⟩, ⟨HB.out⟩⟩
    case round =>
     clear H'
     try clear p2
     try clear c5b0
     try clear p2
     obtain ⟨x3_2, x5_2, rfl, HA, HK2, HO_3, BK177, HB⟩ := hrel
     cases gk with
     | zero => exact absurd HA.out (by simp [spec_l2Of.l1])
     | succ k2 =>
      have H := HA.out
      clear HA
      simp only [spec_l2Of.l1] at H
      by_cases c6 : 0 ≤ x4_1
      ·
       rw [if_pos c6] at H
       have c6b0 := decide_eq_true c6
       clear c6
       by_cases c7 : x4_1 < (l0.length : Int)
       ·
        rw [if_pos c7] at H
        have c7b0 := decide_eq_true c7
        clear c7
        by_cases c8 : x5_2 ≤ ((rdOf eB_ l0 x4_1).size : Int)
        ·
         rw [if_pos c8] at H
         have c8b0 := decide_eq_true c8
         clear c8
         by_cases c9 : 0 ≤ x5_2
         ·
          rw [if_pos c9] at H
          have c9b0 := eq_true c9
          have c9b1 := decide_eq_true c9
          clear c9
          have c10b0 := eq_true (of_decide_eq_true (by (with_reducible assumption)) : x5_2 ≤ ((rdOf eB_ l0 x4_1).size : Int))
          replace H := oB_.mp H
          obtain ⟨t183, A110, H⟩ := H
          try dsimp only at H
          have A11 := aM_ A110
          clear A110
          have H' := aM_ H
          clear H
          have p181 : 0 ≤ (x4_1 : Int) := of_decide_eq_true (by (with_reducible assumption))
          have q181 : x4_1 < (l0.length : Int) := of_decide_eq_true (by (with_reducible assumption))
          obtain ⟨ad181, e181, hx181_0⟩ := Kd.at_string HR0.out x4_1 p181 q181
          cases e181
          replace hx181_0 := (HB.out.cell (wB_ w _ hx181_0)).trans hx181_0
          replace p181 := eq_true p181
          replace q181 := eq_true q181
          have p182 : 0 ≤ (x4_1 : Int) := of_decide_eq_true (by (with_reducible assumption))
          have q182 : x4_1 < (l0.length : Int) := of_decide_eq_true (by (with_reducible assumption))
          obtain ⟨ad182, e182, hx182_0⟩ := Kd.at_string HR0.out x4_1 p182 q182
          obtain rfl : ad181 = ad182 := (by injection e182)
          replace hx182_0 := (HB.out.cell (wB_ w _ hx182_0)).trans hx182_0
          replace p182 := eq_true p182
          replace q182 := eq_true q182
          obtain ⟨Ao12, co12, eo12⟩ := kS_ HO_3.out
          subst eo12
          go_wp2_with (first | ((with_reducible refine gC_ (f := 59) rfl ?_); refine goesL_ (some 33) rfl rfl Try.func59 (by kernel_rfl) rfl #[.slice Ao12 x3_2.length co12, .string ((rdOf eB_ l0 x4_1).extract 0 (x5_2 : Int).toNat)] rfl (by (try simp only [sD_, sE_, sF_]); rfl) ?_; (with_reducible refine (spec_l2Put.calls (fun k_ => some k_ = (.slice Ao12 x3_2.length co12 : Value).ownBlock) (.slice Ao12 x3_2.length co12) x3_2 ((rdOf eB_ l0 x4_1).extract 0 (x5_2 : Int).toNat) t183 w _ ?side1 ?side2 A11.out).mono ?_); (case side1 => exact HB.out); (case side2 => exact Kd.R_tight rfl HO_3.out); rintro e w13 ⟨v184, rfl, ho0, hb, hkp⟩; refine ⟨_, rfl, ?_⟩; have n0_ := aM_ (blk_kept BK177.out hkp (fun hs_ => (fun e_ => (k6_ HO_3.out BK177.out (by decide)) e_) hs_)); have n1_ := aM_ (kM_ (ok' := fun k_ => True) ho0 (fun k_ hk_ => trivial)); have n2_ := aM_ (hb); clear BK177; clear HB; clear HO_3; have BK177 := n0_; have HO185 := n1_; have HB := n2_; clear n0_ n1_ n2_; (try clear hb); (try clear hkp); (try clear ho0)))
          go_roundg k2
          case measure => have := HK1.out; have := HK2.out; omega
          case rel => exact ⟨(t183), (wrap64 (x5_2 + 1)), (by rfl), H', ⟨by have := HK1.out; have := HK2.out; omega⟩, ⟨HO185.out⟩, ⟨BK177.out⟩, ⟨HB.out⟩⟩
         ·
          rw [if_neg c9] at H
          exact absurd H (by simp)
        ·
         rw [if_neg c8] at H
         have c8b0 := decide_eq_false c8
         clear c8
         have H' := aM_ H
         clear H
         have p181 : 0 ≤ (x4_1 : Int) := of_decide_eq_true (by (with_reducible assumption))
         have q181 : x4_1 < (l0.length : Int) := of_decide_eq_true (by (with_reducible assumption))
         obtain ⟨ad181, e181, hx181_0⟩ := Kd.at_string HR0.out x4_1 p181 q181
         cases e181
         replace hx181_0 := (HB.out.cell (wB_ w _ hx181_0)).trans hx181_0
         replace p181 := eq_true p181
         replace q181 := eq_true q181
         go_wp2
         go_roundg k2
         case measure => have := HK1.out; have := HK2.out; omega
         case rel => exact ⟨(x3_2), (wrap64 (x4_1 + 1)), (by rfl), H', ⟨by have := HK1.out; have := HK2.out; omega⟩, ⟨HO_3.out⟩, ⟨BK177.out⟩, ⟨HB.out⟩⟩
       ·
        rw [if_neg c7] at H
        exact absurd H (by simp)
      ·
       rw [if_neg c6] at H
       exact absurd H (by simp)
   ·
    rw [if_neg c5] at H
    have c5b0 := decide_eq_false c5
    clear c5
    obtain ⟨y186, hy186⟩ : ∃ y_ : List (S65), y_ = (([] : List (S65))) := ⟨_, rfl⟩
    replace H : (spec_l2Of.l2 k1 l0 x3_1 0 y186) = some r := by first | (rw [hy186]; with_reducible exact H) | (have H2_ := (Option.bind_some _ _).symm.trans H; rw [hy186]; with_reducible exact H2_) | (have H2_ := (Option.bind_some _ _).symm.trans H; with_reducible exact H2_) | with_reducible exact H | (rw [hy186]; exact H) | exact H
    have Ny186 := aM_ hy186
    clear hy186
    have H' := aM_ H
    clear H
    go_wp2_with (first | ((with_reducible refine gD_ (N := 34) rfl ?_); refine Kd.R_lit k65 _ 65 ?hg (N := 34) ?hd (xs := ([] : List (S65))) (inner := []) (ok := fun _ => True) (okp := fun _ => True) ?hr ?hp (fun _ hk => hk) trivial (Below.refl _ _) (Nat.le_refl _) (by simp) ?_; (case hd => rfl); (case hg => rfl); (case hr => (go_simp; done)); (case hp => exact (Reps.none _ _)); intro v187 w14 ho15 hb hg_ hnew_; clear hg_ hnew_; (rw [← Ny186.out] at ho15); replace HO_3 := aM_ (kB_ HO_3.out hb); have HO188 := aM_ (k5_ ho15 (bZ_ HB.out)); replace BK177 := aM_ (bB_ BK177.out hb); replace HB := aM_ (bT_ HB.out hb); clear hb ho15; obtain ⟨Ao16, co16, eo16⟩ := kS_ HO188.out; subst eo16) | ((with_reducible refine gD_ (N := 6) rfl ?_); refine bE_ ?hg (N := 6) ?hd (cs := #[.slice none 0 0]) (t := 30) ?hr ?_; (case hd => rfl); (case hg => rfl); (case hr => (go_simp; done)); intro gb189 hg w17 hbox hb; replace HO_3 := aM_ (kB_ HO_3.out hb); replace HO188 := aM_ (kB_ HO188.out hb); have BK189 := aM_ (hbox); have GW189 := aM_ ((by rw [hg]; exact (bZ_ HB.out) : w.heap.size ≤ gb189)); have GE189 := GW189; replace HB := aM_ (bT_ HB.out hb); have NB177_189 := aM_ ((by rw [hg]; exact Nat.ne_of_lt (bL_ BK177.out) : gb177 ≠ gb189)); have NB189_177 := aM_ NB177_189.out.symm; replace BK177 := aM_ (bB_ BK177.out hb); clear hb hbox hg; have hnb18 := NB189_177.out; have hnc18 := NB177_189.out; have hcz19_0 : w17.cell? ⟨gb189, 0, none⟩ = some (.slice none 0 0) := (bC_ BK189.out 0).trans rfl; have hfz19_0 := bF_ BK189.out 0))
    go_loopg [7] k1 (fun kq v7 w' => ∃ (x7_2 : Int) (x190000_2 : List (S65)) (u190000 : Value), v7 = .int .i64 x7_2 ∧ Aside0 (spec_l2Of.l2 kq l0 x3_1 x7_2 x190000_2 = some r) ∧ Aside0 (kq ≤ k1) ∧ Aside0 (Kd.R Kd.string 9 w' w.heap.size (fun _ => True) u3 x3_1) ∧ Aside0 (Kd.R k65 65 w' w.heap.size (fun _ => True) u190000 x190000_2) ∧ Aside0 (w'.heap[gb177]? = some (.cells #[(.slice none 0 0)] 30 (0, 0))) ∧ Aside0 (w'.heap[gb189]? = some (.cells #[u190000] 30 (0, 0))) ∧ Aside0 (Below w.heap.size w w'))
    case atStart => exact ⟨(0), (y186), (.slice Ao16 y186.length co16), (by rfl), H', ⟨Nat.le_refl _⟩, ⟨by exact kM_ (kF_ (p := ⟨gb189, 0, none⟩) (kT_ HO_3.out BK189.out (by decide)) (fun _ hk => hk.2) (.slice Ao16 y186.length co16)) (fun _ hk => trivial)⟩, ⟨by exact kM_ (kF_ (p := ⟨gb189, 0, none⟩) (kT_ HO188.out BK189.out (by decide)) (fun _ hk => hk.2) (.slice Ao16 y186.length co16)) (fun _ hk => trivial)⟩, ⟨by refine bR_ ?_ NB177_189.out _; exact BK177.out⟩, ⟨by refine bP_ (cs := #[.slice none 0 0]) ?_ 0 _ rfl; exact BK189.out⟩, ⟨by repeat (first | (with_reducible first | exact HB.out | apply bA_ | apply bN_ | apply bD_ | refine bS_ ?_ GE177.out | refine bS_ ?_ GE189.out) | exact HB.out)⟩⟩
    case round =>
     clear H'
     try clear p1
     try clear q1
     try clear hx1
     try clear p2
     try clear c5b0
     try clear c6b0
     try clear p6
     try clear c7b0
     try clear c8b0
     try clear c9b0
     try clear c9b1
     try clear c10b0
     try clear p18
     try clear q18
     try clear hx18
     try clear hcz19_0
     try clear hfz19_0
     try clear hx181_0
     try clear hx182_0
     try clear p181
     try clear p182
     try clear p2
     try clear q181
     try clear q182
     obtain ⟨x7_2, x190000_2, u190000, rfl, HA, HK2, HO_3, HO_190000, BK177, BK189, HB⟩ := hrel
     cases gk with
     | zero => exact absurd HA.out (by simp [spec_l2Of.l2])
     | succ k2 =>
      have H := HA.out
      clear HA
      simp only [spec_l2Of.l2] at H
      by_cases c20 : x7_2 < (x3_1.length : Int)
      ·
       rw [if_pos c20] at H
       have c20b0 := decide_eq_true c20
       clear c20
       by_cases c21 : 0 ≤ x7_2
       ·
        rw [if_pos c21] at H
        have c21b0 := decide_eq_true c21
        clear c21
        replace H := oB_.mp H
        obtain ⟨t191, A220, H⟩ := H
        try dsimp only at H
        have A22 := aM_ A220
        clear A220
        by_cases c23 : x7_2 > 0
        ·
         rw [if_pos c23] at H
         have c23b0 := decide_eq_true c23
         clear c23
         obtain ⟨ji24, hji24⟩ : ∃ j_ : Int, (wrap64 (((rdOf eB_ x3_1 x7_2).size : Int) - 1)) = j_ := ⟨_, rfl⟩
         replace H : (if 0 ≤ (ji24) then (if (ji24) < ((rdOf eB_ x3_1 x7_2).size : Int) then (if (ji24) ≤ ((rdOf eB_ x3_1 x7_2).size : Int) then ((spec_l2Place.f k2 x3_1 ((rdOf eB_ x3_1 x7_2).extract 0 ((ji24) : Int).toNat)).bind fun t193 => (if x190000_2.length < 5864062014805 then (spec_l2Of.l2 k2 l0 x3_1 (wrap64 (x7_2 + 1)) (x190000_2 ++ [(⟨((bt (rdOf eB_ x3_1 x7_2) (ji24)) - 97) % 256, t193, t191⟩ : S65)])) else (none))) else (none)) else (none)) else (none)) = some r := by first | (rw [hji24] at H; exact H) | (simp only [hji24] at H ⊢; exact H)
         (try rw [hji24] at A22)
         have hji24w : (IntKind.i64.wrap (((rdOf eB_ x3_1 x7_2).size : Int) - 1)) = ji24 := (i6_ _).trans hji24
         by_cases c25 : 0 ≤ (ji24)
         ·
          rw [if_pos c25] at H
          have c25b0 := decide_eq_true c25
          clear c25
          by_cases c26 : (ji24) < ((rdOf eB_ x3_1 x7_2).size : Int)
          ·
           rw [if_pos c26] at H
           have c26b0 := decide_eq_true c26
           clear c26
           have c28b0 := eq_true (of_decide_eq_true (by (with_reducible assumption)) : 0 ≤ (ji24))
           by_cases c29 : (ji24) ≤ ((rdOf eB_ x3_1 x7_2).size : Int)
           ·
            rw [if_pos c29] at H
            have c29b0 := eq_true c29
            have c29b1 := decide_eq_true c29
            clear c29
            replace H := oB_.mp H
            obtain ⟨t193, A300, H⟩ := H
            try dsimp only at H
            have A30 := aM_ A300
            clear A300
            by_cases c31 : x190000_2.length < 5864062014805
            ·
             rw [if_pos c31] at H
             have LMc31 := aM_ c31
             clear c31
             obtain ⟨y194, hy194⟩ : ∃ y_ : List (S65), y_ = (x190000_2 ++ [(⟨((bt (rdOf eB_ x3_1 x7_2) (ji24)) - 97) % 256, t193, t191⟩ : S65)]) := ⟨_, rfl⟩
             replace H : (spec_l2Of.l2 k2 l0 x3_1 (wrap64 (x7_2 + 1)) y194) = some r := by first | (rw [hy194]; with_reducible exact H) | (have H2_ := (Option.bind_some _ _).symm.trans H; rw [hy194]; with_reducible exact H2_) | (have H2_ := (Option.bind_some _ _).symm.trans H; with_reducible exact H2_) | with_reducible exact H | (rw [hy194]; exact H) | exact H
             have Ny194 := aM_ hy194
             clear hy194
             have H' := aM_ H
             clear H
             obtain ⟨Ao32, co32, eo32⟩ := kS_ HO_3.out
             subst eo32
             have p190 : 0 ≤ (x7_2 : Int) := of_decide_eq_true (by (with_reducible assumption))
             have q190 : x7_2 < (x3_1.length : Int) := of_decide_eq_true (by (with_reducible assumption))
             obtain ⟨ad190, e190, hx190_0⟩ := Kd.at_string (kR_ HO_3.out).2.2 x7_2 p190 q190
             cases e190
             replace p190 := eq_true p190
             replace q190 := eq_true q190
             go_wp2_with (first | ((with_reducible refine gC_ (f := 61) rfl ?_); refine goesL_ (some 48) rfl rfl Try.func61 (by kernel_rfl) rfl #[.slice A0 l0.length c0, .string (rdOf eB_ x3_1 x7_2)] rfl (by (try simp only [sD_, sE_, sF_]); rfl) ?_; (with_reducible refine (spec_l2Has.calls k2 _ _ l0 (rdOf eB_ x3_1 x7_2) t191 _ ?side1 ?side2 A22.out).mono ?_); (case side1 => repeat (first | exact (k4_ HR0.out HB.out) | (with_reducible refine Kd.C_alloc ?_ _) | (with_reducible refine Kd.C_drewN ?_ _) | (with_reducible refine Kd.C_drew ?_))); (case side2 => exact HC0.out); rintro e w' ⟨rfl, ⟨nd, rfl⟩⟩; refine ⟨_, rfl, ?_⟩; (try (rw [drewN_self wr]; generalize hq_ : World.drewN wr _ = wr; have n0_ : Aside0 (Kd.R k65 65 wr w.heap.size (fun _ => True) u190000 x190000_2) := ⟨by rw [← hq_]; exact (by (with_reducible repeat (first | apply k1_ | apply k2_ | apply k3_)); exact HO_190000.out)⟩; have n1_ : Aside0 (Kd.R Kd.string 9 wr w.heap.size (fun _ => True) (.slice (some ad190) x3_1.length co32) x3_1) := ⟨by rw [← hq_]; exact (by (with_reducible repeat (first | apply k1_ | apply k2_ | apply k3_)); exact HO_3.out)⟩; have n2_ : Aside0 (wr.heap[gb177]? = some (.cells #[.slice none 0 0] 30 (0, 0))) := ⟨by rw [← hq_]; exact (by (with_reducible repeat (first | refine b2_ ?_ _ | refine b1_ ?_ | refine b3_ ?_ _)); exact BK177.out)⟩; have n3_ : Aside0 (wr.heap[gb189]? = some (.cells #[u190000] 30 (0, 0))) := ⟨by rw [← hq_]; exact (by (with_reducible repeat (first | refine b2_ ?_ _ | refine b1_ ?_ | refine b3_ ?_ _)); exact BK189.out)⟩; have n4_ : Aside0 (Below w.heap.size w wr) := ⟨by rw [← hq_]; exact (by repeat (first | (with_reducible first | exact HB.out | apply bA_ | apply bN_ | apply bD_ | refine bS_ ?_ GE177.out | refine bS_ ?_ GE189.out) | exact HB.out))⟩; clear HO_190000 HO_3 BK177 BK189 HB hq_; have HO_190000 := n0_; have HO_3 := n1_; have BK177 := n2_; have BK189 := n3_; have HB := n4_; clear n0_ n1_ n2_ n3_ n4_))) | ((with_reducible refine gD_ (N := 9) rfl ?_); refine bE_ ?hg (N := 9) ?hd (cs := #[.int .i64 0, .int .i64 0, .bool false]) (t := 65) ?hr ?_; (case hd => rfl); (case hg => rfl); (case hr => (go_simp; done)); intro gb192 hg w33 hbox hb; replace HO_3 := aM_ (kB_ HO_3.out hb); replace HO_190000 := aM_ (kB_ (Kd.R_elderB HO_190000.out gb192 (Nat.le_of_eq hg.symm)) hb); have BK192 := aM_ (hbox); have GW192 := aM_ ((by rw [hg]; exact (bZ_ HB.out) : w.heap.size ≤ gb192)); have GE192 := GW192; replace HB := aM_ (bT_ HB.out hb); have NB177_192 := aM_ ((by rw [hg]; exact Nat.ne_of_lt (bL_ BK177.out) : gb177 ≠ gb192)); have NB192_177 := aM_ NB177_192.out.symm; replace BK177 := aM_ (bB_ BK177.out hb); have NB189_192 := aM_ ((by rw [hg]; exact Nat.ne_of_lt (bL_ BK189.out) : gb189 ≠ gb192)); have NB192_189 := aM_ NB189_192.out.symm; replace BK189 := aM_ (bB_ BK189.out hb); clear hb hbox hg; have hnb34 := NB192_177.out; have hnc34 := NB177_192.out; have hnb35 := NB192_189.out; have hnc35 := NB189_192.out; have hcz36_0 : w33.cell? ⟨gb192, 0, none⟩ = some (.int .i64 0) := (bC_ BK192.out 0).trans rfl; have hcz36_1 : w33.cell? ⟨gb192, 1, none⟩ = some (.int .i64 0) := (bC_ BK192.out 1).trans rfl; have hcz36_2 : w33.cell? ⟨gb192, 2, none⟩ = some (.bool false) := (bC_ BK192.out 2).trans rfl; have hfz36_0 := bF_ BK192.out 0; have hfz36_1 := bF_ BK192.out 1; have hfz36_2 := bF_ BK192.out 2; have p27 : 0 ≤ ((ji24) : Int) := of_decide_eq_true (by (with_reducible assumption)); have q27 : (ji24) < ((rdOf eB_ x3_1 x7_2).size : Int) := of_decide_eq_true (by (with_reducible assumption)); have hx27 := bt_at (rdOf eB_ x3_1 x7_2) (ji24); replace p27 := eq_true p27; replace q27 := eq_true q27) | ((with_reducible refine gC_ (f := 62) rfl ?_); refine goesL_ (some 66) rfl rfl Try.func62 (by kernel_rfl) rfl #[.slice (some ad190) x3_1.length co32, .string ((rdOf eB_ x3_1 x7_2).extract 0 ((ji24) : Int).toNat)] rfl (by (try simp only [sD_, sE_, sF_]); rfl) ?_; (with_reducible refine (spec_l2Place.calls k2 _ _ x3_1 ((rdOf eB_ x3_1 x7_2).extract 0 ((ji24) : Int).toNat) t193 _ ?side1 ?side2 A30.out).mono ?_); (case side1 => refine (kR_ (e := 9) (base := w.heap.size) (ok := fun k_ => True) (n := x3_1.length) (c := co32) ?_).2.2; exact (by exact (kM_ (kF_ (p := ⟨gb192, 0, none⟩) (kF_ (p := ⟨gb192, 2, none⟩) (kF_ (p := ⟨gb192, 1, none⟩) (kF_ (p := ⟨gb192, 0, none⟩) (kT_ HO_3.out BK192.out (by decide)) (fun _ hk => hk.2) (.int .i64 (-1))) (fun _ hk => hk.2) (.int .i64 (-1))) (fun _ hk => hk.2) (.bool t191)) (fun _ hk => hk.2) (.int .i64 (((bt (rdOf eB_ x3_1 x7_2) (ji24)) - 97) % 256))) (fun _ h_ => h_.1)))); (case side2 => exact (kR_ HO_3.out).2.1); rintro e w' ⟨rfl, ⟨nd, rfl⟩⟩; refine ⟨_, rfl, ?_⟩; have m0_ : Aside0 (Kd.R Kd.string 9 (((((w33.setCell ⟨gb192, 0, none⟩ (.int .i64 (-1))).setCell ⟨gb192, 1, none⟩ (.int .i64 (-1))).setCell ⟨gb192, 2, none⟩ (.bool t191)).setCell ⟨gb192, 0, none⟩ (.int .i64 (((bt (rdOf eB_ x3_1 x7_2) (ji24)) - 97) % 256))).drewN nd) w.heap.size (fun _ => True) (.slice (some ad190) x3_1.length co32) x3_1) := ⟨by (with_reducible repeat (first | apply k1_ | apply k2_ | apply k3_)); exact kM_ (kF_ (p := ⟨gb192, 0, none⟩) (kF_ (p := ⟨gb192, 2, none⟩) (kF_ (p := ⟨gb192, 1, none⟩) (kF_ (p := ⟨gb192, 0, none⟩) (kT_ HO_3.out BK192.out (by decide)) (fun _ hk => hk.2) (.int .i64 (-1))) (fun _ hk => hk.2) (.int .i64 (-1))) (fun _ hk => hk.2) (.bool t191)) (fun _ hk => hk.2) (.int .i64 (((bt (rdOf eB_ x3_1 x7_2) (ji24)) - 97) % 256))) (fun _ _ => trivial)⟩; have m1_ : Aside0 (Kd.R k65 65 (((((w33.setCell ⟨gb192, 0, none⟩ (.int .i64 (-1))).setCell ⟨gb192, 1, none⟩ (.int .i64 (-1))).setCell ⟨gb192, 2, none⟩ (.bool t191)).setCell ⟨gb192, 0, none⟩ (.int .i64 (((bt (rdOf eB_ x3_1 x7_2) (ji24)) - 97) % 256))).drewN nd) w.heap.size (fun k_ => True ∧ k_ ≠ gb192) u190000 x190000_2) := ⟨by (with_reducible repeat (first | apply k1_ | apply k2_ | apply k3_)); exact kM_ (kF_ (p := ⟨gb192, 0, none⟩) (kF_ (p := ⟨gb192, 2, none⟩) (kF_ (p := ⟨gb192, 1, none⟩) (kF_ (p := ⟨gb192, 0, none⟩) (kM_ HO_190000.out (fun k_ hk => (⟨hk, hk.2⟩ : _ ∧ k_ ≠ gb192))) (fun _ hk => hk.2) (.int .i64 (-1))) (fun _ hk => hk.2) (.int .i64 (-1))) (fun _ hk => hk.2) (.bool t191)) (fun _ hk => hk.2) (.int .i64 (((bt (rdOf eB_ x3_1 x7_2) (ji24)) - 97) % 256))) (fun _ hk => ⟨trivial, hk.2⟩)⟩; have m2_ : Aside0 ((((((w33.setCell ⟨gb192, 0, none⟩ (.int .i64 (-1))).setCell ⟨gb192, 1, none⟩ (.int .i64 (-1))).setCell ⟨gb192, 2, none⟩ (.bool t191)).setCell ⟨gb192, 0, none⟩ (.int .i64 (((bt (rdOf eB_ x3_1 x7_2) (ji24)) - 97) % 256))).drewN nd).heap[gb177]? = some (.cells #[.slice none 0 0] 30 (0, 0))) := ⟨by (with_reducible repeat (first | refine b2_ ?_ _ | refine b1_ ?_ | refine b3_ ?_ _)); refine bR_ ?_ NB177_192.out _; refine bR_ ?_ NB177_192.out _; refine bR_ ?_ NB177_192.out _; refine bR_ ?_ NB177_192.out _; exact BK177.out⟩; have m3_ : Aside0 ((((((w33.setCell ⟨gb192, 0, none⟩ (.int .i64 (-1))).setCell ⟨gb192, 1, none⟩ (.int .i64 (-1))).setCell ⟨gb192, 2, none⟩ (.bool t191)).setCell ⟨gb192, 0, none⟩ (.int .i64 (((bt (rdOf eB_ x3_1 x7_2) (ji24)) - 97) % 256))).drewN nd).heap[gb189]? = some (.cells #[u190000] 30 (0, 0))) := ⟨by (with_reducible repeat (first | refine b2_ ?_ _ | refine b1_ ?_ | refine b3_ ?_ _)); refine bR_ ?_ NB189_192.out _; refine bR_ ?_ NB189_192.out _; refine bR_ ?_ NB189_192.out _; refine bR_ ?_ NB189_192.out _; exact BK189.out⟩; have m4_ : Aside0 ((((((w33.setCell ⟨gb192, 0, none⟩ (.int .i64 (-1))).setCell ⟨gb192, 1, none⟩ (.int .i64 (-1))).setCell ⟨gb192, 2, none⟩ (.bool t191)).setCell ⟨gb192, 0, none⟩ (.int .i64 (((bt (rdOf eB_ x3_1 x7_2) (ji24)) - 97) % 256))).drewN nd).heap[gb192]? = some (.cells #[.int .i64 (((bt (rdOf eB_ x3_1 x7_2) (ji24)) - 97) % 256), .int .i64 (-1), .bool t191] 65 (0, 0))) := ⟨by (with_reducible repeat (first | refine b2_ ?_ _ | refine b1_ ?_ | refine b3_ ?_ _)); refine bP_ (cs := #[.int .i64 (-1), .int .i64 (-1), .bool t191]) ?_ 0 _ rfl; refine bP_ (cs := #[.int .i64 (-1), .int .i64 (-1), .bool false]) ?_ 2 _ rfl; refine bP_ (cs := #[.int .i64 (-1), .int .i64 0, .bool false]) ?_ 1 _ rfl; refine bP_ (cs := #[.int .i64 0, .int .i64 0, .bool false]) ?_ 0 _ rfl; exact BK192.out⟩; have m5_ : Aside0 (Below w.heap.size w (((((w33.setCell ⟨gb192, 0, none⟩ (.int .i64 (-1))).setCell ⟨gb192, 1, none⟩ (.int .i64 (-1))).setCell ⟨gb192, 2, none⟩ (.bool t191)).setCell ⟨gb192, 0, none⟩ (.int .i64 (((bt (rdOf eB_ x3_1 x7_2) (ji24)) - 97) % 256))).drewN nd)) := ⟨by repeat (first | (with_reducible first | exact HB.out | apply bA_ | apply bN_ | apply bD_ | refine bS_ ?_ GE177.out | refine bS_ ?_ GE189.out | refine bS_ ?_ GE192.out) | exact HB.out)⟩; clear HO_3 HO_190000 BK177 BK189 BK192 HB; generalize (((((w33.setCell ⟨gb192, 0, none⟩ (.int .i64 (-1))).setCell ⟨gb192, 1, none⟩ (.int .i64 (-1))).setCell ⟨gb192, 2, none⟩ (.bool t191)).setCell ⟨gb192, 0, none⟩ (.int .i64 (((bt (rdOf eB_ x3_1 x7_2) (ji24)) - 97) % 256))).drewN nd) = w339 at m0_ m1_ m2_ m3_ m4_ m5_ ⊢; have HO_3 := m0_; have HO_190000 := m1_; have BK177 := m2_; have BK189 := m3_; have BK192 := m4_; have HB := m5_; clear m0_ m1_ m2_ m3_ m4_ m5_; have hczz_0 : w339.cell? ⟨gb192, 0, none⟩ = some (.int .i64 (((bt (rdOf eB_ x3_1 x7_2) (ji24)) - 97) % 256)) := (bC_ BK192.out 0).trans rfl; have hfzz_0 := bF_ BK192.out 0; have hczz_1 : w339.cell? ⟨gb192, 1, none⟩ = some (.int .i64 (-1)) := (bC_ BK192.out 1).trans rfl; have hfzz_1 := bF_ BK192.out 1; have hczz_2 : w339.cell? ⟨gb192, 2, none⟩ = some (.bool t191) := (bC_ BK192.out 2).trans rfl; have hfzz_2 := bF_ BK192.out 2; have hnb37 := NB189_177.out; have hnc37 := NB177_189.out; have hcz38_0 : w339.cell? ⟨gb189, 0, none⟩ = some (u190000) := (bC_ BK189.out 0).trans rfl; have hfz38_0 := bF_ BK189.out 0) | ((with_reducible refine gate_builtin (b := .append) (xs := #[.tmp 69, .tmp 71]) rfl ?_); at_builtin; refine Kd.R_append k65 (w0 := w) w.heap.size rfl (.tmp 69) (.tmp 71) 28 65 (.agg #[(.int .i64 0), (.int .i64 0), (.bool false)]) 24 rfl Try.underlying28 info65 rfl (by decide) (by omega) u190000 x190000_2 (⟨((bt (rdOf eB_ x3_1 x7_2) (ji24)) - 97) % 256, t193, t191⟩ : S65) [.int .i64 (((bt (rdOf eB_ x3_1 x7_2) (ji24)) - 97) % 256), .int .i64 t193, .bool t191] (fun k_ => k_ ≠ gb192) (fun _ => False) rfl (by (go_simp; done)) ?aP (fun _ hk => hk.elim) ?aF ?aO ?aB ?aS ?aL ?_; (case aP => exact k65_mkM _ _ _ (⟨((bt (rdOf eB_ x3_1 x7_2) (ji24)) - 97) % 256, t193, t191⟩ : S65)); (case aB => exact (by repeat (first | (with_reducible first | exact HB.out | apply bA_ | apply bN_ | apply bD_ | refine bS_ ?_ GE177.out | refine bS_ ?_ GE189.out | refine bS_ ?_ GE192.out) | exact HB.out))); (case aF => exact (fun k_ hk => Kd.freshB (g := gb192) (o := .cells #[.int .i64 (((bt (rdOf eB_ x3_1 x7_2) (ji24)) - 97) % 256), .int .i64 t193, .bool t191] 65 (0, 0)) (by refine bP_ (cs := #[.int .i64 (((bt (rdOf eB_ x3_1 x7_2) (ji24)) - 97) % 256), .int .i64 (-1), .bool t191]) ?_ 1 _ rfl; exact BK192.out) k_ hk)); (case aO => exact (by exact kM_ (kF_ (p := ⟨gb192, 1, none⟩) (kM_ HO_190000.out (fun k_ hk => (⟨hk, hk.2⟩ : _ ∧ k_ ≠ gb192))) (fun _ hk => hk.2) (.int .i64 t193)) (fun _ hk => hk.1.2))); (case aS => exact (bZ_ (by repeat (first | (with_reducible first | exact HB.out | apply bA_ | apply bN_ | apply bD_ | refine bS_ ?_ GE177.out | refine bS_ ?_ GE189.out | refine bS_ ?_ GE192.out) | exact HB.out)))); (case aL => have := LMc31.out; omega); intro v195 w39 ho hb hg hat; rw [← Ny194.out] at ho; have n0_ := aM_ (Kd.R_over' (by exact (kM_ (kF_ (p := ⟨gb192, 1, none⟩) (kT_ HO_3.out BK192.out (by decide)) (fun _ hk => hk.2) (.int .i64 t193)) (fun _ h_ => h_.1))) (Kd.R_typed (by exact (kM_ (kF_ (p := ⟨gb192, 1, none⟩) (kM_ HO_190000.out (fun k_ hk => (⟨hk, hk.2⟩ : _ ∧ k_ ≠ gb192))) (fun _ hk => hk.2) (.int .i64 t193)) (fun _ h_ => h_.1)))) (by decide) hg); have n1_ := aM_ (blk_grown (g := gb177) (o := .cells #[.slice none 0 0] 30 (0, 0)) (by refine bR_ ?_ NB177_192.out _; exact BK177.out) hg (k6_ HO_190000.out BK177.out (by decide))); have n2_ := aM_ (blk_grown (g := gb189) (o := .cells #[u190000] 30 (0, 0)) (by refine bR_ ?_ NB189_192.out _; exact BK189.out) hg (k6_ HO_190000.out BK189.out (by decide))); have n3_ := aM_ (blk_grown (g := gb192) (o := .cells #[.int .i64 (((bt (rdOf eB_ x3_1 x7_2) (ji24)) - 97) % 256), .int .i64 t193, .bool t191] 65 (0, 0)) (by refine bP_ (cs := #[.int .i64 (((bt (rdOf eB_ x3_1 x7_2) (ji24)) - 97) % 256), .int .i64 (-1), .bool t191]) ?_ 1 _ rfl; exact BK192.out) hg (Kd.R_away HO_190000.out (fun _ hk => hk.2))); have n4_ := aM_ (hb); have n5_ := aM_ (ho); clear HO_3; clear BK177; clear BK189; clear BK192; clear HB; clear HO_190000; have HO_3 := n0_; have BK177 := n1_; have BK189 := n2_; have BK192 := n3_; have HB := n4_; have HO196 := n5_; clear n0_ n1_ n2_ n3_ n4_ n5_; clear ho hb hg hat; obtain ⟨Ao40, co40, eo40⟩ := kS_ HO196.out; subst eo40; have hcz41_0 : w39.cell? ⟨gb189, 0, none⟩ = some (u190000) := (bC_ BK189.out 0).trans rfl; have hfz41_0 := bF_ BK189.out 0))
             go_roundg k2
             case measure => have := HK1.out; have := HK2.out; omega
             case rel => exact ⟨(wrap64 (x7_2 + 1)), (y194), (.slice Ao40 y194.length co40), (by rfl), H', ⟨by have := HK1.out; have := HK2.out; omega⟩, ⟨by exact kM_ (kF_ (p := ⟨gb189, 0, none⟩) (kT_ HO_3.out BK189.out (by decide)) (fun _ hk => hk.2) (.slice Ao40 y194.length co40)) (fun _ hk => trivial)⟩, ⟨by exact kM_ (kF_ (p := ⟨gb189, 0, none⟩) (kT_ HO196.out BK189.out (by decide)) (fun _ hk => hk.2) (.slice Ao40 y194.length co40)) (fun _ hk => trivial)⟩, ⟨by refine bR_ ?_ NB177_189.out _; exact BK177.out⟩, ⟨by refine bP_ (cs := #[u190000]) ?_ 0 _ rfl; exact BK189.out⟩, ⟨by repeat (first | (with_reducible first | exact HB.out | apply bA_ | apply bN_ | apply bD_ | refine bS_ ?_ GE177.out | refine bS_ ?_ GE189.out | refine bS_ ?_ GE192.out) | exact HB.out)⟩⟩
            ·
             rw [if_neg c31] at H
             exact absurd H (by simp)
           ·
            rw [if_neg c29] at H
            exact absurd H (by simp)
          ·
           rw [if_neg c26] at H
           exact absurd H (by simp)
         ·
          rw [if_neg c25] at H
          exact absurd H (by simp)
        ·
         rw [if_neg c23] at H
         have c23b0 := decide_eq_false c23
         clear c23
         by_cases c42 : x190000_2.length < 5864062014805
         ·
          rw [if_pos c42] at H
          have LMc42 := aM_ c42
          clear c42
          obtain ⟨y197, hy197⟩ : ∃ y_ : List (S65), y_ = (x190000_2 ++ [(⟨(-1), (-1), t191⟩ : S65)]) := ⟨_, rfl⟩
          replace H : (spec_l2Of.l2 k2 l0 x3_1 (wrap64 (x7_2 + 1)) y197) = some r := by first | (rw [hy197]; with_reducible exact H) | (have H2_ := (Option.bind_some _ _).symm.trans H; rw [hy197]; with_reducible exact H2_) | (have H2_ := (Option.bind_some _ _).symm.trans H; with_reducible exact H2_) | with_reducible exact H | (rw [hy197]; exact H) | exact H
          have Ny197 := aM_ hy197
          clear hy197
          have H' := aM_ H
          clear H
          obtain ⟨Ao43, co43, eo43⟩ := kS_ HO_3.out
          subst eo43
          have p190 : 0 ≤ (x7_2 : Int) := of_decide_eq_true (by (with_reducible assumption))
          have q190 : x7_2 < (x3_1.length : Int) := of_decide_eq_true (by (with_reducible assumption))
          obtain ⟨ad190, e190, hx190_0⟩ := Kd.at_string (kR_ HO_3.out).2.2 x7_2 p190 q190
          cases e190
          replace p190 := eq_true p190
          replace q190 := eq_true q190
          go_wp2_with (first | ((with_reducible refine gC_ (f := 61) rfl ?_); refine goesL_ (some 48) rfl rfl Try.func61 (by kernel_rfl) rfl #[.slice A0 l0.length c0, .string (rdOf eB_ x3_1 x7_2)] rfl (by (try simp only [sD_, sE_, sF_]); rfl) ?_; (with_reducible refine (spec_l2Has.calls k2 _ _ l0 (rdOf eB_ x3_1 x7_2) t191 _ ?side1 ?side2 A22.out).mono ?_); (case side1 => repeat (first | exact (k4_ HR0.out HB.out) | (with_reducible refine Kd.C_alloc ?_ _) | (with_reducible refine Kd.C_drewN ?_ _) | (with_reducible refine Kd.C_drew ?_))); (case side2 => exact HC0.out); rintro e w' ⟨rfl, ⟨nd, rfl⟩⟩; refine ⟨_, rfl, ?_⟩; (try (rw [drewN_self wr]; generalize hq_ : World.drewN wr _ = wr; have n0_ : Aside0 (Kd.R k65 65 wr w.heap.size (fun _ => True) u190000 x190000_2) := ⟨by rw [← hq_]; exact (by (with_reducible repeat (first | apply k1_ | apply k2_ | apply k3_)); exact HO_190000.out)⟩; have n1_ : Aside0 (Kd.R Kd.string 9 wr w.heap.size (fun _ => True) (.slice (some ad190) x3_1.length co43) x3_1) := ⟨by rw [← hq_]; exact (by (with_reducible repeat (first | apply k1_ | apply k2_ | apply k3_)); exact HO_3.out)⟩; have n2_ : Aside0 (wr.heap[gb177]? = some (.cells #[.slice none 0 0] 30 (0, 0))) := ⟨by rw [← hq_]; exact (by (with_reducible repeat (first | refine b2_ ?_ _ | refine b1_ ?_ | refine b3_ ?_ _)); exact BK177.out)⟩; have n3_ : Aside0 (wr.heap[gb189]? = some (.cells #[u190000] 30 (0, 0))) := ⟨by rw [← hq_]; exact (by (with_reducible repeat (first | refine b2_ ?_ _ | refine b1_ ?_ | refine b3_ ?_ _)); exact BK189.out)⟩; have n4_ : Aside0 (Below w.heap.size w wr) := ⟨by rw [← hq_]; exact (by repeat (first | (with_reducible first | exact HB.out | apply bA_ | apply bN_ | apply bD_ | refine bS_ ?_ GE177.out | refine bS_ ?_ GE189.out) | exact HB.out))⟩; clear HO_190000 HO_3 BK177 BK189 HB hq_; have HO_190000 := n0_; have HO_3 := n1_; have BK177 := n2_; have BK189 := n3_; have HB := n4_; clear n0_ n1_ n2_ n3_ n4_))) | ((with_reducible refine gD_ (N := 9) rfl ?_); refine bE_ ?hg (N := 9) ?hd (cs := #[.int .i64 0, .int .i64 0, .bool false]) (t := 65) ?hr ?_; (case hd => rfl); (case hg => rfl); (case hr => (go_simp; done)); intro gb192 hg w44 hbox hb; replace HO_3 := aM_ (kB_ HO_3.out hb); replace HO_190000 := aM_ (kB_ (Kd.R_elderB HO_190000.out gb192 (Nat.le_of_eq hg.symm)) hb); have BK192 := aM_ (hbox); have GW192 := aM_ ((by rw [hg]; exact (bZ_ HB.out) : w.heap.size ≤ gb192)); have GE192 := GW192; replace HB := aM_ (bT_ HB.out hb); have NB177_192 := aM_ ((by rw [hg]; exact Nat.ne_of_lt (bL_ BK177.out) : gb177 ≠ gb192)); have NB192_177 := aM_ NB177_192.out.symm; replace BK177 := aM_ (bB_ BK177.out hb); have NB189_192 := aM_ ((by rw [hg]; exact Nat.ne_of_lt (bL_ BK189.out) : gb189 ≠ gb192)); have NB192_189 := aM_ NB189_192.out.symm; replace BK189 := aM_ (bB_ BK189.out hb); clear hb hbox hg; have hnb45 := NB192_177.out; have hnc45 := NB177_192.out; have hnb46 := NB192_189.out; have hnc46 := NB189_192.out; have hcz47_0 : w44.cell? ⟨gb192, 0, none⟩ = some (.int .i64 0) := (bC_ BK192.out 0).trans rfl; have hcz47_1 : w44.cell? ⟨gb192, 1, none⟩ = some (.int .i64 0) := (bC_ BK192.out 1).trans rfl; have hcz47_2 : w44.cell? ⟨gb192, 2, none⟩ = some (.bool false) := (bC_ BK192.out 2).trans rfl; have hfz47_0 := bF_ BK192.out 0; have hfz47_1 := bF_ BK192.out 1; have hfz47_2 := bF_ BK192.out 2; have hnb48 := NB189_177.out; have hnc48 := NB177_189.out; have hcz49_0 : w44.cell? ⟨gb189, 0, none⟩ = some (u190000) := (bC_ BK189.out 0).trans rfl; have hfz49_0 := bF_ BK189.out 0) | ((with_reducible refine gate_builtin (b := .append) (xs := #[.tmp 69, .tmp 71]) rfl ?_); at_builtin; refine Kd.R_append k65 (w0 := w) w.heap.size rfl (.tmp 69) (.tmp 71) 28 65 (.agg #[(.int .i64 0), (.int .i64 0), (.bool false)]) 24 rfl Try.underlying28 info65 rfl (by decide) (by omega) u190000 x190000_2 (⟨(-1), (-1), t191⟩ : S65) [.int .i64 (-1), .int .i64 (-1), .bool t191] (fun k_ => k_ ≠ gb192) (fun _ => False) rfl (by (go_simp; done)) ?aP (fun _ hk => hk.elim) ?aF ?aO ?aB ?aS ?aL ?_; (case aP => exact k65_mkM _ _ _ (⟨(-1), (-1), t191⟩ : S65)); (case aB => exact (by repeat (first | (with_reducible first | exact HB.out | apply bA_ | apply bN_ | apply bD_ | refine bS_ ?_ GE177.out | refine bS_ ?_ GE189.out | refine bS_ ?_ GE192.out) | exact HB.out))); (case aF => exact (fun k_ hk => Kd.freshB (g := gb192) (o := .cells #[.int .i64 (-1), .int .i64 (-1), .bool t191] 65 (0, 0)) (by refine bP_ (cs := #[.int .i64 (-1), .int .i64 (-1), .bool false]) ?_ 2 _ rfl; refine bP_ (cs := #[.int .i64 (-1), .int .i64 0, .bool false]) ?_ 1 _ rfl; refine bP_ (cs := #[.int .i64 0, .int .i64 0, .bool false]) ?_ 0 _ rfl; exact BK192.out) k_ hk)); (case aO => exact (by exact kM_ (kF_ (p := ⟨gb192, 2, none⟩) (kF_ (p := ⟨gb192, 1, none⟩) (kF_ (p := ⟨gb192, 0, none⟩) (kM_ HO_190000.out (fun k_ hk => (⟨hk, hk.2⟩ : _ ∧ k_ ≠ gb192))) (fun _ hk => hk.2) (.int .i64 (-1))) (fun _ hk => hk.2) (.int .i64 (-1))) (fun _ hk => hk.2) (.bool t191)) (fun _ hk => hk.1.2))); (case aS => exact (bZ_ (by repeat (first | (with_reducible first | exact HB.out | apply bA_ | apply bN_ | apply bD_ | refine bS_ ?_ GE177.out | refine bS_ ?_ GE189.out | refine bS_ ?_ GE192.out) | exact HB.out)))); (case aL => have := LMc42.out; omega); intro v198 w50 ho hb hg hat; rw [← Ny197.out] at ho; have n0_ := aM_ (Kd.R_over' (by exact (kM_ (kF_ (p := ⟨gb192, 2, none⟩) (kF_ (p := ⟨gb192, 1, none⟩) (kF_ (p := ⟨gb192, 0, none⟩) (kT_ HO_3.out BK192.out (by decide)) (fun _ hk => hk.2) (.int .i64 (-1))) (fun _ hk => hk.2) (.int .i64 (-1))) (fun _ hk => hk.2) (.bool t191)) (fun _ h_ => h_.1))) (Kd.R_typed (by exact (kM_ (kF_ (p := ⟨gb192, 2, none⟩) (kF_ (p := ⟨gb192, 1, none⟩) (kF_ (p := ⟨gb192, 0, none⟩) (kM_ HO_190000.out (fun k_ hk => (⟨hk, hk.2⟩ : _ ∧ k_ ≠ gb192))) (fun _ hk => hk.2) (.int .i64 (-1))) (fun _ hk => hk.2) (.int .i64 (-1))) (fun _ hk => hk.2) (.bool t191)) (fun _ h_ => h_.1)))) (by decide) hg); have n1_ := aM_ (blk_grown (g := gb177) (o := .cells #[.slice none 0 0] 30 (0, 0)) (by refine bR_ ?_ NB177_192.out _; refine bR_ ?_ NB177_192.out _; refine bR_ ?_ NB177_192.out _; exact BK177.out) hg (k6_ HO_190000.out BK177.out (by decide))); have n2_ := aM_ (blk_grown (g := gb189) (o := .cells #[u190000] 30 (0, 0)) (by refine bR_ ?_ NB189_192.out _; refine bR_ ?_ NB189_192.out _; refine bR_ ?_ NB189_192.out _; exact BK189.out) hg (k6_ HO_190000.out BK189.out (by decide))); have n3_ := aM_ (blk_grown (g := gb192) (o := .cells #[.int .i64 (-1), .int .i64 (-1), .bool t191] 65 (0, 0)) (by refine bP_ (cs := #[.int .i64 (-1), .int .i64 (-1), .bool false]) ?_ 2 _ rfl; refine bP_ (cs := #[.int .i64 (-1), .int .i64 0, .bool false]) ?_ 1 _ rfl; refine bP_ (cs := #[.int .i64 0, .int .i64 0, .bool false]) ?_ 0 _ rfl; exact BK192.out) hg (Kd.R_away HO_190000.out (fun _ hk => hk.2))); have n4_ := aM_ (hb); have n5_ := aM_ (ho); clear HO_3; clear BK177; clear BK189; clear BK192; clear HB; clear HO_190000; have HO_3 := n0_; have BK177 := n1_; have BK189 := n2_; have BK192 := n3_; have HB := n4_; have HO199 := n5_; clear n0_ n1_ n2_ n3_ n4_ n5_; clear ho hb hg hat; obtain ⟨Ao51, co51, eo51⟩ := kS_ HO199.out; subst eo51; have hcz52_0 : w50.cell? ⟨gb189, 0, none⟩ = some (u190000) := (bC_ BK189.out 0).trans rfl; have hfz52_0 := bF_ BK189.out 0))
          go_roundg k2
          case measure => have := HK1.out; have := HK2.out; omega
          case rel => exact ⟨(wrap64 (x7_2 + 1)), (y197), (.slice Ao51 y197.length co51), (by rfl), H', ⟨by have := HK1.out; have := HK2.out; omega⟩, ⟨by exact kM_ (kF_ (p := ⟨gb189, 0, none⟩) (kT_ HO_3.out BK189.out (by decide)) (fun _ hk => hk.2) (.slice Ao51 y197.length co51)) (fun _ hk => trivial)⟩, ⟨by exact kM_ (kF_ (p := ⟨gb189, 0, none⟩) (kT_ HO199.out BK189.out (by decide)) (fun _ hk => hk.2) (.slice Ao51 y197.length co51)) (fun _ hk => trivial)⟩, ⟨by refine bR_ ?_ NB177_189.out _; exact BK177.out⟩, ⟨by refine bP_ (cs := #[u190000]) ?_ 0 _ rfl; exact BK189.out⟩, ⟨by repeat (first | (with_reducible first | exact HB.out | apply bA_ | apply bN_ | apply bD_ | refine bS_ ?_ GE177.out | refine bS_ ?_ GE189.out | refine bS_ ?_ GE192.out) | exact HB.out)⟩⟩
         ·
          rw [if_neg c42] at H
          exact absurd H (by simp)
       ·
        rw [if_neg c21] at H
        exact absurd H (by simp)
      ·
       rw [if_neg c20] at H
       have c20b0 := decide_eq_false c20
       clear c20
       obtain rfl := Option.some.inj H
       obtain ⟨Ao53, co53, eo53⟩ := kS_ HO_3.out
       subst eo53
       have hnb54 := NB189_177.out
       have hnc54 := NB177_189.out
       have hcz55_0 : wr.cell? ⟨gb189, 0, none⟩ = some (u190000) := (bC_ BK189.out 0).trans rfl
       have hfz55_0 := bF_ BK189.out 0
       obtain ⟨Ao56, co56, eo56⟩ := kS_ HO_190000.out
       subst eo56
       have hcz57_0 : wr.cell? ⟨gb177, 0, none⟩ = some (.slice none 0 0) := (bC_ BK177.out 0).trans rfl
       have hfz57_0 := bF_ BK177.out 0
       go_wp2
       refine bodyPost_ret (results_cell_row rfl _ _ gb177 30 #[.slice Ao56 x190000_2.length co56] (0, 0) _ rfl (by refine bP_ (cs := #[.slice none 0 0]) ?_ 0 _ rfl; exact BK177.out) Try.underlying30 rfl (by kernel_rfl)) rfl ?_
       exact ⟨_, by rfl, by exact kM_ (kF_ (p := ⟨gb177, 0, none⟩) (kT_ HO_190000.out BK177.out (by decide)) (fun _ hk => hk.2) (.slice Ao56 x190000_2.length co56)) (fun _ hk => trivial), by repeat (first | (with_reducible first | exact HB.out | apply bA_ | apply bN_ | apply bD_ | refine bS_ ?_ GE177.out | refine bS_ ?_ GE189.out) | exact HB.out)⟩
def spec_l2Trie.f (k : Nat) (l0_0 : List (S65)) : Option (Bool) := (spec_l1In.f (l0_0.length : Int) 1 481).bind fun t201 => (if t201 = true then ((spec_l2Words.f k l0_0).bind fun t202 => ((spec_l2Set.f k t202).bind fun bt205 => (if bt205.2 = true then ((spec_l2Of.f k bt205.1).bind fun t209 => ((spec_l2Same.f k t209 l0_0).bind fun t212 => (some t212))) else (some false)))) else (some false))
theorem spec_l2Trie.mono : ∀ a0 k, LeO (spec_l2Trie.f k a0) (spec_l2Trie.f (k + 1) a0) := by
 intro a0 k
 unfold spec_l2Trie.f
 repeat' first
   | (with_reducible exact spec_l2Of.mono _ _)
   | (with_reducible exact spec_l2Same.mono _ _ _)
   | (with_reducible exact spec_l2Set.mono _ _)
   | (with_reducible exact spec_l2Words.mono _ _)
   | (with_reducible exact l3_ _)
   | (with_reducible exact l0_ _)
   | (with_reducible refine l2_ ?_ ?_)
   | (with_reducible refine l1_ ?_ (fun _ => ?_))
   | exact spec_l2Of.mono _ _
   | exact spec_l2Same.mono _ _ _
   | exact spec_l2Set.mono _ _
   | exact spec_l2Words.mono _ _
   | exact l0_ _
   | refine l2_ ?_ ?_
   | refine l1_ ?_ (fun _ => ?_)
def spec_l2Trie.T4 : Bool × List (List Nat × List Nat) := (true, [([], []), ([0], [0]), ([1], [1]), ([2, 1, 1], [1, 2]), ([1], [1]), ([3, 4, 3, 1], [1, 3, 4]), ([1, 5], [1, 5]), ([6, 5, 0, 1, 2, 3, 4, 5, 6], [6])])
def spec_l2Trie.B4 : List Nat := [0, 1, 3, 7, 3, 31, 63, 127]
theorem spec_l2Trie.tab4 : rtab .any (opsOf Try.f26 4) = spec_l2Trie.T4 := by kernel_rfl
theorem spec_l2Trie.bits4 : waitsOk spec_l2Trie.T4.2 spec_l2Trie.B4 = true := by kernel_rfl
theorem spec_l2Trie.calls (k : Nat) (A0_0 : Option Addr) (c0_0 : Nat) (l0_0 : List (S65)) (r : Bool) (w : World) (hr0_0 : Kd.C k65 w A0_0 l0_0.length l0_0) (hc0_0 : l0_0.length ≤ c0_0) (h : spec_l2Trie.f k l0_0 = some r) :
  Calls Try.prog 26 #[.agg #[.slice A0_0 l0_0.length c0_0]] w fun e w' => e = .returned (.bool r) ∧ Below w.heap.size w w' := by
 have hu30 := Try.underlying30
 have HR0_0 := aM_ hr0_0
 have HC0_0 := aM_ hc0_0
 clear hr0_0 hc0_0
 have HB := aM_ (Below.refl w.heap.size w)
 have H : ((spec_l1In.f (l0_0.length : Int) 1 481).bind fun t201 => (if t201 = true then ((spec_l2Words.f k l0_0).bind fun t202 => ((spec_l2Set.f k t202).bind fun bt205 => (if bt205.2 = true then ((spec_l2Of.f k bt205.1).bind fun t209 => ((spec_l2Same.f k t209 l0_0).bind fun t212 => (some t212))) else (some false)))) else (some false))) = some r := h
 clear h
 replace H := oB_.mp H
 obtain ⟨t201, A20, H⟩ := H
 try dsimp only at H
 have A2 := aM_ A20
 clear A20
 by_cases c3 : t201 = true
 ·
  subst c3
  rw [if_pos rfl] at H
  replace H := oB_.mp H
  obtain ⟨t202, A40, H⟩ := H
  try dsimp only at H
  have A4 := aM_ A40
  clear A40
  replace H := oB_.mp H
  obtain ⟨⟨t205, t206⟩, A50, H⟩ := H
  try dsimp only at H
  have A5 := aM_ A50
  clear A50
  by_cases c6 : t206 = true
  ·
   subst c6
   rw [if_pos rfl] at H
   replace H := oB_.mp H
   obtain ⟨t209, A70, H⟩ := H
   try dsimp only at H
   have A7 := aM_ A70
   clear A70
   replace H := oB_.mp H
   obtain ⟨t212, A80, H⟩ := H
   try dsimp only at H
   have A8 := aM_ A80
   clear A80
   obtain rfl := Option.some.inj H
   go_enter Try.func26, Try.ntmps26
   try go_wp2_with (first | ((with_reducible refine gD_ (N := 1) rfl ?_); refine bE_ ?hg (N := 1) ?hd (cs := #[.slice A0_0 l0_0.length c0_0]) (t := 30) ?hr ?_; (case hd => rfl); (case hg => rfl); (case hr => (go_simp; done)); intro gb200 hg w9 hbox hb; have BK200 := aM_ (hbox); have GW200 := aM_ ((by rw [hg]; exact (bZ_ HB.out) : w.heap.size ≤ gb200)); have GE200 := GW200; replace HB := aM_ (bT_ HB.out hb); clear hb hbox hg; have hcz10_0 : w9.cell? ⟨gb200, 0, none⟩ = some (.slice A0_0 l0_0.length c0_0) := (bC_ BK200.out 0).trans rfl; have hfz10_0 := bF_ BK200.out 0) | ((with_reducible refine gC_ (f := 34) rfl ?_); refine goesL_ (some 8) rfl rfl Try.func34 (by kernel_rfl) rfl #[.int .i64 (l0_0.length : Int), .int .i64 1, .int .i64 481] rfl (by (try simp only [sD_, sE_, sF_]); rfl) ?_; (with_reducible refine (spec_l1In.calls (l0_0.length : Int) 1 481 true _ A2.out).mono ?_); rintro e w' ⟨rfl, ⟨nd, rfl⟩⟩; refine ⟨_, rfl, ?_⟩) | ((with_reducible refine gC_ (f := 43) rfl ?_); refine goesL_ (some 12) rfl rfl Try.func43 (by kernel_rfl) rfl #[.agg #[.slice A0_0 l0_0.length c0_0]] rfl (by (try simp only [sD_, sE_, sF_]); rfl) ?_; (with_reducible refine (spec_l2Words.calls k _ _ l0_0 t202 _ ?side1 ?side2 A4.out).mono ?_); (case side1 => repeat (first | exact (k4_ HR0_0.out (by repeat (first | (with_reducible first | exact HB.out | apply bA_ | apply bN_ | apply bD_ | refine bS_ ?_ GE200.out) | exact HB.out))) | (with_reducible refine Kd.C_alloc ?_ _) | (with_reducible refine Kd.C_drewN ?_ _) | (with_reducible refine Kd.C_drew ?_))); (case side2 => exact HC0_0.out); rintro e w11 ⟨v203, rfl, ho0, hb⟩; refine ⟨_, rfl, ?_⟩; have HO204 := aM_ (k5_ ho0 (bZ_ (by repeat (first | (with_reducible first | exact HB.out | apply bA_ | apply bN_ | apply bD_ | refine bS_ ?_ GE200.out) | exact HB.out)))); replace BK200 := aM_ (bB_ (g := gb200) (o := .cells #[.slice A0_0 l0_0.length c0_0] 30 (0, 0)) (by (with_reducible repeat (first | refine b2_ ?_ _ | refine b1_ ?_ | refine b3_ ?_ _)); exact BK200.out) hb); replace HB := aM_ (bT_ (by repeat (first | (with_reducible first | exact HB.out | apply bA_ | apply bN_ | apply bD_ | refine bS_ ?_ GE200.out) | exact HB.out)) hb); (try clear hb); (try clear ho0); obtain ⟨Ao12, co12, eo12⟩ := kS_ HO204.out; subst eo12) | ((with_reducible refine gC_ (f := 42) rfl ?_); refine goesL_ (some 13) rfl rfl Try.func42 (by kernel_rfl) rfl #[.slice Ao12 t202.length co12] rfl (by (try simp only [sD_, sE_, sF_]); rfl) ?_; (with_reducible refine (spec_l2Set.calls k _ _ t202 t205 true _ ?side1 ?side2 A5.out).mono ?_); (case side1 => repeat (first | exact (kR_ HO204.out).2.2 | (with_reducible refine Kd.C_alloc ?_ _) | (with_reducible refine Kd.C_drewN ?_ _) | (with_reducible refine Kd.C_drew ?_))); (case side2 => exact (kR_ HO204.out).2.1); rintro e w13 ⟨v207, rfl, ho0, hb⟩; refine ⟨_, rfl, ?_⟩; have HO208 := aM_ (k5_ (Kd.R_new' ho0 (Kd.R_lt HO204.out)) (bZ_ HB.out)); replace HO204 := aM_ (Kd.R_elder' HO204.out (Kd.R_base ho0) hb); replace BK200 := aM_ (bB_ BK200.out hb); replace HB := aM_ (bT_ HB.out hb); (try clear hb); (try clear ho0)))
   have n0_ := aM_ (k3_ HO204.out)
   have n1_ := aM_ (k3_ HO208.out)
   have n2_ := aM_ (b1_ BK200.out)
   have n3_ := aM_ (bD_ HB.out)
   clear HO204
   clear HO208
   clear BK200
   clear HB
   have HO204 := n0_
   have HO208 := n1_
   have BK200 := n2_
   have HB := n3_
   clear n0_ n1_ n2_ n3_
   obtain ⟨Ao15, co15, eo15⟩ := kS_ HO208.out
   (subst eo15)
   refine start_ (n := 8) (S := fun w' => w'.cell? ⟨gb200, 0, none⟩ = some (.slice A0_0 l0_0.length c0_0)) (ds := []) #[fy, fy, fy, fy, fy, fy, fy, fy] (by kernel_rfl) rfl rfl ((bC_ BK200.out 0).trans rfl) (fun hHeld => ?_); refine with_tabW spec_l2Trie.tab4 spec_l2Trie.bits4 (fun HT_ HW_ => ?_)
   generalize w13.drew = w14 at HO204 HO208 BK200 HB hHeld ⊢
   refine pure_ (i := 0) (N := some 16) (v := ?_) (a' := ?_) #[ty, fy, fy, fy, fy, fy, fy, fy] rfl rfl (aO_ HT_.out (by kernel_rfl)) (fun _ _ _ h => h) (Or.inl ⟨by rfl, ?_⟩) ?_ ?_; rotate_left; (intro w'; go_simp; with_reducible rfl); rotate_left; (simp only [Act.put, sA_, sB_, sC_, i6_, i3_]; rfl)
   refine pure_ (i := 1) (N := some 17) (v := ?_) (a' := ?_) #[ty, ty, fy, fy, fy, fy, fy, fy] rfl rfl (aO_ HT_.out (by kernel_rfl)) (fun _ _ _ h => h) (Or.inl ⟨by rfl, ?_⟩) ?_ ?_; rotate_left; (intro w'; go_simp; with_reducible rfl); rotate_left; (simp only [Act.put, sA_, sB_, sC_, i6_, i3_]; rfl)
   refine pure_ (i := 2) (N := some 18) (v := ?_) (a' := ?_) #[ty, ty, ty, fy, fy, fy, fy, fy] rfl rfl (aO_ HT_.out (by kernel_rfl)) (fun _ _ _ h => h) (Or.inl ⟨by rfl, ?_⟩) ?_ ?_; rotate_left; (intro w'; go_simp; with_reducible rfl); rotate_left; (simp only [Act.put, sA_, sB_, sC_, i6_, i3_]; rfl)
   refine take_ (i := 4) (N := some 20) (v := ?_) (a' := ?_) #[ty, ty, ty, fy, ty, fy, fy, fy] rfl rfl (tW_ HT_.out HW_.out (by kernel_rfl)) (fun _ _ _ h => h) (Or.inl ⟨by rfl, ?_⟩) hHeld ?_ ?_; rotate_left; (intro w' s0; go_simp; with_reducible rfl); rotate_left; (simp only [Act.put, sA_, sB_, sC_, i6_, i3_]; rfl)
   refine one_ (i := 3) (N := some 19) #[ty, ty, ty, ty, ty, fy, fy, fy] rfl rfl (one_of HT_.out (by kernel_rfl)) (by decide) (fun K hK => ?_)
   refine goes_ Try.func45 (by kernel_rfl) rfl #[.slice Ao15 t205.length co15] (by rfl) rfl rfl (by (try simp only [sD_, sE_, sF_]); rfl) ?_
   with_reducible refine (spec_l2Of.calls k _ _ t205 t209 _ ?side1 ?side2 A7.out).mono ?_
   (case side1 => repeat (first | exact (kR_ HO208.out).2.2 | (with_reducible refine Kd.C_alloc ?_ _) | (with_reducible refine Kd.C_drewN ?_ _) | (with_reducible refine Kd.C_drew ?_)))
   (case side2 => exact (kR_ HO208.out).2.1)
   rintro e w16 ⟨v210, rfl, ho0, hb⟩
   refine ⟨_, rfl, ?_⟩
   have n0_ := aM_ (kB_ HO204.out hb)
   have n1_ := aM_ (kB_ HO208.out hb)
   have n2_ := aM_ (k5_ ho0 (bZ_ HB.out))
   have n3_ := aM_ (bB_ BK200.out hb)
   have n4_ := aM_ (bT_ HB.out hb)
   clear HO204
   clear HO208
   clear BK200
   clear HB
   have HO204 := n0_
   have HO208 := n1_
   have HO211 := n2_
   have BK200 := n3_
   have HB := n4_
   clear n0_ n1_ n2_ n3_ n4_
   (try clear hb)
   (try clear ho0)
   obtain ⟨Ao17, co17, eo17⟩ := kS_ HO211.out
   (subst eo17)
   refine hK.out _ _ ((bC_ BK200.out 0).trans rfl) (fun hHeld => ?_)
   clear hK K
   refine norm_ (a' := ?_) ?_ ?_; rotate_left; (show Act.put _ (some 19) _ = _; simp only [Act.put, sA_, sB_, sC_, i6_, i3_]; rfl)
   refine one_ (i := 5) (N := some 21) #[ty, ty, ty, ty, ty, ty, fy, fy] rfl rfl (one_of HT_.out (by kernel_rfl)) (by decide) (fun K hK => ?_)
   refine goes_ Try.func44 (by kernel_rfl) rfl #[.agg #[.slice Ao17 t209.length co17], .agg #[.slice A0_0 l0_0.length c0_0]] (by rfl) rfl rfl (by (try simp only [sD_, sE_, sF_]); rfl) ?_
   with_reducible refine (spec_l2Same.calls k _ _ t209 _ _ l0_0 t212 _ ?side1 ?side2 ?side3 ?side4 A8.out).mono ?_
   (case side1 => repeat (first | exact (kR_ HO211.out).2.2 | (with_reducible refine Kd.C_alloc ?_ _) | (with_reducible refine Kd.C_drewN ?_ _) | (with_reducible refine Kd.C_drew ?_)))
   (case side2 => exact (kR_ HO211.out).2.1)
   (case side3 => repeat (first | exact (k4_ HR0_0.out HB.out) | (with_reducible refine Kd.C_alloc ?_ _) | (with_reducible refine Kd.C_drewN ?_ _) | (with_reducible refine Kd.C_drew ?_)))
   (case side4 => exact HC0_0.out)
   rintro e w18 ⟨rfl, hb⟩
   refine ⟨_, rfl, ?_⟩
   have n0_ := aM_ (kB_ HO204.out hb)
   have n1_ := aM_ (kB_ HO208.out hb)
   have n2_ := aM_ (kB_ HO211.out hb)
   have n3_ := aM_ (bB_ BK200.out hb)
   have n4_ := aM_ (bT_ HB.out hb)
   clear HO204
   clear HO208
   clear HO211
   clear BK200
   clear HB
   have HO204 := n0_
   have HO208 := n1_
   have HO211 := n2_
   have BK200 := n3_
   have HB := n4_
   clear n0_ n1_ n2_ n3_ n4_
   (try clear hb)
   refine hK.out _ _ ((bC_ BK200.out 0).trans rfl) (fun hHeld => ?_)
   clear hK K
   refine norm_ (a' := ?_) ?_ ?_; rotate_left; (show Act.put _ (some 21) _ = _; simp only [Act.put, sA_, sB_, sC_, i6_, i3_]; rfl)
   refine pure_ (i := 6) (N := some 22) (v := ?_) (a' := ?_) #[ty, ty, ty, ty, ty, ty, ty, fy] rfl rfl (aO_ HT_.out (by kernel_rfl)) (fun _ _ _ h => h) (Or.inl ⟨by rfl, ?_⟩) ?_ ?_; rotate_left; (intro w'; go_simp; with_reducible rfl); rotate_left; (simp only [Act.put, sA_, sB_, sC_, i6_, i3_]; rfl)
   refine pure_ (i := 7) (N := some 2) (v := ?_) (a' := ?_) #[ty, ty, ty, ty, ty, ty, ty, ty] rfl rfl (aO_ HT_.out (by kernel_rfl)) (fun _ _ _ h => h) (Or.inl ⟨by rfl, ?_⟩) ?_ ?_; rotate_left; (intro w'; go_simp; with_reducible rfl); rotate_left; (simp only [Act.put, sA_, sB_, sC_, i6_, i3_]; rfl)
   refine done_ (done_of HT_.out (by kernel_rfl)) ?_
   try go_wp2
   go_ret
   exact ⟨by rfl, by exact HB.out⟩
  ·
   replace c6 := Bool.eq_false_iff.mpr c6
   subst c6
   have H1 : (some false) = some r := by rw [if_neg (show ¬ (false = true) by decide)] at H; exact H
   clear H
   have H := H1
   clear H1
   obtain rfl := Option.some.inj H
   go_enter Try.func26, Try.ntmps26
   try go_wp2_with (first | ((with_reducible refine gD_ (N := 1) rfl ?_); refine bE_ ?hg (N := 1) ?hd (cs := #[.slice A0_0 l0_0.length c0_0]) (t := 30) ?hr ?_; (case hd => rfl); (case hg => rfl); (case hr => (go_simp; done)); intro gb200 hg w19 hbox hb; have BK200 := aM_ (hbox); have GW200 := aM_ ((by rw [hg]; exact (bZ_ HB.out) : w.heap.size ≤ gb200)); have GE200 := GW200; replace HB := aM_ (bT_ HB.out hb); clear hb hbox hg; have hcz20_0 : w19.cell? ⟨gb200, 0, none⟩ = some (.slice A0_0 l0_0.length c0_0) := (bC_ BK200.out 0).trans rfl; have hfz20_0 := bF_ BK200.out 0) | ((with_reducible refine gC_ (f := 34) rfl ?_); refine goesL_ (some 8) rfl rfl Try.func34 (by kernel_rfl) rfl #[.int .i64 (l0_0.length : Int), .int .i64 1, .int .i64 481] rfl (by (try simp only [sD_, sE_, sF_]); rfl) ?_; (with_reducible refine (spec_l1In.calls (l0_0.length : Int) 1 481 true _ A2.out).mono ?_); rintro e w' ⟨rfl, ⟨nd, rfl⟩⟩; refine ⟨_, rfl, ?_⟩) | ((with_reducible refine gC_ (f := 43) rfl ?_); refine goesL_ (some 12) rfl rfl Try.func43 (by kernel_rfl) rfl #[.agg #[.slice A0_0 l0_0.length c0_0]] rfl (by (try simp only [sD_, sE_, sF_]); rfl) ?_; (with_reducible refine (spec_l2Words.calls k _ _ l0_0 t202 _ ?side1 ?side2 A4.out).mono ?_); (case side1 => repeat (first | exact (k4_ HR0_0.out (by repeat (first | (with_reducible first | exact HB.out | apply bA_ | apply bN_ | apply bD_ | refine bS_ ?_ GE200.out) | exact HB.out))) | (with_reducible refine Kd.C_alloc ?_ _) | (with_reducible refine Kd.C_drewN ?_ _) | (with_reducible refine Kd.C_drew ?_))); (case side2 => exact HC0_0.out); rintro e w21 ⟨v203, rfl, ho0, hb⟩; refine ⟨_, rfl, ?_⟩; have HO204 := aM_ (k5_ ho0 (bZ_ (by repeat (first | (with_reducible first | exact HB.out | apply bA_ | apply bN_ | apply bD_ | refine bS_ ?_ GE200.out) | exact HB.out)))); replace BK200 := aM_ (bB_ (g := gb200) (o := .cells #[.slice A0_0 l0_0.length c0_0] 30 (0, 0)) (by (with_reducible repeat (first | refine b2_ ?_ _ | refine b1_ ?_ | refine b3_ ?_ _)); exact BK200.out) hb); replace HB := aM_ (bT_ (by repeat (first | (with_reducible first | exact HB.out | apply bA_ | apply bN_ | apply bD_ | refine bS_ ?_ GE200.out) | exact HB.out)) hb); (try clear hb); (try clear ho0); obtain ⟨Ao22, co22, eo22⟩ := kS_ HO204.out; subst eo22) | ((with_reducible refine gC_ (f := 42) rfl ?_); refine goesL_ (some 13) rfl rfl Try.func42 (by kernel_rfl) rfl #[.slice Ao22 t202.length co22] rfl (by (try simp only [sD_, sE_, sF_]); rfl) ?_; (with_reducible refine (spec_l2Set.calls k _ _ t202 t205 false _ ?side1 ?side2 A5.out).mono ?_); (case side1 => repeat (first | exact (kR_ HO204.out).2.2 | (with_reducible refine Kd.C_alloc ?_ _) | (with_reducible refine Kd.C_drewN ?_ _) | (with_reducible refine Kd.C_drew ?_))); (case side2 => exact (kR_ HO204.out).2.1); rintro e w23 ⟨v207, rfl, ho0, hb⟩; refine ⟨_, rfl, ?_⟩; have HO208 := aM_ (k5_ (Kd.R_new' ho0 (Kd.R_lt HO204.out)) (bZ_ HB.out)); replace HO204 := aM_ (Kd.R_elder' HO204.out (Kd.R_base ho0) hb); replace BK200 := aM_ (bB_ BK200.out hb); replace HB := aM_ (bT_ HB.out hb); (try clear hb); (try clear ho0)))
   have n0_ := aM_ (k3_ HO204.out)
   have n1_ := aM_ (k3_ HO208.out)
   have n2_ := aM_ (b1_ BK200.out)
   have n3_ := aM_ (bD_ HB.out)
   clear HO204
   clear HO208
   clear BK200
   clear HB
   have HO204 := n0_
   have HO208 := n1_
   have BK200 := n2_
   have HB := n3_
   clear n0_ n1_ n2_ n3_
   refine start_ (n := 8) (S := fun w' => True) (ds := []) #[fy, fy, fy, fy, fy, fy, fy, fy] (by kernel_rfl) rfl rfl trivial (fun hHeld => ?_); refine with_tabW spec_l2Trie.tab4 spec_l2Trie.bits4 (fun HT_ HW_ => ?_)
   generalize w23.drew = w24 at HO204 HO208 BK200 HB hHeld ⊢
   refine pure_ (i := 0) (N := some 16) (v := ?_) (a' := ?_) #[ty, fy, fy, fy, fy, fy, fy, fy] rfl rfl (aO_ HT_.out (by kernel_rfl)) (fun _ _ _ h => h) (Or.inl ⟨by rfl, ?_⟩) ?_ ?_; rotate_left; (intro w'; go_simp; with_reducible rfl); rotate_left; (simp only [Act.put, sA_, sB_, sC_, i6_, i3_]; rfl)
   refine pure_ (i := 1) (N := some 17) (v := ?_) (a' := ?_) #[ty, ty, fy, fy, fy, fy, fy, fy] rfl rfl (aO_ HT_.out (by kernel_rfl)) (fun _ _ _ h => h) (Or.inl ⟨by rfl, ?_⟩) ?_ ?_; rotate_left; (intro w'; go_simp; with_reducible rfl); rotate_left; (simp only [Act.put, sA_, sB_, sC_, i6_, i3_]; rfl)
   refine pure_ (i := 2) (N := some 18) (v := undef) (a' := ?_) #[ty, ty, ty, fy, fy, fy, fy, fy] rfl rfl (aO_ HT_.out (by kernel_rfl)) (fun _ _ _ h => h) (Or.inr ⟨by rfl, rfl⟩) ?_ ?_
   rotate_left
   ·
    simp only [Act.put, sA_, sB_, sC_, i6_, i3_]
    rfl
   refine pure_ (i := 3) (N := some 19) (v := undef) (a' := ?_) #[ty, ty, ty, ty, fy, fy, fy, fy] rfl rfl (aO_ HT_.out (by kernel_rfl)) (fun _ _ _ h => h) (Or.inr ⟨by rfl, rfl⟩) ?_ ?_
   rotate_left
   ·
    simp only [Act.put, sA_, sB_, sC_, i6_, i3_]
    rfl
   refine pure_ (i := 4) (N := some 20) (v := undef) (a' := ?_) #[ty, ty, ty, ty, ty, fy, fy, fy] rfl rfl (aO_ HT_.out (by kernel_rfl)) (fun _ _ _ h => h) (Or.inr ⟨by rfl, rfl⟩) ?_ ?_
   rotate_left
   ·
    simp only [Act.put, sA_, sB_, sC_, i6_, i3_]
    rfl
   refine pure_ (i := 5) (N := some 21) (v := undef) (a' := ?_) #[ty, ty, ty, ty, ty, ty, fy, fy] rfl rfl (aO_ HT_.out (by kernel_rfl)) (fun _ _ _ h => h) (Or.inr ⟨by rfl, rfl⟩) ?_ ?_
   rotate_left
   ·
    simp only [Act.put, sA_, sB_, sC_, i6_, i3_]
    rfl
   refine pure_ (i := 6) (N := some 22) (v := ?_) (a' := ?_) #[ty, ty, ty, ty, ty, ty, ty, fy] rfl rfl (aO_ HT_.out (by kernel_rfl)) (fun _ _ _ h => h) (Or.inl ⟨by rfl, ?_⟩) ?_ ?_; rotate_left; (intro w'; go_simp; with_reducible rfl); rotate_left; (simp only [Act.put, sA_, sB_, sC_, i6_, i3_]; rfl)
   refine pure_ (i := 7) (N := some 2) (v := ?_) (a' := ?_) #[ty, ty, ty, ty, ty, ty, ty, ty] rfl rfl (aO_ HT_.out (by kernel_rfl)) (fun _ _ _ h => h) (Or.inl ⟨by rfl, ?_⟩) ?_ ?_; rotate_left; (intro w'; go_simp; with_reducible rfl); rotate_left; (simp only [Act.put, sA_, sB_, sC_, i6_, i3_]; rfl)
   refine done_ (done_of HT_.out (by kernel_rfl)) ?_
   try go_wp2
   go_ret
   exact ⟨by rfl, by exact HB.out⟩
 ·
  replace c3 := Bool.eq_false_iff.mpr c3
  subst c3
  have H1 : (some false) = some r := by rw [if_neg (show ¬ (false = true) by decide)] at H; exact H
  clear H
  have H := H1
  clear H1
  obtain rfl := Option.some.inj H
  go_enter Try.func26, Try.ntmps26
  go_wp2_with (first | ((with_reducible refine gD_ (N := 1) rfl ?_); refine bE_ ?hg (N := 1) ?hd (cs := #[.slice A0_0 l0_0.length c0_0]) (t := 30) ?hr ?_; (case hd => rfl); (case hg => rfl); (case hr => (go_simp; done)); intro gb200 hg w25 hbox hb; have BK200 := aM_ (hbox); have GW200 := aM_ ((by rw [hg]; exact (bZ_ HB.out) : w.heap.size ≤ gb200)); have GE200 := GW200; replace HB := aM_ (bT_ HB.out hb); clear hb hbox hg; have hcz26_0 : w25.cell? ⟨gb200, 0, none⟩ = some (.slice A0_0 l0_0.length c0_0) := (bC_ BK200.out 0).trans rfl; have hfz26_0 := bF_ BK200.out 0) | ((with_reducible refine gC_ (f := 34) rfl ?_); refine goesL_ (some 8) rfl rfl Try.func34 (by kernel_rfl) rfl #[.int .i64 (l0_0.length : Int), .int .i64 1, .int .i64 481] rfl (by (try simp only [sD_, sE_, sF_]); rfl) ?_; (with_reducible refine (spec_l1In.calls (l0_0.length : Int) 1 481 false _ A2.out).mono ?_); rintro e w' ⟨rfl, ⟨nd, rfl⟩⟩; refine ⟨_, rfl, ?_⟩))
  go_ret
  exact ⟨by rfl, by repeat (first | (with_reducible first | exact HB.out | apply bA_ | apply bN_ | apply bD_ | refine bS_ ?_ GE200.out) | exact HB.out)⟩
def spec_MachineOf.f (k : Nat) (l0_0 : List (S65)) : Option ((List (S77)) × Bool) := (spec_l2Trie.f k l0_0).bind fun t503 => (if t503 = true then ((spec_l7Machine.f k l0_0).bind fun t504 => (some (t504, true))) else (some (([] : List (S77)), false)))
theorem spec_MachineOf.mono : ∀ a0 k, LeO (spec_MachineOf.f k a0) (spec_MachineOf.f (k + 1) a0) := by
 intro a0 k
 unfold spec_MachineOf.f
 repeat' first
   | (with_reducible exact spec_l2Trie.mono _ _)
   | (with_reducible exact spec_l7Machine.mono _ _)
   | (with_reducible exact l3_ _)
   | (with_reducible exact l0_ _)
   | (with_reducible refine l2_ ?_ ?_)
   | (with_reducible refine l1_ ?_ (fun _ => ?_))
   | exact spec_l2Trie.mono _ _
   | exact spec_l7Machine.mono _ _
   | exact l0_ _
   | refine l2_ ?_ ?_
   | refine l1_ ?_ (fun _ => ?_)
theorem spec_MachineOf.calls (k : Nat) (A0_0 : Option Addr) (c0_0 : Nat) (l0_0 : List (S65)) (r1 : List (S77)) (r2 : Bool) (w : World) (hr0_0 : Kd.C k65 w A0_0 l0_0.length l0_0) (hc0_0 : l0_0.length ≤ c0_0) (h : spec_MachineOf.f k l0_0 = some (r1, r2)) :
  Calls Try.prog 13 #[.agg #[.slice A0_0 l0_0.length c0_0]] w fun e w' => ∃ v0_ : Value, e = .returned (.tuple #[.agg #[v0_], .bool r2]) ∧ Kd.S k77 77 w' w.heap.size (fun _ => True) v0_ r1 ∧ Below w.heap.size w w' := by
 have hu30 := Try.underlying30
 have hu39 := Try.underlying39
 have HR0_0 := aM_ hr0_0
 have HC0_0 := aM_ hc0_0
 clear hr0_0 hc0_0
 have HB := aM_ (Below.refl w.heap.size w)
 have H : ((spec_l2Trie.f k l0_0).bind fun t503 => (if t503 = true then ((spec_l7Machine.f k l0_0).bind fun t504 => (some (t504, true))) else (some (([] : List (S77)), false)))) = some (r1, r2) := h
 clear h
 replace H := oB_.mp H
 obtain ⟨t503, A20, H⟩ := H
 try dsimp only at H
 have A2 := aM_ A20
 clear A20
 by_cases c3 : t503 = true
 ·
  subst c3
  rw [if_pos rfl] at H
  replace H := oB_.mp H
  obtain ⟨t504, A40, H⟩ := H
  try dsimp only at H
  have A4 := aM_ A40
  clear A40
  simp only [Option.some.injEq, Prod.mk.injEq] at H
  obtain ⟨rfl, rfl⟩ := H
  go_enter Try.func13, Try.ntmps13
  go_wp2_with (first | ((with_reducible refine gD_ (N := 1) rfl ?_); refine bE_ ?hg (N := 1) ?hd (cs := #[.slice A0_0 l0_0.length c0_0]) (t := 30) ?hr ?_; (case hd => rfl); (case hg => rfl); (case hr => (go_simp; done)); intro gb501 hg w5 hbox hb; have BK501 := aM_ (hbox); have GW501 := aM_ ((by rw [hg]; exact (bZ_ HB.out) : w.heap.size ≤ gb501)); have GE501 := GW501; replace HB := aM_ (bT_ HB.out hb); clear hb hbox hg) | ((with_reducible refine gD_ (N := 2) rfl ?_); refine bE_ ?hg (N := 2) ?hd (cs := #[.slice none 0 0]) (t := 39) ?hr ?_; (case hd => rfl); (case hg => rfl); (case hr => (go_simp; done)); intro gb502 hg w6 hbox hb; have BK502 := aM_ (hbox); have GW502 := aM_ ((by rw [hg]; exact (bZ_ HB.out) : w.heap.size ≤ gb502)); have GE502 := GW502; replace HB := aM_ (bT_ HB.out hb); have NB501_502 := aM_ ((by rw [hg]; exact Nat.ne_of_lt (bL_ BK501.out) : gb501 ≠ gb502)); have NB502_501 := aM_ NB501_502.out.symm; replace BK501 := aM_ (bB_ BK501.out hb); clear hb hbox hg; have hnb7 := NB501_502.out; have hnc7 := NB502_501.out; have hcz8_0 : w6.cell? ⟨gb501, 0, none⟩ = some (.slice A0_0 l0_0.length c0_0) := (bC_ BK501.out 0).trans rfl; have hfz8_0 := bF_ BK501.out 0) | ((with_reducible refine gC_ (f := 26) rfl ?_); refine goesL_ (some 5) rfl rfl Try.func26 (by kernel_rfl) rfl #[.agg #[.slice A0_0 l0_0.length c0_0]] rfl (by (try simp only [sD_, sE_, sF_]); rfl) ?_; (with_reducible refine (spec_l2Trie.calls k _ _ l0_0 true _ ?side1 ?side2 A2.out).mono ?_); (case side1 => repeat (first | exact (k4_ HR0_0.out HB.out) | (with_reducible refine Kd.C_alloc ?_ _) | (with_reducible refine Kd.C_drewN ?_ _) | (with_reducible refine Kd.C_drew ?_))); (case side2 => exact HC0_0.out); rintro e w9 ⟨rfl, hb⟩; refine ⟨_, rfl, ?_⟩; replace BK501 := aM_ (bB_ BK501.out hb); replace BK502 := aM_ (bB_ BK502.out hb); replace HB := aM_ (bT_ HB.out hb); (try clear hb); have hcz10_0 : w9.cell? ⟨gb501, 0, none⟩ = some (.slice A0_0 l0_0.length c0_0) := (bC_ BK501.out 0).trans rfl; have hfz10_0 := bF_ BK501.out 0) | ((with_reducible refine gC_ (f := 27) rfl ?_); refine goesL_ (some 9) rfl rfl Try.func27 (by kernel_rfl) rfl #[.agg #[.slice A0_0 l0_0.length c0_0]] rfl (by (try simp only [sD_, sE_, sF_]); rfl) ?_; (with_reducible refine (spec_l7Machine.calls k _ _ l0_0 t504 _ ?side1 ?side2 A4.out).mono ?_); (case side1 => repeat (first | exact (k4_ HR0_0.out HB.out) | (with_reducible refine Kd.C_alloc ?_ _) | (with_reducible refine Kd.C_drewN ?_ _) | (with_reducible refine Kd.C_drew ?_))); (case side2 => exact HC0_0.out); rintro e w11 ⟨v505, rfl, ho0, hb⟩; refine ⟨_, rfl, ?_⟩; have HO506 := aM_ (Kd.S_lower ho0 (bZ_ HB.out)); replace BK501 := aM_ (bB_ BK501.out hb); replace BK502 := aM_ (bB_ BK502.out hb); replace HB := aM_ (bT_ HB.out hb); (try clear hb); (try clear ho0); obtain ⟨Ao12, co12, eo12⟩ := Kd.S_slice HO506.out; subst eo12; have hcz13_0 : w11.cell? ⟨gb502, 0, none⟩ = some (.slice none 0 0) := (bC_ BK502.out 0).trans rfl; have hfz13_0 := bF_ BK502.out 0))
  refine bodyPost_ret (results_ct rfl _ _ gb502 39 #[.slice Ao12 t504.length co12] (0, 0) _ rfl (by refine bP_ (cs := #[.slice none 0 0]) ?_ 0 _ rfl; exact BK502.out) Try.underlying39 rfl (by kernel_rfl)) rfl ?_
  exact ⟨_, by rfl, by (with_reducible repeat (first | apply Kd.S_alloc | apply Kd.S_drewN | apply Kd.S_drew)); exact Kd.S_mono (Kd.S_far (p := ⟨gb502, 0, none⟩) (Kd.S_types HO506.out BK502.out (by decide)) (fun _ hk => hk.2) (.slice Ao12 t504.length co12)) (fun _ hk => trivial), by repeat (first | (with_reducible first | exact HB.out | apply bA_ | apply bN_ | apply bD_ | refine bS_ ?_ GE501.out | refine bS_ ?_ GE502.out) | exact HB.out)⟩
 ·
  replace c3 := Bool.eq_false_iff.mpr c3
  subst c3
  have H1 : (some (([] : List (S77)), false)) = some (r1, r2) := by rw [if_neg (show ¬ (false = true) by decide)] at H; exact H
  clear H
  have H := H1
  clear H1
  simp only [Option.some.injEq, Prod.mk.injEq] at H
  obtain ⟨rfl, rfl⟩ := H
  go_enter Try.func13, Try.ntmps13
  go_wp2_with (first | ((with_reducible refine gD_ (N := 1) rfl ?_); refine bE_ ?hg (N := 1) ?hd (cs := #[.slice A0_0 l0_0.length c0_0]) (t := 30) ?hr ?_; (case hd => rfl); (case hg => rfl); (case hr => (go_simp; done)); intro gb501 hg w14 hbox hb; have BK501 := aM_ (hbox); have GW501 := aM_ ((by rw [hg]; exact (bZ_ HB.out) : w.heap.size ≤ gb501)); have GE501 := GW501; replace HB := aM_ (bT_ HB.out hb); clear hb hbox hg) | ((with_reducible refine gD_ (N := 2) rfl ?_); refine bE_ ?hg (N := 2) ?hd (cs := #[.slice none 0 0]) (t := 39) ?hr ?_; (case hd => rfl); (case hg => rfl); (case hr => (go_simp; done)); intro gb502 hg w15 hbox hb; have BK502 := aM_ (hbox); have GW502 := aM_ ((by rw [hg]; exact (bZ_ HB.out) : w.heap.size ≤ gb502)); have GE502 := GW502; replace HB := aM_ (bT_ HB.out hb); have NB501_502 := aM_ ((by rw [hg]; exact Nat.ne_of_lt (bL_ BK501.out) : gb501 ≠ gb502)); have NB502_501 := aM_ NB501_502.out.symm; replace BK501 := aM_ (bB_ BK501.out hb); clear hb hbox hg; have hnb16 := NB501_502.out; have hnc16 := NB502_501.out; have hcz17_0 : w15.cell? ⟨gb501, 0, none⟩ = some (.slice A0_0 l0_0.length c0_0) := (bC_ BK501.out 0).trans rfl; have hfz17_0 := bF_ BK501.out 0) | ((with_reducible refine gC_ (f := 26) rfl ?_); refine goesL_ (some 5) rfl rfl Try.func26 (by kernel_rfl) rfl #[.agg #[.slice A0_0 l0_0.length c0_0]] rfl (by (try simp only [sD_, sE_, sF_]); rfl) ?_; (with_reducible refine (spec_l2Trie.calls k _ _ l0_0 false _ ?side1 ?side2 A2.out).mono ?_); (case side1 => repeat (first | exact (k4_ HR0_0.out HB.out) | (with_reducible refine Kd.C_alloc ?_ _) | (with_reducible refine Kd.C_drewN ?_ _) | (with_reducible refine Kd.C_drew ?_))); (case side2 => exact HC0_0.out); rintro e w18 ⟨rfl, hb⟩; refine ⟨_, rfl, ?_⟩; replace BK501 := aM_ (bB_ BK501.out hb); replace BK502 := aM_ (bB_ BK502.out hb); replace HB := aM_ (bT_ HB.out hb); (try clear hb); have hcz19_0 : w18.cell? ⟨gb502, 0, none⟩ = some (.slice none 0 0) := (bC_ BK502.out 0).trans rfl; have hfz19_0 := bF_ BK502.out 0))
  refine bodyPost_ret (results_ct rfl _ _ gb502 39 #[.slice none 0 0] (0, 0) _ rfl (by refine bP_ (cs := #[.slice none 0 0]) ?_ 0 _ rfl; exact BK502.out) Try.underlying39 rfl (by kernel_rfl)) rfl ?_
  exact ⟨_, by rfl, by exact Kd.S_nil _ _ _ _ _, by repeat (first | (with_reducible first | exact HB.out | apply bA_ | apply bN_ | apply bD_ | refine bS_ ?_ GE501.out | refine bS_ ?_ GE502.out) | exact HB.out)⟩
def laws_FnExactMachineOf.f (k : Nat) (l0_0 : List S67) : Option Bool := (some true : Option Bool)
structure laws_FnExactMachineOf.All (k : Nat) (l : List S67) (tx tx2 : List S65) (r1 r1m : List S77) (r2 : Bool) (kx m : Int) : Prop where
 hto : laws_toTrie.f k l = some tx
 sp : spec_MachineOf.f k tx = some (r1, r2)
 im : impl_MachineOf.f k tx = some (r1, r2)
 eqm : laws_eqMachine.f k r1 r1 = some true
 eqt : laws_eqTrie.f k tx tx = some true
 mkt : laws_markTrie.f k tx 1 = some (kx, tx2)
 kpos : ¬ kx < 0
 mkm : laws_markMachine.f r1 1 = some (m, r1m)
 hem : laws_heldMachine.f k r1m 1 = some m
 mpos : ¬ m < 0
def laws_FnExactMachineOf.Pure : Prop := ∀ (l : List S67), l.length ≤ 9223372036854775807 → ∃ c, laws_szTrie.f l 1048576 = some c ∧ (c < 0 ∨ (¬ c < 0 ∧ ∃ k tx tx2 r1 r1m r2 kx m, laws_FnExactMachineOf.All k l tx tx2 r1 r1m r2 kx m))
structure laws_FnExactMachineOf.I4 (w W : World) (A0 : Option Addr) (n0 c0 b4 : Nat) (vW : Value) (lw : List S77) : Prop where
 h1 : W.heap[w.heap.size]? = some (.cells #[.slice A0 n0 c0] 24 (0, 0))
 h4 : W.heap[b4]? = some (.cells #[vW] 39 (0, 0))
 hW : Kd.S k77 77 W w.heap.size (fun k => k < b4) vW lw
 hB : Below w.heap.size w W
 lo : w.heap.size < b4
structure laws_FnExactMachineOf.I7 (w W : World) (A0 : Option Addr) (n0 c0 b4 b6 b7 : Nat) (okG : Nat → Prop) (vW vG : Value) (lw lg : List S77) : Prop where
 i4 : laws_FnExactMachineOf.I4 w W A0 n0 c0 b4 vW lw
 h7 : W.heap[b7]? = some (.cells #[vG] 39 (0, 0))
 hG : Kd.S k77 77 W w.heap.size okG vG lg
 lo : b4 < b6 ∧ b6 < b7
section
variable {w W W1 : World} {A0 : Option Addr} {n0 c0 b4 b6 b7 : Nat} {okG S : Nat → Prop} {vW vG : Value} {lw lg : List S77}
theorem laws_FnExactMachineOf.I4.below (h : laws_FnExactMachineOf.I4 w W A0 n0 c0 b4 vW lw) (hb : Below W.heap.size W W1) : laws_FnExactMachineOf.I4 w W1 A0 n0 c0 b4 vW lw :=
 ⟨bB_ h.h1 hb, bB_ h.h4 hb, Kd.S_below h.hW hb, bT_ h.hB hb, h.lo⟩
theorem laws_FnExactMachineOf.I4.kept (h : laws_FnExactMachineOf.I4 w W A0 n0 c0 b4 vW lw) (hk : Kept W W1 S) (hb : Below w.heap.size w W1) (hS : ∀ k, S k → b4 < k) : laws_FnExactMachineOf.I4 w W1 A0 n0 c0 b4 vW lw :=
 ⟨blk_kept h.h1 hk (fun z => by have := hS _ z; have := h.lo; omega), blk_kept h.h4 hk (fun z => by have := hS _ z; omega), Kd.S_kept h.hW hk (fun k hk z => by have := hS _ z; omega), hb, h.lo⟩
theorem laws_FnExactMachineOf.I7.below (h : laws_FnExactMachineOf.I7 w W A0 n0 c0 b4 b6 b7 okG vW vG lw lg) (hb : Below W.heap.size W W1) : laws_FnExactMachineOf.I7 w W1 A0 n0 c0 b4 b6 b7 okG vW vG lw lg :=
 ⟨h.i4.below hb, bB_ h.h7 hb, Kd.S_below h.hG hb, h.lo⟩
theorem laws_FnExactMachineOf.I7.kept (h : laws_FnExactMachineOf.I7 w W A0 n0 c0 b4 b6 b7 (fun k => b6 < k ∧ k < b7) vW vG lw lg) (hk : Kept W W1 S) (hb : Below w.heap.size w W1) (hS : ∀ k, S k → b4 < k ∧ k < b6) : laws_FnExactMachineOf.I7 w W1 A0 n0 c0 b4 b6 b7 (fun k => b6 < k ∧ k < b7) vW vG lw lg :=
 ⟨h.i4.kept hk hb (fun k z => (hS k z).1), blk_kept h.h7 hk (fun z => by have := hS _ z; have := h.lo; omega), Kd.S_kept h.hG hk (fun k hk z => by have := hS _ z; omega), h.lo⟩
end
theorem laws_FnExactMachineOf.C_below {w W : World} {A : Option Addr} {n : Nat} {l : List S67} (h : Kd.C k67 w A n l) (hb : Below w.heap.size w W) : Kd.C k67 W A n l := k4_ h hb
theorem laws_FnExactMachineOf.walk (P : laws_FnExactMachineOf.Pure) (w : World) (A0 : Option Addr) (c0 : Nat) (l0_0 : List S67) (hr0 : Kd.C k67 w A0 l0_0.length l0_0) (hc0 : l0_0.length ≤ c0) :
  Calls Try.prog 5 #[.agg #[.slice A0 l0_0.length c0]] w fun e w' => e = .returned (.bool true) ∧ Below w.heap.size w w' := by
 obtain ⟨c, hz, hP⟩ := P l0_0 hr0.2.1
 have hu24 := Try.underlying24
 have hu30 := Try.underlying30
 have hu39 := Try.underlying39
 have HZ := aM_ (fun (W : World) (hb : Below w.heap.size w W) => laws_szTrie.calls A0 c0 l0_0 1048576 c W (laws_FnExactMachineOf.C_below hr0 hb) hc0 hz)
 have HR := aM_ hr0
 have HC := aM_ hc0
 clear hr0 hc0 hz P
 have h1n : (w.alloc (.cells #[.slice A0 l0_0.length c0] 24 (0, 0))).heap[w.heap.size]? = some (.cells #[.slice A0 l0_0.length c0] 24 (0, 0)) := blk_new _ _
 have hbn : Below w.heap.size w (w.alloc (.cells #[.slice A0 l0_0.length c0] 24 (0, 0))) := (Below.refl w.heap.size w).alloc (Nat.le_refl _) _
 have H1 := aM_ (And.intro h1n hbn)
 clear h1n hbn
 rcases hP with hneg | ⟨hneg, k, tx, tx2, r1, r1m, r2, kx, m, hA⟩
 ·
  have c3 : decide (c < 0) = true := decide_eq_true hneg
  clear hneg
  go_enter Try.func5, Try.ntmps5
  go_wp2_with fail
  refine (HZ.out _ H1.out.2).mono ?_
  rintro e w1 ⟨rfl, hb⟩
  have HB := aM_ (bT_ H1.out.2 hb)
  clear hb
  go_wp2_with fail
  go_ret
  exact ⟨rfl, HB.out⟩
 ·
  have c3 : decide (c < 0) = false := decide_eq_false hneg
  have HA := aM_ hA
  clear hneg hA
  go_enter Try.func5, Try.ntmps5
  go_wp2_with fail
  refine (HZ.out _ H1.out.2).mono ?_
  rintro e w1 ⟨rfl, hb⟩
  have HB := aM_ (And.intro (bB_ H1.out.1 hb) (bT_ H1.out.2 hb))
  clear hb H1 HZ
  have h1c : w1.cell? ⟨w.heap.size, 0, none⟩ = some (.slice A0 l0_0.length c0) := (bC_ HB.out.1 0).trans rfl
  go_wp2_with fail
  refine (laws_toTrie.calls k _ _ l0_0 tx _ (laws_FnExactMachineOf.C_below HR.out HB.out.2) HC.out HA.out.hto).mono ?_
  rintro e w2 ⟨v0, rfl, ho, hb⟩
  have HB2 := aM_ (And.intro (bB_ HB.out.1 hb) (bT_ HB.out.2 hb))
  obtain ⟨A1, c1, e1⟩ := kS_ ho
  subst e1
  have HO := aM_ ho
  clear ho hb HB h1c
  go_wp2_with fail
  refine (spec_MachineOf.calls k _ _ tx r1 r2 _ (kR_ HO.out).2.2 (kR_ HO.out).2.1 HA.out.sp).mono ?_
  rintro e w3 ⟨vW, rfl, hs, hb⟩
  have HB3 := aM_ (And.intro (bB_ HB2.out.1 hb) (bT_ HB2.out.2 hb))
  obtain ⟨A2, c2, e2⟩ := Kd.S_slice hs
  subst e2
  have HS := aM_ (show Kd.S k77 77 w3 w.heap.size (fun k => k < w3.heap.size) (.slice A2 r1.length c2) r1 from Kd.S_mono (Kd.S_bound (Kd.S_lower hs (bZ_ HB2.out.2))) (fun k hk => hk.2.2.1))
  clear hs hb HB2 HO
  have h4 : laws_FnExactMachineOf.I4 w (w3.alloc (.cells #[.slice A2 r1.length c2] 39 (0, 0))) A0 l0_0.length c0 w3.heap.size (.slice A2 r1.length c2) r1 := ⟨b3_ HB3.out.1 _, blk_new _ _, Kd.S_alloc HS.out _, bA_ HB3.out.2 _, bL_ HB3.out.1⟩
  have H4 := aM_ h4
  have h1c : (w3.alloc (.cells #[.slice A2 r1.length c2] 39 (0, 0))).cell? ⟨w.heap.size, 0, none⟩ = some (.slice A0 l0_0.length c0) := (bC_ H4.out.h1 0).trans rfl
  clear h4 HS
  go_wp2_with fail
  refine (laws_toTrie.calls k _ _ l0_0 tx _ (laws_FnExactMachineOf.C_below HR.out H4.out.hB) HC.out HA.out.hto).mono ?_
  rintro e w4 ⟨vX, rfl, ho, hb⟩
  have h4 := H4.out.below hb
  have H5 := aM_ h4
  obtain ⟨A3, c3, e3⟩ := kS_ ho
  subst e3
  have HX := aM_ (show Kd.R k65 65 w4 w.heap.size (fun k => w3.heap.size < k ∧ k < w4.heap.size) (.slice A3 tx.length c3) tx from k5_ (kM_ (Kd.R_bound ho) (fun k hk => ⟨by have := hk.2.1; simp at this; omega, hk.2.2.1⟩)) (bZ_ H4.out.hB))
  clear ho hb h4 H4 h1c HB3
  have h6 : (w4.alloc (.cells #[.slice A3 tx.length c3] 30 (0, 0))).heap[w4.heap.size]? = some (.cells #[.slice A3 tx.length c3] 30 (0, 0)) := blk_new _ _
  have H6 := aM_ h6
  have h6c : (w4.alloc (.cells #[.slice A3 tx.length c3] 30 (0, 0))).cell? ⟨w4.heap.size, 0, none⟩ = some (.slice A3 tx.length c3) := (bC_ H6.out 0).trans rfl
  clear h6
  have HX6 := aM_ (k1_ HX.out (.cells #[.slice A3 tx.length c3] 30 (0, 0)))
  have H56 := aM_ (H5.out.below ((Below.refl w4.heap.size w4).alloc (Nat.le_refl _) (.cells #[.slice A3 tx.length c3] 30 (0, 0))))
  have HLT := aM_ (show w3.heap.size < w4.heap.size from bL_ H5.out.h4)
  clear HX H5
  go_wp2_with fail
  refine (impl_MachineOf.calls k _ _ tx r1 r2 _ (kR_ HX6.out).2.2 (kR_ HX6.out).2.1 HA.out.im).mono ?_
  rintro e w5 ⟨vG, rfl, hs, hb⟩
  obtain ⟨A4, c4, e4⟩ := Kd.S_slice hs
  subst e4
  have hbs := bZ_ hb
  have HL5 := aM_ (show w4.heap.size < w5.heap.size by simp at hbs; omega)
  have HG := aM_ (show Kd.S k77 77 w5 w.heap.size (fun k => w4.heap.size < k ∧ k < w5.heap.size) (.slice A4 r1.length c4) r1 from Kd.S_lower (Kd.S_mono (Kd.S_bound hs) (fun k hk => ⟨by have := hk.2.1; simp at this; omega, hk.2.2.1⟩)) (bZ_ H56.out.hB))
  have HX7 := aM_ (k1_ (kB_ HX6.out hb) (.cells #[.slice A4 r1.length c4] 39 (0, 0)))
  have H6b := aM_ (b3_ (bB_ H6.out hb) (.cells #[.slice A4 r1.length c4] 39 (0, 0)))
  have h7 : laws_FnExactMachineOf.I7 w (w5.alloc (.cells #[.slice A4 r1.length c4] 39 (0, 0))) A0 l0_0.length c0 w3.heap.size w4.heap.size w5.heap.size (fun k => w4.heap.size < k ∧ k < w5.heap.size) (.slice A2 r1.length c2) (.slice A4 r1.length c4) r1 r1 := ⟨(H56.out.below hb).below ((Below.refl w5.heap.size w5).alloc (Nat.le_refl _) _), blk_new _ _, Kd.S_alloc HG.out _, HLT.out, HL5.out⟩
  have H7 := aM_ h7
  clear h7 hs hb hbs HX6 H56 H6 HG h6c
  have h7c : (w5.alloc (.cells #[.slice A4 r1.length c4] 39 (0, 0))).cell? ⟨w5.heap.size, 0, none⟩ = some (.slice A4 r1.length c4) := (bC_ H7.out.h7 0).trans rfl
  have h4c : (w5.alloc (.cells #[.slice A4 r1.length c4] 39 (0, 0))).cell? ⟨w3.heap.size, 0, none⟩ = some (.slice A2 r1.length c2) := (bC_ H7.out.i4.h4 0).trans rfl
  have er2 : (r2 != r2) = false := by simp
  go_wp2_with fail
  refine (laws_eqMachine.calls k _ _ r1 _ _ r1 true _ (Kd.S_reads' H7.out.hG).2.2 (Kd.S_reads' H7.out.hG).2.1 (Kd.S_reads' H7.out.i4.hW).2.2 (Kd.S_reads' H7.out.i4.hW).2.1 HA.out.eqm).mono ?_
  rintro e w6 ⟨rfl, hb⟩
  have H8 := aM_ (H7.out.below hb)
  have HX8 := aM_ (kB_ HX7.out hb)
  have H6c := aM_ (bB_ H6b.out hb)
  clear hb H7 HX7 H6b h7c h4c
  go_wp2_with fail
  have H9 := aM_ (H8.out.below (bD_ (Below.refl w6.heap.size w6)))
  have HX9 := aM_ (k3_ HX8.out)
  have H6d := aM_ (b1_ H6c.out)
  clear H8 HX8 H6c
  refine start_ (n := 5) (S := fun w' => w'.cell? ⟨w4.heap.size, 0, none⟩ = some (.slice A3 tx.length c3) ∧ w'.cell? ⟨w.heap.size, 0, none⟩ = some (.slice A0 l0_0.length c0)) (ds := []) #[fy, fy, fy, fy, fy] (by kernel_rfl) rfl rfl ⟨(bC_ H6d.out 0).trans rfl, (bC_ H9.out.i4.h1 0).trans rfl⟩ (fun hHeld => ?_)
  generalize w6.drew = w7 at H9 HX9 H6d hHeld ⊢
  refine take_ (i := 0) (N := some 41) (v := ?_) (a' := ?_) #[ty, fy, fy, fy, fy] rfl rfl (by kernel_rfl) (fun _ _ _ h => h) (Or.inl ⟨by rfl, ?_⟩) hHeld ?_ ?_; rotate_left; (rintro w' ⟨s0, s1⟩; go_simp; with_reducible rfl); rotate_left; (simp only [Act.put, sA_, sB_, sC_, i6_, i3_]; rfl)
  refine take_ (i := 1) (N := some 42) (v := ?_) (a' := ?_) #[ty, ty, fy, fy, fy] rfl rfl (by kernel_rfl) (fun _ _ _ h => h) (Or.inl ⟨by rfl, ?_⟩) hHeld ?_ ?_; rotate_left; (rintro w' ⟨s0, s1⟩; go_simp; with_reducible rfl); rotate_left; (simp only [Act.put, sA_, sB_, sC_, i6_, i3_]; rfl)
  refine one_ (i := 2) (N := some 43) #[ty, ty, ty, fy, fy] rfl rfl (by kernel_rfl) (by decide) (fun K hK => ?_)
  refine goes_ Try.func8 (by kernel_rfl) rfl #[.agg #[.slice A0 l0_0.length c0]] (by rfl) rfl rfl (by (try simp only [sD_, sE_, sF_]); first | done | rfl) ?_
  refine (laws_toTrie.calls k _ _ l0_0 tx _ (laws_FnExactMachineOf.C_below HR.out H9.out.i4.hB) HC.out HA.out.hto).mono ?_
  rintro e w8 ⟨vY, rfl, ho, hb⟩
  refine ⟨_, rfl, ?_⟩
  obtain ⟨A5, c5, e5⟩ := kS_ ho
  subst e5
  have HY := aM_ ho
  have H10 := aM_ (H9.out.below hb)
  have HX10 := aM_ (kB_ HX9.out hb)
  have H6e := aM_ (bB_ H6d.out hb)
  clear ho hb H9 HX9 H6d hHeld
  refine hK.out _ _ ⟨(bC_ H6e.out 0).trans rfl, (bC_ H10.out.i4.h1 0).trans rfl⟩ (fun hHeld => ?_)
  clear hK K
  refine norm_ (a' := ?_) ?_ ?_; rotate_left; (show Act.put _ (some 43) _ = _; simp only [Act.put, sA_, sB_, sC_, i6_, i3_]; rfl)
  refine one_ (i := 3) (N := some 44) #[ty, ty, ty, ty, fy] rfl rfl (by kernel_rfl) (by decide) (fun K hK => ?_)
  refine goes_ Try.func10 (by kernel_rfl) rfl #[.agg #[.slice A3 tx.length c3], .agg #[.slice A5 tx.length c5]] (by rfl) rfl rfl (by (try simp only [sD_, sE_, sF_]); first | done | rfl) ?_
  refine (laws_eqTrie.calls k _ _ tx _ _ tx true _ (kR_ HX10.out).2.2 (kR_ HX10.out).2.1 (kR_ HY.out).2.2 (kR_ HY.out).2.1 HA.out.eqt).mono ?_
  rintro e w9 ⟨rfl, hb⟩
  refine ⟨_, rfl, ?_⟩
  have H11 := aM_ (H10.out.below hb)
  have HX11 := aM_ (kB_ HX10.out hb)
  have H6f := aM_ (bB_ H6e.out hb)
  clear hb H10 HX10 H6e hHeld HY
  refine hK.out _ _ ⟨(bC_ H6f.out 0).trans rfl, (bC_ H11.out.i4.h1 0).trans rfl⟩ (fun hHeld => ?_)
  clear hK K
  refine norm_ (a' := ?_) ?_ ?_; rotate_left; (show Act.put _ (some 44) _ = _; simp only [Act.put, sA_, sB_, sC_, i6_, i3_]; rfl)
  refine pure_ (i := 4) (N := some 45) (v := ?_) (a' := ?_) #[ty, ty, ty, ty, ty] rfl rfl (by kernel_rfl) (fun _ _ _ h => h) (Or.inl ⟨by rfl, ?_⟩) ?_ ?_; rotate_left; (intro w'; go_simp; with_reducible rfl); rotate_left; (simp only [Act.put, sA_, sB_, sC_, i6_, i3_]; rfl)
  refine done_ (by kernel_rfl) ?_
  clear hHeld
  have h6c : w9.cell? ⟨w4.heap.size, 0, none⟩ = some (.slice A3 tx.length c3) := (bC_ H6f.out 0).trans rfl
  go_wp2_with fail
  refine (laws_markTrie.calls k (fun k => w3.heap.size < k ∧ k < w4.heap.size) (.slice A3 tx.length c3) tx 1 kx tx2 w w9 H11.out.i4.hB HX11.out HA.out.mkt).mono ?_
  rintro e w10 ⟨rfl, _, hb, hk⟩
  have H12 := aM_ (H11.out.kept hk hb (fun k z => z))
  clear hb hk H11 HX11 H6f h6c
  have ck : decide (kx < 0) = false := decide_eq_false HA.out.kpos
  have h7c : w10.cell? ⟨w5.heap.size, 0, none⟩ = some (.slice A4 r1.length c4) := (bC_ H12.out.h7 0).trans rfl
  have h4c : w10.cell? ⟨w3.heap.size, 0, none⟩ = some (.slice A2 r1.length c2) := (bC_ H12.out.i4.h4 0).trans rfl
  go_wp2_with fail
  refine (laws_eqMachine.calls k _ _ r1 _ _ r1 true _ (Kd.S_reads' H12.out.hG).2.2 (Kd.S_reads' H12.out.hG).2.1 (Kd.S_reads' H12.out.i4.hW).2.2 (Kd.S_reads' H12.out.i4.hW).2.1 HA.out.eqm).mono ?_
  rintro e w11 ⟨rfl, hb⟩
  have H13 := aM_ (H12.out.below hb)
  clear hb H12 h7c h4c
  have h7c : w11.cell? ⟨w5.heap.size, 0, none⟩ = some (.slice A4 r1.length c4) := (bC_ H13.out.h7 0).trans rfl
  go_wp2_with fail
  refine (laws_markMachine.calls (fun k => w4.heap.size < k ∧ k < w5.heap.size) (.slice A4 r1.length c4) r1 1 m r1m w w11 H13.out.i4.hB H13.out.hG HA.out.mkm).mono ?_
  rintro e w12 ⟨rfl, hg, hb, hk⟩
  have hlen : r1m.length = r1.length := ((Kd.S_reads' hg).1).symm
  have h14 : laws_FnExactMachineOf.I7 w w12 A0 l0_0.length c0 w3.heap.size w4.heap.size w5.heap.size (fun k_ => ((w4.heap.size < k_ ∧ k_ < w5.heap.size) ∨ w11.heap.size ≤ k_)) (.slice A2 r1.length c2) (.slice A4 r1.length c4) r1 r1m := ⟨H13.out.i4.kept hk hb (fun k z => by have := H13.out.lo; omega), blk_kept H13.out.h7 hk (fun z => by omega), hg, H13.out.lo⟩
  have H14 := aM_ h14
  have HLN := aM_ hlen
  clear h14 hg hb hk hlen H13 h7c
  have h7c : w12.cell? ⟨w5.heap.size, 0, none⟩ = some (.slice A4 r1.length c4) := (bC_ H14.out.h7 0).trans rfl
  go_wp2_with fail
  have hh := fun (W : World) (hC : Kd.C k77 W A4 r1m.length r1m) (hc : r1m.length ≤ c4) => laws_heldMachine.calls k A4 c4 r1m 1 m W hC hc HA.out.hem
  rw [HLN.out] at hh
  have HH := aM_ hh
  clear hh
  refine (HH.out w12 (by rw [← HLN.out]; exact (Kd.S_reads' H14.out.hG).2.2) (Kd.S_reads' H14.out.hG).2.1).mono ?_
  rintro e w13 ⟨rfl, hb⟩
  have H15 := aM_ (H14.out.below hb)
  clear hb H14 h7c
  have cm : decide (m < 0) = false := decide_eq_false HA.out.mpos
  have cmm : (m != m) = false := by simp
  have h1c : w13.cell? ⟨w.heap.size, 0, none⟩ = some (.slice A0 l0_0.length c0) := (bC_ H15.out.i4.h1 0).trans rfl
  go_wp2_with fail
  refine (laws_toTrie.calls k _ _ l0_0 tx _ (laws_FnExactMachineOf.C_below HR.out H15.out.i4.hB) HC.out HA.out.hto).mono ?_
  rintro e w14 ⟨v6, rfl, ho, hb⟩
  obtain ⟨A6, c6, e6⟩ := kS_ ho
  subst e6
  have HO6 := aM_ ho
  have H16 := aM_ (H15.out.below hb)
  clear ho hb H15 h1c
  go_wp2_with fail
  refine (impl_MachineOf.calls k _ _ tx r1 r2 _ (kR_ HO6.out).2.2 (kR_ HO6.out).2.1 HA.out.im).mono ?_
  rintro e w15 ⟨v7, rfl, hs, hb⟩
  obtain ⟨A7, c7, e7⟩ := Kd.S_slice hs
  subst e7
  have HS7 := aM_ (Kd.S_alloc hs (.cells #[.slice A7 r1.length c7] 39 (0, 0)))
  have H17 := aM_ ((H16.out.below hb).below ((Below.refl w15.heap.size w15).alloc (Nat.le_refl _) (.cells #[.slice A7 r1.length c7] 39 (0, 0))))
  have hn : (w15.alloc (.cells #[.slice A7 r1.length c7] 39 (0, 0))).heap[w15.heap.size]? = some (.cells #[.slice A7 r1.length c7] 39 (0, 0)) := blk_new _ _
  have h12c : (w15.alloc (.cells #[.slice A7 r1.length c7] 39 (0, 0))).cell? ⟨w15.heap.size, 0, none⟩ = some (.slice A7 r1.length c7) := (bC_ hn 0).trans rfl
  have h4c : (w15.alloc (.cells #[.slice A7 r1.length c7] 39 (0, 0))).cell? ⟨w3.heap.size, 0, none⟩ = some (.slice A2 r1.length c2) := (bC_ H17.out.i4.h4 0).trans rfl
  clear hs hb hn H16 HO6
  go_wp2_with fail
  refine (laws_eqMachine.calls k _ _ r1 _ _ r1 true _ (Kd.S_reads' HS7.out).2.2 (Kd.S_reads' HS7.out).2.1 (Kd.S_reads' H17.out.i4.hW).2.2 (Kd.S_reads' H17.out.i4.hW).2.1 HA.out.eqm).mono ?_
  rintro e w16 ⟨rfl, hb⟩
  have H18 := aM_ (H17.out.below hb)
  clear hb H17 HS7 h12c h4c
  have h7c : w16.cell? ⟨w5.heap.size, 0, none⟩ = some (.slice A4 r1.length c4) := (bC_ H18.out.h7 0).trans rfl
  go_wp2_with fail
  refine (HH.out w16 (by rw [← HLN.out]; exact (Kd.S_reads' H18.out.hG).2.2) (Kd.S_reads' H18.out.hG).2.1).mono ?_
  rintro e w17 ⟨rfl, hb⟩
  have H19 := aM_ (H18.out.below hb)
  clear hb H18 h7c
  go_wp2_with fail
  go_ret
  exact ⟨rfl, H19.out.i4.hB⟩
end Go.Proofs.Ytnnkedeohfbkeaa.P
namespace Go.Proofs.Ytnnkedeohfbkeaa.M
theorem txt_lt_snoc : ∀ (p : Txt) (x : UInt8), p < p ++ [x]
 | [], x => List.nil_lt_cons x []
 | a :: p, x => List.cons_lt_cons_iff.2 (.inr ⟨rfl, txt_lt_snoc p x⟩)
theorem dropLast_getD (p : Txt) (h : p ≠ []) : p.dropLast ++ [p.getD (p.length - 1) 0] = p := by
 have h0 := List.length_pos_iff.2 h
 have h1 : p.length - 1 < p.length := by omega
 rw [List.dropLast_eq_take, getD_lt 0 h1, ← List.take_succ_eq_append_getElem h1, List.take_of_length_le (by omega)]
theorem txt_dropLast_lt (p : Txt) (h : p ≠ []) : p.dropLast < p := by
 have := txt_lt_snoc p.dropLast (p.getD (p.length - 1) 0)
 rwa [dropLast_getD p h] at this
def Clo (P : List Txt) : Prop := [] ∈ P ∧ ∀ p ∈ P, p ≠ [] → p.dropLast ∈ P
def begs (w : Txt) : List Txt := (List.range w.length).map fun n => w.take (n + 1)
def preL (ws : List Txt) : List Txt := setL ([] :: ws.flatMap begs)
theorem mem_begs {w p : Txt} : p ∈ begs w ↔ p ≠ [] ∧ p <+: w := by
 constructor
 ·
  intro h
  obtain ⟨n, hn, rfl⟩ := List.mem_map.1 h
  rw [List.mem_range] at hn
  exact ⟨fun e => by have := congrArg List.length e; rw [List.length_take, List.length_nil] at this; omega, List.take_prefix _ _⟩
 ·
  rintro ⟨h1, h2⟩
  have h3 := h2.length_le
  have h4 := List.length_pos_iff.2 h1
  refine List.mem_map.2 ⟨p.length - 1, List.mem_range.2 (by omega), ?_⟩
  rw [show p.length - 1 + 1 = p.length from by omega]
  exact (List.prefix_iff_eq_take.1 h2).symm
theorem mem_preL {ws : List Txt} {p : Txt} : p ∈ preL ws ↔ p = [] ∨ ∃ w ∈ ws, p ≠ [] ∧ p <+: w := by
 unfold preL
 rw [mem_setL, List.mem_cons, List.mem_flatMap]
 simp only [mem_begs]
theorem clo_preL (ws : List Txt) : Clo (preL ws) := by
 refine ⟨mem_preL.2 (.inl rfl), fun p hp hne => ?_⟩
 rcases mem_preL.1 hp with rfl | ⟨w, hw, _, h⟩
 ·
  exact absurd rfl hne
 ·
  by_cases h0 : p.dropLast = []
  ·
   rw [h0]; exact mem_preL.2 (.inl rfl)
  ·
   exact mem_preL.2 (.inr ⟨w, hw, h0, (List.dropLast_prefix p).trans h⟩)
theorem asc_preL (ws : List Txt) : Asc (preL ws) := asc_setL _
theorem self_preL {ws : List Txt} {w : Txt} (h : w ∈ ws) : w ∈ preL ws := by
 by_cases h0 : w = []
 ·
  rw [h0]; exact mem_preL.2 (.inl rfl)
 ·
  exact mem_preL.2 (.inr ⟨w, h, h0, List.prefix_refl _⟩)
theorem preL_congr {ws vs : List Txt} (h : ∀ w, w ∈ ws ↔ w ∈ vs) : preL ws = preL vs :=
 asc_ext _ _ (asc_preL _) (asc_preL _) fun y => by rw [mem_preL, mem_preL]; simp only [h]
theorem foldl_putL_len : ∀ (l acc : List Txt), (l.foldl putL acc).length ≤ acc.length + l.length
 | [], _ => Nat.le_refl _
 | x :: l, acc => by
  have h1 := foldl_putL_len l (putL acc x)
  have h2 := putL_length_le acc x
  rw [List.foldl_cons, List.length_cons]; omega
theorem setL_length_le (l : List Txt) : (setL l).length ≤ l.length := by have := foldl_putL_len l []; simpa [setL] using this
theorem begs_length (w : Txt) : (begs w).length = w.length := by simp [begs]
theorem flatMap_begs_length : ∀ (ws : List Txt), (∀ w ∈ ws, w.length ≤ 12) → (ws.flatMap begs).length ≤ 12 * ws.length
 | [], _ => by simp
 | w :: ws, h => by
  have h1 := flatMap_begs_length ws fun x hx => h x (List.mem_cons_of_mem _ hx)
  have h2 := h w (by simp)
  rw [List.flatMap_cons, List.length_append, begs_length, List.length_cons]; omega
theorem preL_length {ws : List Txt} (h : ∀ w ∈ ws, w.length ≤ 12) : (preL ws).length ≤ 12 * ws.length + 1 := by
 have h1 := flatMap_begs_length ws h
 have h2 := setL_length_le ([] :: ws.flatMap begs)
 unfold preL
 rw [List.length_cons] at h2
 omega
def placeL : List Txt → Txt → Nat
 | [], _ => 0
 | x :: r, p => if x = p then 0 else placeL r p + 1
theorem placeL_le : ∀ (P : List Txt) (p : Txt), placeL P p ≤ P.length
 | [], _ => Nat.le_refl _
 | x :: r, p => by
  have := placeL_le r p
  by_cases h : x = p
  ·
   simp [placeL, h]
  ·
   simp only [placeL, if_neg h, List.length_cons]; omega
theorem placeL_mem : ∀ {P : List Txt} {p : Txt}, p ∈ P → placeL P p < P.length ∧ P.getD (placeL P p) [] = p
 | [], _, h => by simp at h
 | x :: r, p, h => by
  by_cases h0 : x = p
  ·
   simp [placeL, h0]
  ·
   have h1 : p ∈ r := by
    rcases List.mem_cons.1 h with e | e
    ·
     exact absurd e.symm h0
    ·
     exact e
   obtain ⟨h2, h3⟩ := placeL_mem h1
   simp only [placeL, if_neg h0, List.length_cons]
   exact ⟨by omega, by simpa using h3⟩
theorem getD_mem {P : List Txt} {i : Nat} (h : i < P.length) : P.getD i [] ∈ P := by rw [getD_lt [] h]; exact List.getElem_mem h
theorem asc_get {P : List Txt} (hA : Asc P) {i j : Nat} (hj : j < P.length) (hij : i < j) : P.getD i [] < P.getD j [] := by
 have := List.pairwise_iff_getElem.1 hA i j (by omega) hj hij
 rwa [getD_lt [] hj, getD_lt [] (show i < P.length by omega)]
theorem asc_get_lt {P : List Txt} (hA : Asc P) {i j : Nat} (hi : i < P.length) (hj : j < P.length) (h : P.getD i [] < P.getD j []) : i < j := by
 rcases Nat.lt_trichotomy i j with h1 | h1 | h1
 ·
  exact h1
 ·
  subst h1; exact absurd h (txt_irrefl _)
 ·
  exact absurd (asc_get hA hi h1) (txt_asymm h)
theorem asc_inj {P : List Txt} (hA : Asc P) {i j : Nat} (hi : i < P.length) (hj : j < P.length) (h : P.getD i [] = P.getD j []) : i = j := by
 rcases Nat.lt_trichotomy i j with h1 | h1 | h1
 ·
  exact absurd (h ▸ asc_get hA hj h1) (txt_irrefl _)
 ·
  exact h1
 ·
  exact absurd (h ▸ asc_get hA hi h1) (txt_irrefl _)
theorem placeL_get {P : List Txt} (hA : Asc P) {i : Nat} (hi : i < P.length) : placeL P (P.getD i []) = i := by
 obtain ⟨h1, h2⟩ := placeL_mem (getD_mem hi)
 exact asc_inj hA h1 hi h2
theorem clo_zero {P : List Txt} (hA : Asc P) (hC : Clo P) : 0 < P.length ∧ P.getD 0 [] = [] := by
 obtain ⟨h1, h2⟩ := placeL_mem hC.1
 refine ⟨by omega, ?_⟩
 rcases Nat.eq_zero_or_pos (placeL P []) with h0 | h0
 ·
  rwa [h0] at h2
 ·
  have := asc_get hA h1 h0
  rw [h2] at this
  exact absurd this (List.not_lt_nil _)
theorem clo_pos {P : List Txt} (hA : Asc P) (hC : Clo P) {i : Nat} (hi : i < P.length) (h0 : 0 < i) : P.getD i [] ≠ [] := fun e => by
 obtain ⟨h1, h2⟩ := clo_zero hA hC
 have := asc_inj hA hi h1 (e.trans h2.symm)
 omega
theorem clo_parent {P : List Txt} (hA : Asc P) (hC : Clo P) {i : Nat} (hi : i < P.length) (h0 : 0 < i) :
  placeL P (P.getD i []).dropLast < i ∧ P.getD (placeL P (P.getD i []).dropLast) [] = (P.getD i []).dropLast := by
 have hne := clo_pos hA hC hi h0
 obtain ⟨h1, h2⟩ := placeL_mem (hC.2 _ (getD_mem hi) hne)
 exact ⟨asc_get_lt hA h1 hi (by rw [h2]; exact txt_dropLast_lt _ hne), h2⟩
def ltrOf (p : Txt) : Int := (((p.getD (p.length - 1) 0).toNat : Int) - 97) % 256
def ndL (P ws : List Txt) (p : Txt) : Int × Int × Bool := (if p = [] then -1 else ltrOf p, if p = [] then -1 else (placeL P p.dropLast : Int), decide (p ∈ ws))
def nodesL (P ws : List Txt) : List (Int × Int × Bool) := P.map (ndL P ws)
def wordL (w : Txt) : Bool := w.all letterB && decide (w.length ≤ 12)
structure OkW (ws : List Txt) : Prop where
 asc : Asc ws
 len : ws.length ≤ 40
 word : ∀ w ∈ ws, wordL w = true
theorem wordL_iff {w : Txt} : wordL w = true ↔ (∀ c ∈ w, letterB c = true) ∧ w.length ≤ 12 := by
 unfold wordL
 rw [Bool.and_eq_true, List.all_eq_true, decide_eq_true_eq]
theorem OkW.le {ws : List Txt} (h : OkW ws) : ∀ w ∈ ws, w.length ≤ 12 := fun w hw => (wordL_iff.1 (h.word w hw)).2
theorem OkW.pre {ws : List Txt} (h : OkW ws) : (preL ws).length ≤ 481 := by
 have h1 := preL_length h.le
 have h2 := h.len
 omega
theorem wordL_pre {p w : Txt} (h : p <+: w) (hw : wordL w = true) : wordL p = true := by
 obtain ⟨h1, h2⟩ := wordL_iff.1 hw
 exact wordL_iff.2 ⟨fun c hc => h1 c (h.subset hc), Nat.le_trans h.length_le h2⟩
theorem preL_word {ws : List Txt} (h : ∀ w ∈ ws, wordL w = true) {p : Txt} (hp : p ∈ preL ws) : wordL p = true := by
 rcases mem_preL.1 hp with rfl | ⟨w, hw, _, h1⟩
 ·
  rfl
 ·
  exact wordL_pre h1 (h w hw)
theorem letter_bd {c : UInt8} (h : letterB c = true) : 97 ≤ c.toNat ∧ c.toNat ≤ 122 := by simpa [letterB] using h
theorem getLast_mem {p : Txt} (h : p ≠ []) : p.getD (p.length - 1) 0 ∈ p := by
 have := List.length_pos_iff.2 h
 rw [getD_lt 0 (show p.length - 1 < p.length by omega)]
 exact List.getElem_mem _
theorem ltrOf_bd {p : Txt} (hw : wordL p = true) (h : p ≠ []) : ltrOf p = ((p.getD (p.length - 1) 0).toNat : Int) - 97 ∧ 0 ≤ ltrOf p ∧ ltrOf p ≤ 25 := by
 have h1 := letter_bd ((wordL_iff.1 hw).1 _ (getLast_mem h))
 unfold ltrOf
 omega
theorem filter_preL {ws : List Txt} (h : Asc ws) : (preL ws).filter (fun p => decide (p ∈ ws)) = ws := by
 refine asc_ext _ _ ((asc_preL ws).filter _) h fun y => ?_
 rw [List.mem_filter, decide_eq_true_eq]
 exact ⟨fun h => h.2, fun h => ⟨self_preL h, h⟩⟩
def kidsL (P : List Txt) (p : Txt) : List Txt := P.filter fun q => decide (q ≠ [] ∧ q.dropLast = p)
def stayL (P ws : List Txt) (p : Txt) : Bool := decide (p = []) || decide (p ∈ ws) || decide ((kidsL P p).length ≠ 1)
def stayQ (P ws : List Txt) : List Txt := P.filter (stayL P ws)
def upF (P ws : List Txt) : Nat → Txt → Txt
 | 0, _ => []
 | n + 1, p => if stayL P ws p.dropLast = true then p.dropLast else upF P ws n p.dropLast
def upL (P ws : List Txt) (p : Txt) : Txt := upF P ws p.length p
theorem stay_nil (P ws : List Txt) : stayL P ws [] = true := by unfold stayL; simp
theorem upF_spec {P : List Txt} (ws : List Txt) (hC : Clo P) : ∀ (n : Nat) (p : Txt), p.length = n → p ∈ P → p ≠ [] → upF P ws n p <+: p ∧ (upF P ws n p).length < p.length ∧ upF P ws n p ∈ P ∧ stayL P ws (upF P ws n p) = true
 | 0, p, h, _, hne => absurd (List.eq_nil_of_length_eq_zero h) hne
 | n + 1, p, h, hp, hne => by
  have hd := hC.2 p hp hne
  have hl : p.dropLast.length = n := by rw [List.length_dropLast]; omega
  rw [upF]
  by_cases hs : stayL P ws p.dropLast = true
  ·
   rw [if_pos hs]
   exact ⟨List.dropLast_prefix p, by omega, hd, hs⟩
  ·
   rw [if_neg hs]
   have hne2 : p.dropLast ≠ [] := fun e => hs (by rw [e]; exact stay_nil P ws)
   obtain ⟨h1, h2, h3, h4⟩ := upF_spec ws hC n p.dropLast hl hd hne2
   exact ⟨h1.trans (List.dropLast_prefix p), by omega, h3, h4⟩
theorem upL_spec {P : List Txt} (ws : List Txt) (hC : Clo P) {p : Txt} (hp : p ∈ P) (hne : p ≠ []) : upL P ws p <+: p ∧ (upL P ws p).length < p.length ∧ upL P ws p ∈ P ∧ stayL P ws (upL P ws p) = true := upF_spec ws hC _ p rfl hp hne
theorem prefix_lt {p q : Txt} (h : p <+: q) (hl : p.length < q.length) : p < q := by
 obtain ⟨r, rfl⟩ := h
 cases r with
 | nil => rw [List.append_nil] at hl; omega
 | cons x r =>
  induction p with
  | nil => exact List.nil_lt_cons x r
  | cons a p ih => exact List.cons_lt_cons_iff.2 (.inr ⟨rfl, ih (by simp)⟩)
theorem asc_stayQ {P : List Txt} (ws : List Txt) (hA : Asc P) : Asc (stayQ P ws) := hA.filter _
theorem mem_stayQ {P ws : List Txt} {p : Txt} : p ∈ stayQ P ws ↔ p ∈ P ∧ stayL P ws p = true := List.mem_filter
theorem nil_stayQ {P : List Txt} (ws : List Txt) (hC : Clo P) : [] ∈ stayQ P ws := mem_stayQ.2 ⟨hC.1, stay_nil P ws⟩
theorem up_stayQ {P : List Txt} (ws : List Txt) (hC : Clo P) {p : Txt} (hp : p ∈ stayQ P ws) (hne : p ≠ []) : upL P ws p ∈ stayQ P ws := by
 obtain ⟨_, _, h3, h4⟩ := upL_spec ws hC (mem_stayQ.1 hp).1 hne
 exact mem_stayQ.2 ⟨h3, h4⟩
theorem stayQ_zero {P : List Txt} (ws : List Txt) (hA : Asc P) (hC : Clo P) : 0 < (stayQ P ws).length ∧ (stayQ P ws).getD 0 [] = [] := by
 obtain ⟨h1, h2⟩ := placeL_mem (nil_stayQ ws hC)
 refine ⟨by omega, ?_⟩
 rcases Nat.eq_zero_or_pos (placeL (stayQ P ws) []) with h0 | h0
 ·
  rwa [h0] at h2
 ·
  have := asc_get (asc_stayQ ws hA) h1 h0
  rw [h2] at this
  exact absurd this (List.not_lt_nil _)
theorem stayQ_pos {P : List Txt} (ws : List Txt) (hA : Asc P) (hC : Clo P) {i : Nat} (hi : i < (stayQ P ws).length) (h0 : 0 < i) : (stayQ P ws).getD i [] ≠ [] := fun e => by
 obtain ⟨h1, h2⟩ := stayQ_zero ws hA hC
 have := asc_inj (asc_stayQ ws hA) hi h1 (e.trans h2.symm)
 omega
theorem stayQ_parent {P : List Txt} (ws : List Txt) (hA : Asc P) (hC : Clo P) {i : Nat} (hi : i < (stayQ P ws).length) (h0 : 0 < i) :
  placeL (stayQ P ws) (upL P ws ((stayQ P ws).getD i [])) < i ∧ (stayQ P ws).getD (placeL (stayQ P ws) (upL P ws ((stayQ P ws).getD i []))) [] = upL P ws ((stayQ P ws).getD i []) := by
 have hne := stayQ_pos ws hA hC hi h0
 have hm := getD_mem hi
 obtain ⟨h1, h2⟩ := placeL_mem (up_stayQ ws hC hm hne)
 obtain ⟨u1, u2, _, _⟩ := upL_spec ws hC (mem_stayQ.1 hm).1 hne
 exact ⟨asc_get_lt (asc_stayQ ws hA) h1 hi (by rw [h2]; exact prefix_lt u1 u2), h2⟩
def brL (P ws : List Txt) (p : Txt) : Txt × Int × Bool := (if p = [] then [] else p.drop (upL P ws p).length, if p = [] then -1 else (placeL (stayQ P ws) (upL P ws p) : Int), decide (p ∈ ws))
def brsL (P ws : List Txt) : List (Txt × Int × Bool) := (stayQ P ws).map (brL P ws)
theorem up_append {P : List Txt} (ws : List Txt) (hC : Clo P) {p : Txt} (hp : p ∈ P) (hne : p ≠ []) : upL P ws p ++ p.drop (upL P ws p).length = p := by
 obtain ⟨⟨r, hr⟩, _⟩ := upL_spec ws hC hp hne
 have : p.drop (upL P ws p).length = r := by
  have := congrArg (List.drop (upL P ws p).length) hr
  rw [List.drop_left] at this
  exact this.symm
 rw [this, hr]
theorem drop_ne {P : List Txt} (ws : List Txt) (hC : Clo P) {p : Txt} (hp : p ∈ P) (hne : p ≠ []) : p.drop (upL P ws p).length ≠ [] := fun e => by
 obtain ⟨_, h2, _⟩ := upL_spec ws hC hp hne
 have := congrArg List.length e
 rw [List.length_drop, List.length_nil] at this
 omega
theorem filter_stayQ {ws : List Txt} (h : Asc ws) : (stayQ (preL ws) ws).filter (fun p => decide (p ∈ ws)) = ws := by
 refine asc_ext _ _ ((asc_stayQ ws (asc_preL ws)).filter _) h fun y => ?_
 rw [List.mem_filter, decide_eq_true_eq]
 refine ⟨fun h => h.2, fun h => ⟨mem_stayQ.2 ⟨self_preL h, ?_⟩, h⟩⟩
 unfold stayL
 rw [decide_eq_true h, Bool.or_true, Bool.true_or]
def hasPre (s p : List UInt8) : Bool := s.take p.length == p
theorem hasPre_pre {s p : Txt} : hasPre s p = true ↔ p <+: s := by
 unfold hasPre
 rw [beq_iff_eq]
 exact ⟨fun h => h ▸ List.take_prefix _ _, fun h => (List.prefix_iff_eq_take.1 h).symm⟩
def behL (ws : List Txt) (p : Txt) : List Txt := (ws.filter fun w => hasPre w p).map fun w => w.drop p.length
def succL (b : List Txt) (c : UInt8) : List Txt := (b.filter fun w => hasPre w [c]).map fun w => w.drop 1
theorem mem_behL {ws : List Txt} {p x : Txt} : x ∈ behL ws p ↔ p ++ x ∈ ws := by
 unfold behL
 rw [List.mem_map]
 constructor
 ·
  rintro ⟨w, hw, rfl⟩
  obtain ⟨h1, h2⟩ := List.mem_filter.1 hw
  obtain ⟨r, rfl⟩ := hasPre_pre.1 h2
  rw [List.drop_left]
  exact h1
 ·
  intro h
  exact ⟨p ++ x, List.mem_filter.2 ⟨h, hasPre_pre.2 (List.prefix_append _ _)⟩, List.drop_left⟩
theorem mem_succL {b : List Txt} {c : UInt8} {x : Txt} : x ∈ succL b c ↔ c :: x ∈ b := mem_behL (p := [c])
theorem append_ltL : ∀ (p : Txt) {x y : Txt}, p ++ x < p ++ y → x < y
 | [], _, _, h => h
 | a :: p, x, y, h => by
  rcases List.cons_lt_cons_iff.1 h with h | ⟨_, h⟩
  ·
   exact absurd h (UInt8.lt_irrefl _)
  ·
   exact append_ltL p h
theorem lt_appendL : ∀ (p : Txt) {x y : Txt}, x < y → p ++ x < p ++ y
 | [], _, _, h => h
 | _ :: p, _, _, h => List.cons_lt_cons_iff.2 (.inr ⟨rfl, lt_appendL p h⟩)
theorem asc_behL {ws : List Txt} (h : Asc ws) (p : Txt) : Asc (behL ws p) := by
 unfold behL Asc
 rw [List.pairwise_map]
 refine List.Pairwise.imp_of_mem ?_ (List.Pairwise.filter _ h)
 intro a b ha hb hab
 obtain ⟨r, rfl⟩ := hasPre_pre.1 (List.mem_filter.1 ha).2
 obtain ⟨q, rfl⟩ := hasPre_pre.1 (List.mem_filter.1 hb).2
 rw [List.drop_left, List.drop_left]
 exact append_ltL p hab
theorem asc_succL {b : List Txt} (h : Asc b) (c : UInt8) : Asc (succL b c) := asc_behL h [c]
theorem behL_nil (ws : List Txt) (h : Asc ws) : behL ws [] = ws := asc_ext _ _ (asc_behL h _) h fun y => by rw [mem_behL]; rfl
theorem behL_snoc {ws : List Txt} (h : Asc ws) (p : Txt) (c : UInt8) : behL ws (p ++ [c]) = succL (behL ws p) c :=
 asc_ext _ _ (asc_behL h _) (asc_succL (asc_behL h _) _) fun y => by rw [mem_behL, mem_succL, mem_behL, List.append_assoc]; rfl
def letsL (b : List Txt) : List UInt8 := ((List.range 26).map fun n => UInt8.ofNat (97 + n)).filter fun c => b.any fun w => hasPre w [c]
structure Res (n : Nat) (b : List Txt) : Prop where
 asc : Asc b
 let_ : ∀ w ∈ b, ∀ c ∈ w, letterB c = true
 len : ∀ w ∈ b, w.length ≤ n
theorem mem_letsL {n : Nat} {b : List Txt} (h : Res n b) {c : UInt8} : c ∈ letsL b ↔ ∃ x, c :: x ∈ b := by
 unfold letsL
 rw [List.mem_filter, List.any_eq_true]
 constructor
 ·
  rintro ⟨_, w, hw, hp⟩
  obtain ⟨r, rfl⟩ := hasPre_pre.1 hp
  exact ⟨r, hw⟩
 ·
  rintro ⟨x, hx⟩
  refine ⟨?_, _, hx, hasPre_pre.2 ⟨x, rfl⟩⟩
  have h1 := letter_bd (h.let_ _ hx c List.mem_cons_self)
  refine List.mem_map.2 ⟨c.toNat - 97, List.mem_range.2 (by omega), ?_⟩
  rw [show 97 + (c.toNat - 97) = c.toNat from by omega]
  simp
theorem letsL_ne {n : Nat} {b : List Txt} (h : Res n b) {c : UInt8} : c ∈ letsL b ↔ succL b c ≠ [] := by
 rw [mem_letsL h]
 constructor
 ·
  rintro ⟨x, hx⟩ e
  have := mem_succL.2 hx
  rw [e] at this
  cases this
 ·
  intro hne
  obtain ⟨x, hx⟩ := List.exists_mem_of_ne_nil _ hne
  exact ⟨x, mem_succL.1 hx⟩
theorem letsL_let {b : List Txt} {c : UInt8} (h : c ∈ letsL b) : 97 ≤ c.toNat ∧ c.toNat ≤ 122 := by
 obtain ⟨n, hn, rfl⟩ := List.mem_map.1 (List.mem_filter.1 h).1
 rw [List.mem_range] at hn
 simp
 omega
theorem letsL_asc (b : List Txt) : (letsL b).Pairwise (· < ·) := by
 unfold letsL
 refine List.Pairwise.filter _ ?_
 rw [List.pairwise_map]
 refine List.Pairwise.imp_of_mem ?_ (List.pairwise_lt_range (n := 26))
 intro a b ha hb hab
 rw [List.mem_range] at ha hb
 rw [UInt8.lt_iff_toNat_lt]
 simp
 omega
theorem letsL_length (b : List Txt) : (letsL b).length ≤ 26 := by
 unfold letsL
 refine Nat.le_trans (List.length_filter_le _ _) ?_
 simp
theorem Res.succ {n : Nat} {b : List Txt} (h : Res (n + 1) b) (c : UInt8) : Res n (succL b c) := by
 refine ⟨asc_succL h.asc c, fun w hw x hx => h.let_ _ (mem_succL.1 hw) x (List.mem_cons_of_mem _ hx), fun w hw => ?_⟩
 have := h.len _ (mem_succL.1 hw)
 rw [List.length_cons] at this
 omega
theorem Res.mono {n m : Nat} {b : List Txt} (h : Res n b) (hm : n ≤ m) : Res m b := ⟨h.asc, h.let_, fun w hw => Nat.le_trans (h.len w hw) hm⟩
theorem Res.zero_lets {b : List Txt} (h : Res 0 b) : letsL b = [] := by
 rw [List.eq_nil_iff_forall_not_mem]
 intro c hc
 obtain ⟨x, hx⟩ := (mem_letsL h).1 hc
 have := h.len _ hx
 simp at this
theorem Res.beh {ws : List Txt} (h : OkW ws) (p : Txt) : Res (12 - p.length) (behL ws p) := by
 refine ⟨asc_behL h.asc p, fun w hw c hc => ?_, fun w hw => ?_⟩
 ·
  exact (wordL_iff.1 (h.word _ (mem_behL.1 hw))).1 c (List.mem_append_right _ hc)
 ·
  have := h.le _ (mem_behL.1 hw)
  rw [List.length_append] at this
  omega
theorem Res.beh12 {ws : List Txt} (h : OkW ws) (p : Txt) : Res 12 (behL ws p) := (Res.beh h p).mono (by omega)
theorem decL {n : Nat} {b : List Txt} (h : Res n b) : b = (if [] ∈ b then [[]] else []) ++ (letsL b).flatMap fun c => (succL b c).map (c :: ·) := by
 refine asc_ext _ _ h.asc ?_ fun y => ?_
 ·
  unfold Asc
  rw [List.pairwise_append]
  refine ⟨by split <;> simp, ?_, ?_⟩
  ·
   rw [List.pairwise_flatMap]
   refine ⟨fun c _ => ?_, List.Pairwise.imp ?_ (letsL_asc b)⟩
   ·
    rw [List.pairwise_map]
    exact List.Pairwise.imp (fun hab => List.cons_lt_cons_iff.2 (.inr ⟨rfl, hab⟩)) (asc_succL h.asc c)
   ·
    intro c d hcd x hx y hy
    obtain ⟨x', _, rfl⟩ := List.mem_map.1 hx
    obtain ⟨y', _, rfl⟩ := List.mem_map.1 hy
    exact List.cons_lt_cons_iff.2 (.inl hcd)
  ·
   intro a ha x hx
   obtain rfl : a = [] := by
    split at ha
    ·
     exact List.mem_singleton.1 ha
    ·
     cases ha
   obtain ⟨c, _, hx⟩ := List.mem_flatMap.1 hx
   obtain ⟨x', _, rfl⟩ := List.mem_map.1 hx
   exact List.nil_lt_cons _ _
 ·
  rw [List.mem_append, List.mem_flatMap]
  constructor
  ·
   intro hy
   cases y with
   | nil => left; rw [if_pos hy]; exact List.mem_singleton.2 rfl
   | cons c y => exact .inr ⟨c, (mem_letsL h).2 ⟨y, hy⟩, List.mem_map.2 ⟨y, mem_succL.2 hy, rfl⟩⟩
  ·
   rintro (hy | ⟨c, _, hy⟩)
   ·
    split at hy
    ·
     rename_i h0; rw [List.mem_singleton.1 hy]; exact h0
    ·
     cases hy
   ·
    obtain ⟨x, hx, rfl⟩ := List.mem_map.1 hy
    exact mem_succL.1 hx
theorem res_eq {n m : Nat} {a b : List Txt} (ha : Res n a) (hb : Res m b) (h0 : decide ([] ∈ a) = decide ([] ∈ b)) (h1 : letsL a = letsL b) (h2 : ∀ c ∈ letsL a, succL a c = succL b c) : a = b := by
 rw [decL ha, decL hb, ← h1]
 have e0 : ([] ∈ a) ↔ ([] ∈ b) := by simpa using h0
 congr 1
 ·
  by_cases h : [] ∈ a
  ·
   rw [if_pos h, if_pos (e0.1 h)]
  ·
   rw [if_neg h, if_neg (fun k => h (e0.2 k))]
 ·
  rw [List.flatMap_def, List.flatMap_def]
  congr 1
  refine List.map_congr_left fun c hc => ?_
  rw [h2 c hc]
def cntL : Nat → List Txt → Nat
 | 0, _ => 1
 | n + 1, b => 1 + ((letsL b).map fun c => cntL n (succL b c)).sum
theorem cntL_le : ∀ (n : Nat) (b : List Txt), Res n b → cntL n b ≤ 1 + (b.map List.length).sum
 | 0, b, _ => by simp [cntL]
 | n + 1, b, h => by
  have key : ∀ l : List UInt8, (∀ c ∈ l, c ∈ letsL b) → (l.map fun c => cntL n (succL b c)).sum ≤ ((l.flatMap fun c => (succL b c).map (c :: ·)).map List.length).sum := by
   intro l
   induction l with
   | nil => intro _; simp
   | cons c l ih =>
    intro hl
    have h1 := ih fun x hx => hl x (List.mem_cons_of_mem _ hx)
    have h2 := cntL_le n (succL b c) (h.succ c)
    have h3 := (letsL_ne h).1 (hl c List.mem_cons_self)
    have h4 : (((succL b c).map (c :: ·)).map List.length).sum = ((succL b c).map List.length).sum + (succL b c).length := by
     rw [List.map_map]
     induction succL b c with
     | nil => rfl
     | cons x r ih => simp only [List.map_cons, List.sum_cons, List.length_cons, ih, Function.comp]; omega
    have h5 := List.length_pos_iff.2 h3
    rw [List.map_cons, List.sum_cons, List.flatMap_cons, List.map_append, List.sum_append, h4]
    omega
  have h1 := key (letsL b) fun _ hc => hc
  have h2 := congrArg (fun l : List Txt => (l.map List.length).sum) (decL h)
  simp only [List.map_append, List.sum_append] at h2
  rw [cntL, h2]
  omega
theorem cntL_mono : ∀ (n : Nat) (b : List Txt), Res n b → cntL (n + 1) b = cntL n b
 | 0, b, h => by simp [cntL, h.zero_lets]
 | n + 1, b, h => by
  rw [cntL, cntL]
  congr 2
  exact List.map_congr_left fun c _ => cntL_mono n _ (h.succ c)
theorem sum_len_le : ∀ (ws : List Txt) (m : Nat), (∀ w ∈ ws, w.length ≤ m) → (ws.map List.length).sum ≤ ws.length * m
 | [], _, _ => by simp
 | w :: ws, m, h => by
  have h1 := sum_len_le ws m fun x hx => h x (List.mem_cons_of_mem _ hx)
  have h2 := h w List.mem_cons_self
  rw [List.map_cons, List.sum_cons, List.length_cons, Nat.succ_mul]
  omega
theorem cntL_ok {ws : List Txt} (h : OkW ws) (p : Txt) : cntL 12 (behL ws p) ≤ 481 := by
 have h1 := cntL_le 12 _ (Res.beh12 h p)
 have h2 := sum_len_le _ 12 (Res.beh12 h p).len
 have h3 : (behL ws p).length ≤ 40 := by
  unfold behL
  rw [List.length_map]
  exact Nat.le_trans (List.length_filter_le _ _) h.len
 have h4 : (behL ws p).length * 12 ≤ 40 * 12 := Nat.mul_le_mul_right _ h3
 omega
def firstL : List (List Txt) → List (List Txt) → List (List Txt)
 | acc, [] => acc
 | acc, x :: r => firstL (if x ∈ acc then acc else acc ++ [x]) r
theorem firstL_pre : ∀ (r acc : List (List Txt)), acc <+: firstL acc r
 | [], acc => List.prefix_refl _
 | x :: r, acc => by
  rw [firstL]
  refine List.IsPrefix.trans ?_ (firstL_pre r _)
  split
  ·
   exact List.prefix_refl _
  ·
   exact List.prefix_append _ _
theorem mem_firstL : ∀ (r acc : List (List Txt)) (y : List Txt), y ∈ firstL acc r ↔ y ∈ acc ∨ y ∈ r
 | [], acc, y => by simp [firstL]
 | x :: r, acc, y => by
  rw [firstL, mem_firstL r, List.mem_cons]
  by_cases h : x ∈ acc
  ·
   rw [if_pos h]
   constructor
   ·
    rintro (h1 | h1)
    ·
     exact .inl h1
    ·
     exact .inr (.inr h1)
   ·
    rintro (h1 | rfl | h1)
    ·
     exact .inl h1
    ·
     exact .inl h
    ·
     exact .inr h1
  ·
   rw [if_neg h, List.mem_append, List.mem_singleton]
   constructor
   ·
    rintro ((h1 | h1) | h1)
    ·
     exact .inl h1
    ·
     exact .inr (.inl h1)
    ·
     exact .inr (.inr h1)
   ·
    rintro (h1 | h1 | h1)
    ·
     exact .inl (.inl h1)
    ·
     exact .inl (.inr h1)
    ·
     exact .inr h1
theorem firstL_length : ∀ (r acc : List (List Txt)), (firstL acc r).length ≤ acc.length + r.length
 | [], acc => Nat.le_refl _
 | x :: r, acc => by
  rw [firstL]
  have := firstL_length r (if x ∈ acc then acc else acc ++ [x])
  refine Nat.le_trans this ?_
  split
  ·
   rw [List.length_cons]; omega
  ·
   rw [List.length_append, List.length_cons]; simp; omega
theorem firstL_nodup : ∀ (r acc : List (List Txt)), acc.Nodup → (firstL acc r).Nodup
 | [], _, h => h
 | x :: r, acc, h => by
  rw [firstL]
  refine firstL_nodup r _ ?_
  split
  ·
   exact h
  ·
   rename_i hx
   rw [List.nodup_append]
   exact ⟨h, by simp, fun a ha b hb e => hx (by rw [← List.mem_singleton.1 hb, ← e]; exact ha)⟩
theorem firstL_snoc (r acc : List (List Txt)) (x : List Txt) : firstL acc (r ++ [x]) = if x ∈ firstL acc r then firstL acc r else firstL acc r ++ [x] := by
 induction r generalizing acc with
 | nil => rfl
 | cons y r ih => rw [List.cons_append, firstL, firstL, ih]
theorem idx_pre {a b : List (List Txt)} (h : a <+: b) {x : List Txt} (hx : x ∈ a) : b.idxOf x = a.idxOf x := by
 obtain ⟨r, rfl⟩ := h
 rw [List.idxOf_append, if_pos hx]
theorem idx_new {a : List (List Txt)} {x : List Txt} (hx : x ∉ a) : (a ++ [x]).idxOf x = a.length := by
 rw [List.idxOf_append, if_neg hx]
 simp
def resL (ws : List Txt) : List (List Txt) := (preL ws).map (behL ws)
def dL (ws : List Txt) : List (List Txt) := firstL [] (resL ws)
def stL (D : List (List Txt)) (b : List Txt) : Bool × List (Int × Int) := (decide ([] ∈ b), (letsL b).map fun c => ((c.toNat : Int) - 97, (D.idxOf (succL b c) : Int)))
def machL (ws : List Txt) : List (Bool × List (Int × Int)) := (dL ws).map (stL (dL ws))
theorem resL_length (ws : List Txt) : (resL ws).length = (preL ws).length := List.length_map _
theorem dL_length {ws : List Txt} (h : OkW ws) : (dL ws).length ≤ 481 := by
 have h1 := firstL_length (resL ws) []
 rw [resL_length] at h1
 have h2 := h.pre
 unfold dL
 simp at h1
 omega
theorem mem_dL {ws : List Txt} {b : List Txt} : b ∈ dL ws ↔ ∃ p ∈ preL ws, behL ws p = b := by
 unfold dL
 rw [mem_firstL, resL, List.mem_map]
 simp
theorem dL_res {ws : List Txt} (h : OkW ws) {b : List Txt} (hb : b ∈ dL ws) : Res 12 b := by
 obtain ⟨p, _, rfl⟩ := mem_dL.1 hb
 exact Res.beh12 h p
theorem pre_snoc {ws : List Txt} {p : Txt} {c : UInt8} : p ++ [c] ∈ preL ws ↔ ∃ x, c :: x ∈ behL ws p := by
 rw [mem_preL]
 constructor
 ·
  rintro (h | ⟨w, hw, _, x, rfl⟩)
  ·
   simp at h
  ·
   exact ⟨x, mem_behL.2 (by simpa using hw)⟩
 ·
  rintro ⟨x, hx⟩
  exact .inr ⟨_, mem_behL.1 hx, by simp, ⟨x, by simp⟩⟩
theorem dL_succ {ws : List Txt} (h : OkW ws) {b : List Txt} (hb : b ∈ dL ws) {c : UInt8} (hc : c ∈ letsL b) : succL b c ∈ dL ws := by
 obtain ⟨p, hp, rfl⟩ := mem_dL.1 hb
 refine mem_dL.2 ⟨p ++ [c], pre_snoc.2 ((mem_letsL (Res.beh12 h p)).1 hc), behL_snoc h.asc p c⟩
theorem nil_preL (ws : List Txt) : [] ∈ preL ws := (clo_preL ws).1
theorem self_dL {ws : List Txt} (h : OkW ws) : ws ∈ dL ws := mem_dL.2 ⟨[], nil_preL ws, behL_nil ws h.asc⟩
theorem resL_zero {ws : List Txt} (h : OkW ws) : ∃ r, resL ws = ws :: r := by
 obtain ⟨h1, h2⟩ := clo_zero (asc_preL ws) (clo_preL ws)
 unfold resL
 cases hP : preL ws with
 | nil => rw [hP] at h1; simp at h1
 | cons p r =>
  rw [hP] at h2
  obtain rfl : p = [] := by simpa using h2
  exact ⟨r.map (behL ws), by rw [List.map_cons, behL_nil ws h.asc]⟩
theorem idx_zero {ws : List Txt} (h : OkW ws) : (dL ws).idxOf ws = 0 := by
 obtain ⟨r, hr⟩ := resL_zero h
 unfold dL
 rw [hr, firstL, if_neg (by simp)]
 rw [idx_pre (firstL_pre r _) (by simp)]
 simp
theorem kidsL_eq {ws : List Txt} (h : OkW ws) (p : Txt) : kidsL (preL ws) p = (letsL (behL ws p)).map fun c => p ++ [c] := by
 refine asc_ext _ _ ((asc_preL ws).filter _) ?_ fun q => ?_
 ·
  unfold Asc
  rw [List.pairwise_map]
  refine List.Pairwise.imp (fun hab => lt_appendL p ?_) (letsL_asc _)
  exact List.cons_lt_cons_iff.2 (.inl hab)
 ·
  unfold kidsL
  rw [List.mem_filter, decide_eq_true_eq, List.mem_map]
  constructor
  ·
   rintro ⟨hq, hne, rfl⟩
   have e := List.dropLast_concat_getLast hne
   refine ⟨q.getLast hne, (mem_letsL (Res.beh12 h _)).2 (pre_snoc.1 (by rw [e]; exact hq)), e⟩
  ·
   rintro ⟨c, hc, rfl⟩
   exact ⟨pre_snoc.2 ((mem_letsL (Res.beh12 h p)).1 hc), by simp, by simp⟩
def lastL : List (List Txt) → List Txt → Nat
 | [], _ => 0
 | _ :: r, b => if b ∈ r then lastL r b + 1 else 0
theorem lastL_spec : ∀ {l : List (List Txt)} {b : List Txt}, b ∈ l → lastL l b < l.length ∧ l.getD (lastL l b) [] = b ∧ ∀ j, lastL l b < j → j < l.length → l.getD j [] ≠ b
 | [], _, h => by simp at h
 | x :: r, b, h => by
  by_cases hb : b ∈ r
  ·
   obtain ⟨h1, h2, h3⟩ := lastL_spec hb
   simp only [lastL, if_pos hb]
   refine ⟨by rw [List.length_cons]; omega, by rw [List.getD_cons_succ]; exact h2, fun j hj hl => ?_⟩
   obtain ⟨j, rfl⟩ : ∃ m, j = m + 1 := ⟨j - 1, by omega⟩
   rw [List.getD_cons_succ]
   rw [List.length_cons] at hl
   exact h3 j (by omega) (by omega)
  ·
   simp only [lastL, if_neg hb]
   have hx : b = x := by
    rcases List.mem_cons.1 h with e | e
    ·
     exact e
    ·
     exact absurd e hb
   refine ⟨by simp, by rw [List.getD_cons_zero, hx], fun j hj hl => ?_⟩
   obtain ⟨j, rfl⟩ : ∃ m, j = m + 1 := ⟨j - 1, by omega⟩
   rw [List.getD_cons_succ]
   rw [List.length_cons] at hl
   intro e
   apply hb
   rw [← e, List.getD_eq_getElem?_getD, List.getElem?_eq_getElem (show j < r.length by omega)]
   exact List.getElem_mem _
theorem getR_mem {R : List (List Txt)} {i : Nat} (h : i < R.length) : R.getD i [] ∈ R := by rw [getD_lt [] h]; exact List.getElem_mem h
theorem lastL_ge {R : List (List Txt)} {i : Nat} (h : i < R.length) : i ≤ lastL R (R.getD i []) := by
 obtain ⟨h1, h2, h3⟩ := lastL_spec (getR_mem h)
 rcases Nat.lt_or_ge (lastL R (R.getD i [])) i with h4 | h4
 ·
  exact absurd rfl (h3 i h4 h)
 ·
  exact h4
theorem lastL_inj {R : List (List Txt)} {i j : Nat} (hi : i < R.length) (hj : j < R.length) : lastL R (R.getD i []) = lastL R (R.getD j []) ↔ R.getD i [] = R.getD j [] := by
 refine ⟨fun e => ?_, fun e => by rw [e]⟩
 rw [← (lastL_spec (getR_mem hi)).2.1, e, (lastL_spec (getR_mem hj)).2.1]
def joinT : List Txt → Txt
 | [] => []
 | w :: r => w ++ 44 :: joinT r
theorem split44 : ∀ (w v x y : Txt), (44 : UInt8) ∉ w → (44 : UInt8) ∉ v → w ++ 44 :: x = v ++ 44 :: y → w = v ∧ x = y
 | [], [], x, y, _, _, h => ⟨rfl, by simpa using h⟩
 | [], b :: v, x, y, _, hv, h => by
  rw [List.nil_append, List.cons_append] at h
  injection h with h1 h2
  exact absurd (h1 ▸ List.mem_cons_self) hv
 | a :: w, [], x, y, hw, _, h => by
  rw [List.nil_append, List.cons_append] at h
  injection h with h1 h2
  exact absurd (h1 ▸ List.mem_cons_self) hw
 | a :: w, b :: v, x, y, hw, hv, h => by
  rw [List.cons_append, List.cons_append] at h
  injection h with h1 h2
  obtain ⟨h3, h4⟩ := split44 w v x y (fun m => hw (List.mem_cons_of_mem _ m)) (fun m => hv (List.mem_cons_of_mem _ m)) h2
  exact ⟨by rw [h1, h3], h4⟩
theorem joinT_inj : ∀ (a b : List Txt), (∀ w ∈ a, (44 : UInt8) ∉ w) → (∀ w ∈ b, (44 : UInt8) ∉ w) → joinT a = joinT b → a = b
 | [], [], _, _, _ => rfl
 | [], w :: r, _, _, h => by simp [joinT] at h
 | w :: r, [], _, _, h => by simp [joinT] at h
 | w :: r, v :: s, ha, hb, h => by
  obtain ⟨h1, h2⟩ := split44 w v _ _ (ha w List.mem_cons_self) (hb v List.mem_cons_self) h
  rw [h1, joinT_inj r s (fun x hx => ha x (List.mem_cons_of_mem _ hx)) (fun x hx => hb x (List.mem_cons_of_mem _ hx)) h2]
theorem joinT_length : ∀ (a : List Txt) (m : Nat), (∀ w ∈ a, w.length ≤ m) → (joinT a).length ≤ a.length * (m + 1)
 | [], _, _ => by simp [joinT]
 | w :: r, m, h => by
  have h1 := joinT_length r m fun x hx => h x (List.mem_cons_of_mem _ hx)
  have h2 := h w List.mem_cons_self
  rw [joinT, List.length_append, List.length_cons, List.length_cons, Nat.succ_mul]
  omega
theorem no44 {n : Nat} {b : List Txt} (h : Res n b) : ∀ w ∈ b, (44 : UInt8) ∉ w := fun w hw hm => by
 have := letter_bd (h.let_ w hw 44 hm)
 simp at this
theorem joinT_res {n m : Nat} {a b : List Txt} (ha : Res n a) (hb : Res m b) : joinT a = joinT b ↔ a = b := ⟨joinT_inj a b (no44 ha) (no44 hb), fun e => by rw [e]⟩
end Go.Proofs.Ytnnkedeohfbkeaa.M
namespace Go.Proofs.Ytnnkedeohfbkeaa.M
open Go.RowKit Go.Proofs.YtnnkedeohfbkeaaW.PrintWords
theorem rdB (l : List Txt) (n : Nat) (h : n < l.length) : rdOf ByteArray.empty (l.map B) (n : Int) = B (l.getD n []) := by
 simp [rdOf, List.getD_eq_getElem?_getD, h]
theorem exBs (l : List ByteArray) : ∃ m : List Txt, l = m.map B := ⟨l.map fun x => x.data.toList, by rw [List.map_map]; exact ((List.map_congr_left (fun x _ => B_data x)).trans (List.map_id _)).symm⟩
theorem map_B_inj {l m : List Txt} (h : l.map B = m.map B) : l = m := (List.map_inj_right (fun _ _ h => B_inj h)).1 h
end Go.Proofs.Ytnnkedeohfbkeaa.M
namespace Go.Proofs.Ytnnkedeohfbkeaa.M
open Go.Lib
theorem keeps_iff (d : Array Txt) (j : Nat) : keeps d j = true ↔ (j = 0 ∨ d[j]! ≠ d[j - 1]!) := by simp [keeps]
theorem mem_compact (zs : List Txt) (y : Txt) : y ∈ compact zs ↔ y ∈ zs := by
 unfold compact compactUpTo
 simp only [List.mem_map, List.mem_filter, List.mem_range]
 constructor
 ·
  rintro ⟨j, ⟨hj, _⟩, rfl⟩
  rw [getElem!_pos zs.toArray j (by simpa using hj)]
  simp
 ·
  intro hy
  have hex : ∃ n, ∃ h : n < zs.length, zs[n] = y := by
   obtain ⟨n, h, e⟩ := List.mem_iff_getElem.1 hy
   exact ⟨n, h, e⟩
  have key : ∀ n, (∃ h : n < zs.length, zs[n] = y) → ∃ m, m < zs.length ∧ keeps zs.toArray m = true ∧ zs.toArray[m]! = y := by
   intro n
   induction n with
   | zero => rintro ⟨h, e⟩; exact ⟨0, h, (keeps_iff _ _).2 (.inl rfl), by rw [getElem!_pos zs.toArray 0 (by simpa using h)]; simpa using e⟩
   | succ n ih =>
    rintro ⟨h, e⟩
    have e1 : zs.toArray[n + 1]! = y := by rw [getElem!_pos zs.toArray (n + 1) (by simpa using h)]; simpa using e
    by_cases hk : keeps zs.toArray (n + 1) = true
    ·
     exact ⟨n + 1, h, hk, e1⟩
    ·
     have : zs.toArray[n + 1]! = zs.toArray[n]! := by
      by_cases h9 : zs.toArray[n + 1]! = zs.toArray[n]!
      ·
       exact h9
      ·
       exact absurd ((keeps_iff _ _).2 (.inr h9)) hk
     refine ih ⟨by omega, ?_⟩
     have h2 : zs.toArray[n]! = zs[n] := by rw [getElem!_pos zs.toArray n (by simp; omega)]; simp
     rw [← h2, ← this, e1]
  obtain ⟨n, h⟩ := hex
  obtain ⟨m, h1, h2, h3⟩ := key n h
  exact ⟨m, ⟨h1, h2⟩, h3⟩
theorem pair_get {zs : List Txt} (h : zs.Pairwise (fun a b => decide (a ≤ b) = true)) {i j : Nat} (hij : i < j) (hj : j < zs.length) : zs.toArray[i]! ≤ zs.toArray[j]! := by
 have := List.pairwise_iff_getElem.1 h i j (by omega) hj hij
 rw [getElem!_pos zs.toArray i (by simp; omega), getElem!_pos zs.toArray j (by simpa using hj)]
 simpa using this
theorem asc_compact {zs : List Txt} (h : zs.Pairwise (fun a b => decide (a ≤ b) = true)) : Asc (compact zs) := by
 unfold Asc compact compactUpTo
 rw [List.pairwise_map]
 have h1 : ((List.range zs.length).filter (keeps zs.toArray)).Pairwise (· < ·) := List.Pairwise.filter _ List.pairwise_lt_range
 refine List.Pairwise.imp_of_mem ?_ h1
 intro a b ha hb hab
 rw [List.mem_filter, List.mem_range] at ha hb
 have hk := (keeps_iff _ _).1 hb.2
 have hne : zs.toArray[b]! ≠ zs.toArray[b - 1]! := by
  rcases hk with h0 | h0
  ·
   omega
  ·
   exact h0
 have h2 : zs.toArray[b - 1]! ≤ zs.toArray[b]! := pair_get h (by omega) hb.1
 have h3 : zs.toArray[a]! ≤ zs.toArray[b - 1]! := by
  by_cases e : a = b - 1
  ·
   subst e; exact List.le_refl _
  ·
   exact pair_get h (by omega) (by omega)
 have h4 : zs.toArray[b - 1]! < zs.toArray[b]! := by
  by_cases hlt : zs.toArray[b - 1]! < zs.toArray[b]!
  ·
   exact hlt
  ·
   exact absurd (List.le_antisymm (List.not_lt.1 hlt) h2) hne
 exact List.lt_of_le_of_lt h3 h4
theorem sorted_compact (l : List Txt) : compact (l.mergeSort fun x y => decide (x ≤ y)) = setL l := by
 have hp : (l.mergeSort fun x y => decide (x ≤ y)).Pairwise (fun a b => decide (a ≤ b) = true) := by
  refine List.pairwise_mergeSort ?_ ?_ l
  ·
   intro a b c h1 h2
   simp only [decide_eq_true_eq] at h1 h2 ⊢
   exact List.le_trans h1 h2
  ·
   intro a b
   simp only [Bool.or_eq_true, decide_eq_true_eq]
   exact List.le_total a b
 refine asc_ext _ _ (asc_compact hp) (asc_setL l) fun y => ?_
 rw [mem_compact, List.mem_mergeSort, mem_setL]
end Go.Proofs.Ytnnkedeohfbkeaa.M
namespace Go.Proofs.Ytnnkedeohfbkeaa.L
open Go.RowKit Go.Proofs.Ytnnkedeohfbkeaa.P Go.Proofs.Ytnnkedeohfbkeaa.M Go.Proofs.YtnnkedeohfbkeaaW.PrintWords Go.Proofs.YtnnkedeohfbkeaaW.PrintLast Go.Proofs.YtnnkedeohfbkeaaW.PrintMore
theorem map_data (l : List Txt) : (l.map B).map (fun x => x.data.toList) = l := by
 rw [List.map_map]
 exact (List.map_congr_left (fun x _ => data_B x)).trans (List.map_id _)
theorem l2Put_eq (l : List Txt) (w : Txt) (h : l.length ≤ 4294967296) (h2 : ∀ x ∈ l, x.length ≤ 4611686018427387900) : spec_l2Put.f (l.map B) (B w) = some ((putL l w).map B) := by
 have hall : ((l.map B).all fun x => decide (x.size ≤ 4611686018427387900)) = true := List.all_eq_true.2 fun x hx => by
  obtain ⟨y, hy, rfl⟩ := List.mem_map.1 hx
  simpa using h2 y hy
 unfold spec_l2Put.f
 rw [map_data, data_B, if_pos ⟨by simpa using h, hall⟩]
theorem set_eq (l : List Txt) (h : l.length ≤ 4294967296) : impl_set.f (l.map B) = some ((setL l).map B) := by
 unfold impl_set.f
 rw [if_pos (by simpa using h), map_data, sorted_compact]
 rfl
theorem l1In_eq (a b c : Int) : spec_l1In.f a b c = some (decide (b ≤ a ∧ a ≤ c)) := by
 unfold spec_l1In.f
 by_cases h : b ≤ a
 ·
  rw [if_pos (by omega)]; simp [h]
 ·
  rw [if_neg (by omega)]; simp [h]
instance : DecidableEq S65 := fun a b => if h : a.f0 = b.f0 ∧ a.f1 = b.f1 ∧ a.f2 = b.f2 then isTrue (by obtain ⟨a0, a1, a2⟩ := a; obtain ⟨b0, b1, b2⟩ := b; obtain ⟨h1, h2, h3⟩ := h; simp only at h1 h2 h3; subst h1 h2 h3; rfl) else isFalse (fun e => h (by rw [e]; exact ⟨rfl, rfl, rfl⟩))
def mkN (x : Int × Int × Bool) : S65 := ⟨x.1, x.2.1, x.2.2⟩
def trN (P ws : List Txt) : List S65 := (nodesL P ws).map mkN
theorem trN_length (P ws : List Txt) : (trN P ws).length = P.length := by simp [trN, nodesL]
theorem rdN (P ws : List Txt) (i : Nat) (h : i < P.length) : rd_T65 (trN P ws) (i : Int) = mkN (ndL P ws (P.getD i [])) := by
 unfold rd_T65 trN nodesL
 rw [Int.toNat_natCast, getD_lt _ (by simpa using h), getD_lt _ h]
 simp
theorem strOfNums_B (n : Int) : strOfNums [n] = B [UInt8.ofNat n.toNat] := rfl
theorem letter_back {p : Txt} (hw : wordL p = true) (h : p ≠ []) : strOfNums [(wrap64 (97 + ltrOf p)) % 256] = B [p.getD (p.length - 1) 0] := by
 obtain ⟨h1, h2, h3⟩ := ltrOf_bd hw h
 have h4 := letter_bd ((wordL_iff.1 hw).1 _ (getLast_mem h))
 rw [strOfNums_B]
 congr 2
 have e : (wrap64 (97 + ltrOf p) % 256).toNat = (p.getD (p.length - 1) 0).toNat := by rw [wrap64_id (by omega) (by omega)]; omega
 rw [e]
 simp
theorem l2Word_loop (l : Txt) (hl : l.length ≤ 4611686018427387903) : ∀ (d n : Nat), n + d = l.length → Ev (fun k => spec_l2Word.l0 k (B l) (n : Int)) ((l.drop n).all letterB && decide (l.length ≤ 12)) := by
 have last : ∀ n : Nat, Ev (fun k => spec_l2Word.j1 k (B l) (n : Int) false) (decide (l.length ≤ 12)) := by
  intro n
  refine Ev.step (fun k => spec_l2Word.j1.eq_2 ..) (Ev.ifF (by simp) ?_)
  have : decide (((B l).size : Int) ≤ 12) = decide (l.length ≤ 12) := by simp; omega
  rw [this]; exact Ev.now _
 intro d
 induction d with
 | zero =>
  intro n hn
  refine Ev.step (fun k => spec_l2Word.l0.eq_2 ..) (Ev.ifF (by simp; omega) ?_)
  rw [List.drop_of_length_le (by omega)]; simpa using last n
 | succ d ih =>
  intro n hn
  have h1 : n < l.length := by omega
  refine Ev.step (fun k => spec_l2Word.l0.eq_2 ..) (Ev.ifT (by simp; omega) ?_)
  rw [drop_cons_getD 0 h1]
  by_cases h16 : n ≤ 12
  ·
   rw [show decide ((n : Int) ≤ 12) = true from by simp; omega]
   refine Ev.step (fun k => spec_l2Word.j1.eq_2 ..) (Ev.ifT rfl (Ev.ifT (by omega) (Ev.ifT (by simp; omega) ?_)))
   simp only [bt_B l n h1]
   by_cases ha : ((l.getD n 0).toNat : Int) < 97
   ·
    refine Ev.ifT ha ?_
    have : letterB (l.getD n 0) = false := by simp only [letterB, decide_eq_false_iff_not]; omega
    simpa only [List.all_cons, this, Bool.false_and] using Ev.now false
   refine Ev.ifF ha ?_
   by_cases hz : ((l.getD n 0).toNat : Int) > 122
   ·
    refine Ev.ifT hz ?_
    have : letterB (l.getD n 0) = false := by simp only [letterB, decide_eq_false_iff_not]; omega
    simpa only [List.all_cons, this, Bool.false_and] using Ev.now false
   refine Ev.ifF hz ?_
   have : letterB (l.getD n 0) = true := by simp only [letterB, decide_eq_true_eq]; omega
   simpa only [wrap64_succ n (by omega), List.all_cons, this, Bool.true_and] using ih (n + 1) (by omega)
  ·
   rw [show decide ((n : Int) ≤ 12) = false from by simp; omega]
   have : ((l.getD n 0 :: l.drop (n + 1)).all letterB && decide (l.length ≤ 12)) = decide (l.length ≤ 12) := by
    have : decide (l.length ≤ 12) = false := by simp; omega
    rw [this]; simp
   rw [this]; exact last n
theorem l2Word_ev (l : Txt) (hl : l.length ≤ 4611686018427387903) : Ev (fun k => spec_l2Word.f k (B l)) (wordL l) := by
 simpa [spec_l2Word.f, wordL] using l2Word_loop l hl l.length 0 (by omega)
theorem l2Prefix_last (x1 : Int) (s : Txt) (N : List S65) : Ev (fun k => spec_l2Prefix.j1 k x1 (B s) false N) (if x1 = 0 then B s else B [63]) := by
 refine Ev.step (fun k => spec_l2Prefix.j1.eq_2 ..) (Ev.ifF (by simp) ?_)
 by_cases h : x1 = 0
 ·
  have e : (if x1 = 0 then B s else B [63]) = B s := if_pos h
  rw [e]; exact Ev.ifT h (Ev.now _)
 ·
  have e : (if x1 = 0 then B s else B [63]) = B [63] := if_neg h
  rw [e]; exact Ev.ifF h (Ev.now _)
theorem l2Prefix_ex (N : List S65) : ∀ (d : Nat) (x1 : Int) (s : Txt), x1.toNat ≤ d → x1 < N.length → s.length ≤ 13 → ∃ r : Txt, r.length ≤ 13 ∧ Ev (fun k => spec_l2Prefix.l0 k x1 (B s) N) (B r) := by
 have low : ∀ (x1 : Int) (s : Txt), x1 ≤ 0 → s.length ≤ 13 → ∃ r : Txt, r.length ≤ 13 ∧ Ev (fun k => spec_l2Prefix.l0 k x1 (B s) N) (B r) := by
  intro x1 s h1 h2
  have hl := l2Prefix_last x1 s N
  by_cases h : x1 = 0
  ·
   rw [if_pos h] at hl; exact ⟨s, h2, Ev.step (fun k => spec_l2Prefix.l0.eq_2 ..) (Ev.ifF (by omega) hl)⟩
  ·
   rw [if_neg h] at hl; exact ⟨[63], by simp, Ev.step (fun k => spec_l2Prefix.l0.eq_2 ..) (Ev.ifF (by omega) hl)⟩
 intro d
 induction d with
 | zero => intro x1 s h1 h2 h3; exact low x1 s (by omega) h3
 | succ d ih =>
  intro x1 s h1 h2 h3
  by_cases hp : x1 ≤ 0
  ·
   exact low x1 s hp h3
  by_cases h12 : s.length ≤ 12
  ·
   have hd : decide (((B s).size : Int) ≤ 12) = true := by simp; omega
   by_cases hin : (0 : Int) ≤ (rd_T65 N x1).f0 ∧ (rd_T65 N x1).f0 ≤ 25
   ·
    by_cases hpar : (rd_T65 N x1).f1 ≥ x1
    ·
     refine ⟨[63], by simp, Ev.step (fun k => spec_l2Prefix.l0.eq_2 ..) (Ev.ifT (by omega) ?_)⟩
     rw [hd]
     refine Ev.step (fun k => spec_l2Prefix.j1.eq_2 ..) (Ev.ifT rfl (Ev.ifT (by omega) (Ev.ifT h2 ?_)))
     rw [l1In_eq, decide_eq_true hin]
     exact Ev.some_bind (Ev.ifT rfl (Ev.ifT hpar (Ev.now _)))
    ·
     obtain ⟨r, hr, he⟩ := ih (rd_T65 N x1).f1 (UInt8.ofNat ((wrap64 (97 + (rd_T65 N x1).f0)) % 256).toNat :: s) (by omega) (by omega) (by simp; omega)
     refine ⟨r, hr, Ev.step (fun k => spec_l2Prefix.l0.eq_2 ..) (Ev.ifT (by omega) ?_)⟩
     rw [hd]
     refine Ev.step (fun k => spec_l2Prefix.j1.eq_2 ..) (Ev.ifT rfl (Ev.ifT (by omega) (Ev.ifT h2 ?_)))
     rw [l1In_eq, decide_eq_true hin]
     refine Ev.some_bind (Ev.ifT rfl (Ev.ifF hpar (Ev.some_bind ?_)))
     rw [strOfNums_B, append_B]
     exact Ev.ifT (by simp; omega) he
   ·
    refine ⟨[63], by simp, Ev.step (fun k => spec_l2Prefix.l0.eq_2 ..) (Ev.ifT (by omega) ?_)⟩
    rw [hd]
    refine Ev.step (fun k => spec_l2Prefix.j1.eq_2 ..) (Ev.ifT rfl (Ev.ifT (by omega) (Ev.ifT h2 ?_)))
    rw [l1In_eq, decide_eq_false hin]
    exact Ev.some_bind (Ev.ifF (by simp) (Ev.now _))
  ·
   have hd : decide (((B s).size : Int) ≤ 12) = false := by simp; omega
   refine ⟨[63], by simp, Ev.step (fun k => spec_l2Prefix.l0.eq_2 ..) (Ev.ifT (by omega) ?_)⟩
   rw [hd]
   have hl := l2Prefix_last x1 s N
   rwa [if_neg (by omega)] at hl
theorem l2Prefix_up {P : List Txt} (ws : List Txt) (hA : Asc P) (hC : Clo P) (hW : ∀ p ∈ P, wordL p = true) : ∀ (n : Nat) (p s : Txt), p.length = n → p ∈ P → (p ++ s).length ≤ 12 → Ev (fun k => spec_l2Prefix.l0 k (placeL P p : Int) (B s) (trN P ws)) (B (p ++ s)) := by
 intro n
 induction n with
 | zero =>
  intro p s h1 h2 h3
  have hp : p = [] := List.eq_nil_of_length_eq_zero h1
  subst hp
  obtain ⟨z1, z2⟩ := clo_zero hA hC
  have hz : placeL P [] = 0 := by have := placeL_get hA z1; rwa [z2] at this
  rw [hz]
  have hl := l2Prefix_last ((0 : Nat) : Int) s (trN P ws)
  exact Ev.step (fun k => spec_l2Prefix.l0.eq_2 ..) (Ev.ifF (by simp) (by simpa using hl))
 | succ n ih =>
  intro p s h1 h2 h3
  have hne : p ≠ [] := fun e => by rw [e] at h1; simp at h1
  obtain ⟨i1, i2⟩ := placeL_mem h2
  have i3 : 0 < placeL P p := by
   rcases Nat.eq_zero_or_pos (placeL P p) with h0 | h0
   ·
    rw [h0, (clo_zero hA hC).2] at i2; exact absurd i2.symm hne
   ·
    exact h0
  obtain ⟨j1, j2⟩ := clo_parent hA hC i1 i3
  rw [i2] at j1 j2
  have hsl : s.length ≤ 12 := by rw [List.length_append] at h3; omega
  have hd : decide (((B s).size : Int) ≤ 12) = true := by simp; omega
  have hf : rd_T65 (trN P ws) (placeL P p : Int) = ⟨ltrOf p, (placeL P p.dropLast : Int), decide (p ∈ ws)⟩ := by
   rw [rdN P ws _ i1, i2]; unfold mkN ndL; rw [if_neg hne, if_neg hne]
  obtain ⟨_, b1, b2⟩ := ltrOf_bd (hW p h2) hne
  refine Ev.step (fun k => spec_l2Prefix.l0.eq_2 ..) (Ev.ifT (by omega) ?_)
  rw [hd]
  refine Ev.step (fun k => spec_l2Prefix.j1.eq_2 ..) (Ev.ifT rfl (Ev.ifT (by omega) (Ev.ifT (by rw [trN_length]; omega) ?_)))
  rw [hf, l1In_eq, decide_eq_true ⟨b1, b2⟩]
  refine Ev.some_bind (Ev.ifT rfl (Ev.ifF (by show ¬ ((placeL P p.dropLast : Nat) : Int) ≥ ((placeL P p : Nat) : Int); omega) (Ev.some_bind ?_)))
  rw [letter_back (hW p h2) hne, append_B]
  have hpd : p.dropLast.length = n := by rw [List.length_dropLast]; omega
  have e1 : p.dropLast ++ ([p.getD (p.length - 1) 0] ++ s) = p ++ s := by rw [← List.append_assoc, dropLast_getD p hne]
  refine Ev.ifT (by simp; omega) ?_
  have := ih p.dropLast ([p.getD (p.length - 1) 0] ++ s) hpd (hC.2 p h2 hne) (by rw [e1]; exact h3)
  rwa [e1] at this
theorem l2Prefix_ev {P : List Txt} (ws : List Txt) (hA : Asc P) (hC : Clo P) (hW : ∀ p ∈ P, wordL p = true) (i : Nat) (hi : i < P.length) : Ev (fun k => spec_l2Prefix.f k (trN P ws) (i : Int)) (B (P.getD i [])) := by
 have hm := getD_mem hi
 have := l2Prefix_up ws hA hC hW _ (P.getD i []) [] rfl hm (by rw [List.append_nil]; exact (wordL_iff.1 (hW _ hm)).2)
 rw [placeL_get hA hi, List.append_nil] at this
 exact this
def setR : List Txt → List Txt → List ByteArray × Bool
 | [], acc => (acc.map B, decide (acc.length ≤ 40))
 | w :: r, acc => if wordL w = true then setR r (putL acc w) else ([], false)
theorem setR_eq : ∀ (l acc : List Txt), setR l acc = if l.all wordL = true then ((l.foldl putL acc).map B, decide ((l.foldl putL acc).length ≤ 40)) else ([], false)
 | [], acc => rfl
 | w :: r, acc => by
  unfold setR
  rw [setR_eq r (putL acc w), List.all_cons, List.foldl_cons]
  cases h : wordL w with
  | false => rw [if_neg Bool.false_ne_true, if_neg (by rw [Bool.false_and]; exact Bool.false_ne_true)]
  | true => rw [if_pos rfl, Bool.true_and]
theorem l2Set_loop {b : Nat} (hb : b ≤ 1000000) (ws : List Txt) (hl : ws.length ≤ 2147483648) (hw : ∀ w ∈ ws, w.length ≤ b) : ∀ (d i : Nat) (acc : List Txt), i + d = ws.length → acc.length ≤ i → (∀ w ∈ acc, w.length ≤ b) →
  Ev (fun k => spec_l2Set.l0 k (ws.map B) (acc.map B) (i : Int)) (setR (ws.drop i) acc) := by
 intro d
 induction d with
 | zero =>
  intro i acc h1 h2 h3
  rw [List.drop_of_length_le (by omega)]
  refine Ev.step (fun k => spec_l2Set.l0.eq_2 ..) (Ev.ifF (by simp; omega) ?_)
  have : decide (((acc.map B).length : Int) ≤ 40) = decide (acc.length ≤ 40) := by
   rw [List.length_map]; exact decide_eq_decide.2 (by omega)
  rw [this]
  exact Ev.now _
 | succ d ih =>
  intro i acc h1 h2 h3
  have hi : i < ws.length := by omega
  have hm := getD_mem hi
  rw [drop_cons_getD [] hi]
  refine Ev.step (fun k => spec_l2Set.l0.eq_2 ..) (Ev.ifT (by simp; omega) (Ev.ifT (by omega) ?_))
  rw [rdB ws i hi]
  refine Ev.bind (f := fun k t => if t = true then (spec_l2Put.f (acc.map B) (B (ws.getD i []))).bind fun t165 => spec_l2Set.l0 k (ws.map B) t165 (wrap64 ((i : Int) + 1)) else some ([], false)) (l2Word_ev _ (by have := hw _ hm; omega)) ?_
  unfold setR
  cases hq : wordL (ws.getD i []) with
  | false =>
   rw [if_neg Bool.false_ne_true]
   exact Ev.ifF Bool.false_ne_true (Ev.now _)
  | true =>
   rw [if_pos (show true = true from rfl)]
   refine Ev.ifT rfl ?_
   rw [l2Put_eq acc _ (by omega) (fun x hx => by have := h3 x hx; omega)]
   refine Ev.some_bind ?_
   have h6 := putL_length_le acc (ws.getD i [])
   have := ih (i + 1) (putL acc (ws.getD i [])) (by omega) (by omega) (fun x hx => by
    rcases (mem_putL _ _ _).1 hx with rfl | hx
    ·
     exact hw _ hm
    ·
     exact h3 x hx)
   rw [wrap64_succ i (by omega)]
   exact this
theorem l2Set_ev {b : Nat} (ws : List Txt) (hl : ws.length ≤ 2147483648) (hw : ∀ w ∈ ws, w.length ≤ b) (hb : b ≤ 1000000 := by omega) : Ev (fun k => spec_l2Set.f k (ws.map B)) (if ws.all wordL = true then ((setL ws).map B, decide ((setL ws).length ≤ 40)) else ([], false)) := by
 have := l2Set_loop hb ws hl hw ws.length 0 [] (by omega) (by simp) (by simp)
 rw [List.drop_zero, setR_eq] at this
 exact this
theorem l2Has_loop (l : List Txt) (p : Txt) (hl : l.length ≤ 4611686018427387903) : ∀ (d i : Nat), i + d = l.length → Ev (fun k => spec_l2Has.l0 k (l.map B) (B p) (i : Int)) (decide (p ∈ l.drop i)) := by
 intro d
 induction d with
 | zero =>
  intro i h
  rw [List.drop_of_length_le (by omega)]
  exact Ev.step (fun k => spec_l2Has.l0.eq_2 ..) (Ev.ifF (by simp; omega) (by simpa using Ev.now false))
 | succ d ih =>
  intro i h
  have hi : i < l.length := by omega
  refine Ev.step (fun k => spec_l2Has.l0.eq_2 ..) (Ev.ifT (by simp; omega) (Ev.ifT (by omega) ?_))
  rw [rdB l i hi, drop_cons_getD [] hi, toList_B, toList_B]
  by_cases e : l.getD i [] = p
  ·
   rw [show decide (p ∈ l.getD i [] :: l.drop (i + 1)) = true from decide_eq_true (by rw [e]; exact List.mem_cons_self)]
   exact Ev.ifT e (Ev.now _)
  ·
   rw [show decide (p ∈ l.getD i [] :: l.drop (i + 1)) = decide (p ∈ l.drop (i + 1)) from decide_eq_decide.2 ⟨fun h => (List.mem_cons.1 h).resolve_left (fun q => e q.symm), fun h => List.mem_cons_of_mem _ h⟩]
   refine Ev.ifF e ?_
   rw [wrap64_succ i (by omega)]
   exact ih (i + 1) (by omega)
theorem l2Has_ev (l : List Txt) (p : Txt) (hl : l.length ≤ 4611686018427387903) : Ev (fun k => spec_l2Has.f k (l.map B) (B p)) (decide (p ∈ l)) := by
 have := l2Has_loop l p hl l.length 0 (by omega)
 rw [List.drop_zero] at this
 exact this
theorem l2Place_loop (l : List Txt) (p : Txt) (hl : l.length ≤ 4611686018427387903) : ∀ (d i : Nat), i + d = l.length → Ev (fun k => spec_l2Place.l0 k (l.map B) (B p) (i : Int)) (if p ∈ l.drop i then ((i + placeL (l.drop i) p : Nat) : Int) else -1) := by
 intro d
 induction d with
 | zero =>
  intro i h
  rw [List.drop_of_length_le (by omega)]
  exact Ev.step (fun k => spec_l2Place.l0.eq_2 ..) (Ev.ifF (by simp; omega) (by simpa using Ev.now (-1 : Int)))
 | succ d ih =>
  intro i h
  have hi : i < l.length := by omega
  refine Ev.step (fun k => spec_l2Place.l0.eq_2 ..) (Ev.ifT (by simp; omega) (Ev.ifT (by omega) ?_))
  rw [rdB l i hi, drop_cons_getD [] hi, toList_B, toList_B]
  by_cases e : l.getD i [] = p
  ·
   rw [if_pos (show p ∈ l.getD i [] :: l.drop (i + 1) from by rw [e]; exact List.mem_cons_self), placeL, if_pos e]
   exact Ev.ifT e (Ev.now _)
  ·
   refine Ev.ifF e ?_
   rw [wrap64_succ i (by omega)]
   have h1 := ih (i + 1) (by omega)
   by_cases hm : p ∈ l.drop (i + 1)
   ·
    rw [if_pos hm] at h1
    rw [if_pos (List.mem_cons_of_mem _ hm), placeL, if_neg e]
    rwa [show i + (placeL (l.drop (i + 1)) p + 1) = i + 1 + placeL (l.drop (i + 1)) p from by omega]
   ·
    rw [if_neg hm] at h1
    rw [if_neg (fun h => hm ((List.mem_cons.1 h).resolve_left (fun q => e q.symm)))]
    exact h1
theorem l2Place_ev (l : List Txt) (p : Txt) (hl : l.length ≤ 4611686018427387903) (h : p ∈ l) : Ev (fun k => spec_l2Place.f k (l.map B) (B p)) (placeL l p : Int) := by
 have := l2Place_loop l p hl l.length 0 (by omega)
 rw [List.drop_zero, if_pos h, Nat.zero_add] at this
 exact this
def begF (w : Txt) : Nat → Nat → List Txt
 | _, 0 => []
 | n, d + 1 => w.take n :: begF w (n + 1) d
theorem begF_eq (w : Txt) : ∀ d n, begF w n d = (List.range d).map fun j => w.take (n + j)
 | 0, _ => rfl
 | d + 1, n => by
  rw [begF, begF_eq w d (n + 1), List.range_succ_eq_map, List.map_cons, List.map_map]
  congr 1
  exact List.map_congr_left fun j _ => by show w.take (n + 1 + j) = w.take (n + (j + 1)); congr 1; omega
theorem begs_begF (w : Txt) : begs w = begF w 1 w.length := by
 rw [begF_eq]
 exact List.map_congr_left fun j _ => by congr 1; omega
theorem begF_len (w : Txt) : ∀ d n, (begF w n d).length = d := fun d n => by rw [begF_eq]; simp
theorem l2Of_in (ws : List Txt) (hl : ws.length ≤ 40) (hw : ∀ w ∈ ws, w.length ≤ 12) (i : Nat) (hi : i < ws.length) (r : List S65) (acc2 : List Txt) (hr : Ev (fun k => spec_l2Of.l0 k (ws.map B) (acc2.map B) ((i + 1 : Nat) : Int)) r) :
  ∀ (d n : Nat) (acc : List Txt), 0 < n → n + d = (ws.getD i []).length + 1 → (begF (ws.getD i []) n d).foldl putL acc = acc2 → acc.length + d ≤ 1000 → (∀ x ∈ acc, x.length ≤ 12) → Ev (fun k => spec_l2Of.l1 k (ws.map B) (acc.map B) (i : Int) (n : Int)) r := by
 have hwi := hw _ (getD_mem hi)
 intro d
 induction d with
 | zero =>
  intro n acc h0 h1 h2 h3 h4
  rw [begF, List.foldl_nil] at h2
  subst h2
  refine Ev.step (fun k => spec_l2Of.l1.eq_2 ..) (Ev.ifT (by omega) (Ev.ifT (by simp; omega) (Ev.ifF (by rw [rdB ws i hi, size_B]; omega) ?_)))
  rw [wrap64_succ i (by omega)]
  exact hr
 | succ d ih =>
  intro n acc h0 h1 h2 h3 h4
  refine Ev.step (fun k => spec_l2Of.l1.eq_2 ..) (Ev.ifT (by omega) (Ev.ifT (by simp; omega) (Ev.ifT (by rw [rdB ws i hi, size_B]; omega) (Ev.ifT (by omega) ?_))))
  rw [rdB ws i hi, extract_B, List.drop_zero, Int.toNat_natCast, Nat.sub_zero, l2Put_eq acc _ (by omega) (fun x hx => by have := h4 x hx; omega)]
  refine Ev.some_bind ?_
  rw [wrap64_succ n (by omega)]
  have h6 := putL_length_le acc ((ws.getD i []).take n)
  exact ih (n + 1) (putL acc ((ws.getD i []).take n)) (by omega) (by omega) (by rw [← h2]; rfl) (by omega) (fun x hx => by
   rcases (mem_putL _ _ _).1 hx with rfl | hx
   ·
    rw [List.length_take]; omega
   ·
    exact h4 x hx)
theorem l2Of_out (ws : List Txt) (hl : ws.length ≤ 40) (hw : ∀ w ∈ ws, w.length ≤ 12) (r : List S65) (all : List Txt) (hr : Ev (fun k => spec_l2Of.l2 k (ws.map B) (all.map B) 0 []) r) :
  ∀ (d i : Nat) (acc : List Txt), i + d = ws.length → ((ws.drop i).flatMap begs).foldl putL acc = all → acc.length + 12 * d ≤ 600 → (∀ x ∈ acc, x.length ≤ 12) → Ev (fun k => spec_l2Of.l0 k (ws.map B) (acc.map B) (i : Int)) r := by
 intro d
 induction d with
 | zero =>
  intro i acc h1 h2 h3 h4
  rw [List.drop_of_length_le (by omega), List.flatMap_nil, List.foldl_nil] at h2
  subst h2
  exact Ev.step (fun k => spec_l2Of.l0.eq_2 ..) (Ev.ifF (by simp; omega) hr)
 | succ d ih =>
  intro i acc h1 h2 h3 h4
  have hi : i < ws.length := by omega
  have hwi := hw _ (getD_mem hi)
  rw [drop_cons_getD [] hi, List.flatMap_cons, List.foldl_append] at h2
  have h5 := foldl_putL_len (begs (ws.getD i [])) acc
  rw [begs_length] at h5
  have hn := ih (i + 1) _ (by omega) h2 (by omega) (fun x hx => by
   rcases (foldl_putL_mem _ _ _).1 hx with hx | hx
   ·
    exact Nat.le_trans (mem_begs.1 hx).2.length_le hwi
   ·
    exact h4 x hx)
  refine Ev.step (fun k => spec_l2Of.l0.eq_2 ..) (Ev.ifT (by simp; omega) ?_)
  exact l2Of_in ws hl hw i hi r _ hn (ws.getD i []).length 1 acc (by omega) (by omega) (by rw [← begs_begF]) (by omega) h4
theorem l2Of_nodes {ws P : List Txt} (hA : Asc P) (hC : Clo P) (hW : ∀ p ∈ P, wordL p = true) (hP : P.length ≤ 1000) (hl : ws.length ≤ 1000) : ∀ (d i : Nat) (acc : List S65), i + d = P.length → acc.length ≤ i →
  Ev (fun k => spec_l2Of.l2 k (ws.map B) (P.map B) (i : Int) acc) (acc ++ ((P.drop i).map fun p => mkN (ndL P ws p))) := by
 intro d
 induction d with
 | zero =>
  intro i acc h1 h2
  rw [List.drop_of_length_le (by omega), List.map_nil, List.append_nil]
  exact Ev.step (fun k => spec_l2Of.l2.eq_2 ..) (Ev.ifF (by simp; omega) (Ev.now _))
 | succ d ih =>
  intro i acc h1 h2
  have hi : i < P.length := by omega
  have hm := getD_mem hi
  rw [drop_cons_getD [] hi, List.map_cons]
  refine Ev.step (fun k => spec_l2Of.l2.eq_2 ..) (Ev.ifT (by simp; omega) (Ev.ifT (by omega) ?_))
  rw [rdB P i hi]
  refine Ev.bind (l2Has_ev ws (P.getD i []) (by omega)) ?_
  have hcons : ∀ x : S65, acc ++ (x :: (P.drop (i + 1)).map fun p => mkN (ndL P ws p)) = (acc ++ [x]) ++ (P.drop (i + 1)).map fun p => mkN (ndL P ws p) := fun x => by simp
  rw [hcons]
  by_cases h0 : i = 0
  ·
   have hp : P.getD i [] = [] := by rw [h0]; exact (clo_zero hA hC).2
   refine Ev.ifF (by omega) (Ev.ifT (by omega) ?_)
   have hx : mkN (ndL P ws (P.getD i [])) = ⟨-1, -1, decide (P.getD i [] ∈ ws)⟩ := by unfold mkN ndL; rw [if_pos hp, if_pos hp]
   rw [hx, wrap64_succ i (by omega)]
   exact ih (i + 1) _ (by omega) (by simp; omega)
  ·
   have hne := clo_pos hA hC hi (by omega)
   have hlen := List.length_pos_iff.2 hne
   have h12 := (wordL_iff.1 (hW _ hm)).2
   have hw1 : wrap64 (((B (P.getD i [])).size : Int) - 1) = ((P.getD i []).length - 1 : Nat) := by rw [size_B, wrap64_id (by omega) (by omega)]; omega
   rw [hw1]
   refine Ev.ifT (by omega) (Ev.ifT (by omega) (Ev.ifT (by rw [size_B]; omega) (Ev.ifT (by rw [size_B]; omega) ?_)))
   rw [extract_B, List.drop_zero, Int.toNat_natCast, Nat.sub_zero, ← List.dropLast_eq_take]
   refine Ev.bind (l2Place_ev P _ (by omega) (hC.2 _ hm hne)) (Ev.ifT (by omega) ?_)
   have hx : mkN (ndL P ws (P.getD i [])) = ⟨((bt (B (P.getD i [])) (((P.getD i []).length - 1 : Nat) : Int)) - 97) % 256, (placeL P (P.getD i []).dropLast : Int), decide (P.getD i [] ∈ ws)⟩ := by
    unfold mkN ndL
    rw [if_neg hne, if_neg hne, bt_B _ _ (by omega)]
    rfl
   rw [hx, wrap64_succ i (by omega)]
   exact ih (i + 1) _ (by omega) (by simp; omega)
theorem l2Of_ev {ws : List Txt} (h : OkW ws) : Ev (fun k => spec_l2Of.f k (ws.map B)) (trN (preL ws) ws) := by
 have h1 := h.pre
 have h2 := h.len
 have hn := l2Of_nodes (ws := ws) (asc_preL ws) (clo_preL ws) (fun p hp => preL_word h.word hp) (by omega) (by omega) (preL ws).length 0 [] (by omega) (by simp)
 rw [List.drop_zero, List.nil_append] at hn
 have e : (preL ws).map (fun p => mkN (ndL (preL ws) ws p)) = trN (preL ws) ws := by unfold trN nodesL; rw [List.map_map]; rfl
 rw [e] at hn
 exact l2Of_out ws h.len h.le _ (preL ws) hn ws.length 0 [[]] (by omega) rfl (by simp; omega) (by simp)
theorem rd_get (N : List S65) (i : Nat) (h : i < N.length) : rd_T65 N (i : Int) = N[i] := by
 unfold rd_T65
 rw [Int.toNat_natCast, getD_lt _ h]
theorem okW_setL {ws : List Txt} (h : ws.all wordL = true) (hl : (setL ws).length ≤ 40) : OkW (setL ws) := ⟨asc_setL ws, hl, fun w hw => List.all_eq_true.1 h w ((mem_setL ws w).1 hw)⟩
def IsTr (N : List S65) : Prop := ∃ ws, OkW ws ∧ N = trN (preL ws) ws
theorem IsTr.len {N : List S65} (h : IsTr N) : 1 ≤ N.length ∧ N.length ≤ 481 := by
 obtain ⟨ws, h, rfl⟩ := h
 rw [trN_length]
 exact ⟨(clo_zero (asc_preL ws) (clo_preL ws)).1, h.pre⟩
theorem l2Words_loop_ex (N : List S65) (hN : N.length ≤ 4294967296) : ∀ (d i : Nat) (acc : List Txt), i + d = N.length → acc.length ≤ i → (∀ w ∈ acc, w.length ≤ 13) →
  ∃ ws : List Txt, ws.length ≤ N.length ∧ (∀ w ∈ ws, w.length ≤ 13) ∧ Ev (fun k => spec_l2Words.l0 k (acc.map B) (i : Int) N) (ws.map B) := by
 intro d
 induction d with
 | zero => intro i acc h1 h2 h3; exact ⟨acc, by omega, h3, Ev.step (fun k => spec_l2Words.l0.eq_2 ..) (Ev.ifF (by omega) (Ev.now _))⟩
 | succ d ih =>
  intro i acc h1 h2 h3
  by_cases hf : (rd_T65 N (i : Int)).f2 = true
  ·
   obtain ⟨r, hr, he⟩ := l2Prefix_ex N i (i : Int) [] (by omega) (by omega) (by simp)
   obtain ⟨ws, w1, w2, w3⟩ := ih (i + 1) (acc ++ [r]) (by omega) (by simp; omega) (fun w hw => by
    rcases List.mem_append.1 hw with hw | hw
    ·
     exact h3 w hw
    ·
     rw [List.mem_singleton.1 hw]; exact hr)
   refine ⟨ws, w1, w2, Ev.step (fun k => spec_l2Words.l0.eq_2 ..) (Ev.ifT (by omega) (Ev.ifT (by omega) (Ev.ifT hf (Ev.bind (f := fun k t => if (acc.map B).length < 8796093022208 then spec_l2Words.l0 k (acc.map B ++ [t]) (wrap64 ((i : Int) + 1)) N else none) he (Ev.ifT (by simp; omega) ?_)))))⟩
   simpa only [wrap64_succ i (by omega), List.map_append, List.map_cons, List.map_nil] using w3
  ·
   obtain ⟨ws, w1, w2, w3⟩ := ih (i + 1) acc (by omega) (by omega) h3
   refine ⟨ws, w1, w2, Ev.step (fun k => spec_l2Words.l0.eq_2 ..) (Ev.ifT (by omega) (Ev.ifT (by omega) (Ev.ifF hf ?_)))⟩
   simpa only [wrap64_succ i (by omega)] using w3
theorem l2Words_ex (N : List S65) (hN : N.length ≤ 4294967296) : ∃ ws : List Txt, ws.length ≤ N.length ∧ (∀ w ∈ ws, w.length ≤ 13) ∧ Ev (fun k => spec_l2Words.f k N) (ws.map B) :=
 l2Words_loop_ex N hN N.length 0 [] (by omega) (by simp) (by simp)
theorem l2Words_loop {P : List Txt} (ws : List Txt) (hA : Asc P) (hC : Clo P) (hW : ∀ p ∈ P, wordL p = true) (hP : P.length ≤ 4294967296) : ∀ (d i : Nat) (acc : List Txt), i + d = P.length → acc.length ≤ i →
  Ev (fun k => spec_l2Words.l0 k (acc.map B) (i : Int) (trN P ws)) ((acc ++ (P.drop i).filter (fun p => decide (p ∈ ws))).map B) := by
 intro d
 induction d with
 | zero =>
  intro i acc h1 h2
  rw [List.drop_of_length_le (by omega)]
  exact Ev.step (fun k => spec_l2Words.l0.eq_2 ..) (Ev.ifF (by rw [trN_length]; omega) (by simpa using Ev.now _))
 | succ d ih =>
  intro i acc h1 h2
  have hi : i < P.length := by omega
  have hf : (rd_T65 (trN P ws) (i : Int)).f2 = decide (P.getD i [] ∈ ws) := by rw [rdN P ws i hi]; rfl
  rw [drop_cons_getD [] hi, List.filter_cons]
  by_cases hm : P.getD i [] ∈ ws
  ·
   rw [decide_eq_true hm] at hf
   rw [decide_eq_true hm, if_pos rfl]
   refine Ev.step (fun k => spec_l2Words.l0.eq_2 ..) (Ev.ifT (by rw [trN_length]; omega) (Ev.ifT (by omega) (Ev.ifT hf (Ev.bind (f := fun k t => if (acc.map B).length < 8796093022208 then spec_l2Words.l0 k (acc.map B ++ [t]) (wrap64 ((i : Int) + 1)) (trN P ws) else none) (l2Prefix_ev ws hA hC hW i hi) (Ev.ifT (by simp; omega) ?_)))))
   have := ih (i + 1) (acc ++ [P.getD i []]) (by omega) (by simp; omega)
   simpa only [wrap64_succ i (by omega), List.map_append, List.map_cons, List.map_nil, List.append_assoc, List.singleton_append] using this
  ·
   rw [decide_eq_false hm] at hf
   rw [decide_eq_false hm, if_neg Bool.false_ne_true]
   refine Ev.step (fun k => spec_l2Words.l0.eq_2 ..) (Ev.ifT (by rw [trN_length]; omega) (Ev.ifT (by omega) (Ev.ifF (by rw [hf]; exact Bool.false_ne_true) ?_)))
   simpa only [wrap64_succ i (by omega)] using ih (i + 1) acc (by omega) (by omega)
theorem l2Words_ev {ws : List Txt} (h : OkW ws) : Ev (fun k => spec_l2Words.f k (trN (preL ws) ws)) (ws.map B) := by
 have := l2Words_loop ws (asc_preL ws) (clo_preL ws) (fun p hp => preL_word h.word hp) (by have := h.pre; omega) (preL ws).length 0 [] (by omega) (by simp)
 rw [List.drop_zero, List.nil_append, filter_preL h.asc] at this
 exact this
theorem node_ne (a b : S65) : (!(a.f0 == b.f0) || (!(a.f1 == b.f1) || (!(a.f2 == b.f2)))) = decide (a ≠ b) := by
 obtain ⟨a0, a1, a2⟩ := a
 obtain ⟨b0, b1, b2⟩ := b
 rw [Bool.eq_iff_iff]
 simp only [Bool.or_eq_true, Bool.not_eq_true', beq_eq_false_iff_ne, decide_eq_true_eq, ne_eq, S65.mk.injEq]
 constructor
 ·
  rintro (h | h | h) ⟨e1, e2, e3⟩
  ·
   exact h e1
  ·
   exact h e2
  ·
   exact h e3
 ·
  intro h
  by_cases e1 : a0 = b0
  ·
   by_cases e2 : a1 = b1
   ·
    exact .inr (.inr fun e3 => h ⟨e1, e2, e3⟩)
   ·
    exact .inr (.inl e2)
  ·
   exact .inl e1
theorem l2Same_loop (M N : List S65) (hM : M.length ≤ 4611686018427387903) : ∀ (d i : Nat), i + d = M.length → i ≤ N.length → Ev (fun k => spec_l2Same.l0 k (i : Int) M N) (decide (M.drop i = N.drop i)) := by
 have fin : ∀ i : Nat, (i = M.length ∨ i = N.length) → i ≤ M.length → i ≤ N.length → Ev (fun k => spec_l2Same.j1 k (i : Int) false M N) (decide (M.drop i = N.drop i)) := by
  intro i h1 h2 h3
  refine Ev.step (fun k => spec_l2Same.j1.eq_2 ..) (Ev.ifF (by simp) ?_)
  have : ((M.length : Int) == (N.length : Int)) = decide (M.drop i = N.drop i) := by
   rw [Bool.eq_iff_iff, beq_iff_eq, decide_eq_true_eq]
   constructor
   ·
    intro e
    rw [List.drop_of_length_le (by omega), List.drop_of_length_le (by omega)]
   ·
    intro e
    have := congrArg List.length e
    rw [List.length_drop, List.length_drop] at this
    omega
  rw [this]
  exact Ev.now _
 intro d
 induction d with
 | zero =>
  intro i h1 h2
  exact Ev.step (fun k => spec_l2Same.l0.eq_2 ..) (Ev.ifF (by omega) (fin i (by omega) (by omega) h2))
 | succ d ih =>
  intro i h1 h2
  refine Ev.step (fun k => spec_l2Same.l0.eq_2 ..) (Ev.ifT (by omega) ?_)
  by_cases hi : i < N.length
  ·
   rw [decide_eq_true (show (i : Int) < (N.length : Int) by omega)]
   refine Ev.step (fun k => spec_l2Same.j1.eq_2 ..) (Ev.ifT rfl (Ev.ifT (by omega) (Ev.ifT (by omega) (Ev.ifT (by omega) ?_))))
   rw [node_ne, rd_get M i (by omega), rd_get N i hi, List.drop_eq_getElem_cons (show i < M.length by omega), List.drop_eq_getElem_cons hi]
   by_cases e : M[i] = N[i]
   ·
    refine Ev.ifF (by simp [e]) ?_
    rw [wrap64_succ i (by omega), show decide (M[i] :: M.drop (i + 1) = N[i] :: N.drop (i + 1)) = decide (M.drop (i + 1) = N.drop (i + 1)) from decide_eq_decide.2 ⟨fun h => (List.cons.inj h).2, fun h => by rw [e, h]⟩]
    exact ih (i + 1) (by omega) (by omega)
   ·
    refine Ev.ifT (by simp [e]) ?_
    rw [show decide (M[i] :: M.drop (i + 1) = N[i] :: N.drop (i + 1)) = false from decide_eq_false fun h => e (List.cons.inj h).1]
    exact Ev.now _
  ·
   rw [decide_eq_false (show ¬ (i : Int) < (N.length : Int) by omega)]
   exact fin i (by omega) (by omega) h2
theorem l2Same_ev (M N : List S65) (hM : M.length ≤ 4611686018427387903) : Ev (fun k => spec_l2Same.f k M N) (decide (M = N)) := by
 have := l2Same_loop M N hM M.length 0 (by omega) (by omega)
 rwa [List.drop_zero, List.drop_zero] at this
theorem l2Trie_ev (N : List S65) : ∃ b : Bool, (b = true ↔ IsTr N) ∧ Ev (fun k => spec_l2Trie.f k N) b := by
 unfold spec_l2Trie.f
 simp only [l1In_eq]
 by_cases hn : 1 ≤ (N.length : Int) ∧ (N.length : Int) ≤ 481
 ·
  rw [decide_eq_true hn]
  by_cases ht : IsTr N
  ·
   refine ⟨true, by simp [ht], Ev.some_bind (Ev.ifT rfl ?_)⟩
   obtain ⟨ws, h, rfl⟩ := ht
   refine Ev.bind (l2Words_ev h) (Ev.bind (l2Set_ev (b := 13) ws (by have := h.len; omega) (fun w hw => by have := h.le w hw; omega)) ?_)
   rw [if_pos (List.all_eq_true.2 h.word), setL_of_asc h.asc]
   refine Ev.ifT (by simpa using h.len) (Ev.bind (l2Of_ev h) (Ev.bind (l2Same_ev _ _ (by rw [trN_length]; have := h.pre; omega)) ?_))
   simpa using Ev.now true
  ·
   refine ⟨false, by simp [ht], Ev.some_bind (Ev.ifT rfl ?_)⟩
   obtain ⟨ws, w1, w2, w3⟩ := l2Words_ex N (by omega)
   refine Ev.bind w3 (Ev.bind (l2Set_ev ws (by omega) w2) ?_)
   by_cases ha : ws.all wordL = true
   ·
    rw [if_pos ha]
    by_cases hl : (setL ws).length ≤ 40
    ·
     have hok := okW_setL ha hl
     refine Ev.ifT (by simpa using hl) (Ev.bind (l2Of_ev hok) (Ev.bind (l2Same_ev _ _ (by rw [trN_length]; have := hok.pre; omega)) ?_))
     rw [show decide (trN (preL (setL ws)) (setL ws) = N) = false from decide_eq_false fun e => ht ⟨_, hok, e.symm⟩]
     exact Ev.now false
    ·
     exact Ev.ifF (by simpa using hl) (Ev.now false)
   ·
    rw [if_neg ha]
    exact Ev.ifF (by simp) (Ev.now false)
 ·
  rw [decide_eq_false hn]
  refine ⟨false, ?_, Ev.some_bind (Ev.ifF (by simp) (Ev.now false))⟩
  simp only [Bool.false_eq_true, false_iff]
  intro h
  have := h.len
  omega
theorem in_eq (a b c : Int) : impl_in.f a b c = some (decide (b ≤ a ∧ a ≤ c)) := by
 unfold impl_in.f
 by_cases h : b ≤ a
 ·
  rw [if_pos (by omega)]; simp [h]
 ·
  rw [if_neg (by omega)]; simp [h]
abbrev Nd := S65
theorem bytesLess_eq : ∀ (x y : Txt), Op.bytesLess x y = decide (x < y)
 | [], [] => by rw [decide_eq_false (txt_irrefl [])]; rfl
 | _ :: _, [] => by rw [decide_eq_false (List.not_lt_nil _)]; rfl
 | [], b :: y => by rw [decide_eq_true (List.nil_lt_cons b y)]; rfl
 | a :: x, b :: y => by
  rw [Op.bytesLess, bytesLess_eq x y, Bool.eq_iff_iff, decide_eq_true_eq, List.cons_lt_cons_iff]
  simp
theorem less_eq (x y : Txt) : cmp_Less_string.f (B x) (B y) = some (decide (x < y)) := by
 unfold cmp_Less_string.f cmp_isNaN_string.f
 rw [toList_B, toList_B, ← bytesLess_eq]
 simp
def Srt (ws : List Txt) : Prop := ∀ j, j + 1 < ws.length → ¬ ws.getD (j + 1) [] < ws.getD j []
theorem Srt.le {ws : List Txt} (h : Srt ws) (i : Nat) : ∀ d, i + d < ws.length → ¬ ws.getD (i + d) [] < ws.getD i []
 | 0, _ => txt_irrefl _
 | d + 1, hd => fun hlt => by
  have h1 := h.le i d (by omega)
  have h2 := h (i + d) (by omega)
  exact h1 (List.lt_of_le_of_lt (List.not_lt.1 h2) hlt)
theorem srt_asc {ws : List Txt} (h : Asc ws) : Srt ws := fun j hj => txt_asymm (asc_get h hj (Nat.lt_succ_self j))
theorem half_eq (i j : Nat) (h : i + j ≤ 4611686018427387903) : wrap64 ((IntKind.u64.wrap (wrap64 ((i : Int) + (j : Int)))) / 2) = (((i + j) / 2 : Nat) : Int) := by
 have e1 : wrap64 ((i : Int) + (j : Int)) = ((i + j : Nat) : Int) := by rw [wrap64_id (by omega) (by omega)]; omega
 have e2 : IntKind.u64.wrap (((i + j : Nat) : Int)) = ((i + j : Nat) : Int) := by
  simp [IntKind.wrap, IntKind.bits, IntKind.signed]; omega
 rw [e1, e2, wrap64_id (by omega) (by omega)]
 omega
theorem search_loop (ws : List Txt) (p : Txt) (hl : ws.length ≤ 1000000000) (hs : Srt ws) : ∀ (d i j : Nat), i + d = j → j ≤ ws.length → (∀ m, m < i → ws.getD m [] < p) → (∀ m, j ≤ m → m < ws.length → ¬ ws.getD m [] < p) →
  ∃ q : Nat, q ≤ ws.length ∧ (∀ m, m < q → ws.getD m [] < p) ∧ (∀ m, q ≤ m → m < ws.length → ¬ ws.getD m [] < p) ∧ Ev (fun k => slices_BinarySearch_string_string.l0 k (ws.map B) (B p) (ws.length : Int) (i : Int) (j : Int)) ((q : Int), decide (p ∈ ws)) := by
 intro d
 induction d using Nat.strongRecOn with
 | _ d ih =>
  intro i j h1 h2 h3 h4
  by_cases hij : i < j
  ·
   have hh : (i + j) / 2 < ws.length := by omega
   by_cases hlt : ws.getD ((i + j) / 2) [] < p
   ·
    obtain ⟨q, q1, q2, q3, q4⟩ := ih (j - ((i + j) / 2 + 1)) (by omega) ((i + j) / 2 + 1) j (by omega) h2 (fun m hm => by
     by_cases e : m = (i + j) / 2
     ·
      rw [e]; exact hlt
     ·
      by_cases hmi : m < i
      ·
       exact h3 m hmi
      ·
       have hle := hs.le m ((i + j) / 2 - m) (by omega)
       rw [show m + ((i + j) / 2 - m) = (i + j) / 2 from by omega] at hle
       exact List.lt_of_le_of_lt (List.not_lt.1 hle) hlt) h4
    refine ⟨q, q1, q2, q3, Ev.step (fun k => slices_BinarySearch_string_string.l0.eq_2 ..) (Ev.ifT (by omega) ?_)⟩
    rw [half_eq i j (by omega)]
    refine Ev.ifT (by omega) (Ev.ifT (by rw [List.length_map]; omega) ?_)
    rw [rdB ws _ hh, less_eq, decide_eq_true hlt]
    refine Ev.some_bind (Ev.ifT rfl ?_)
    rw [wrap64_succ _ (by omega)]
    exact q4
   ·
    obtain ⟨q, q1, q2, q3, q4⟩ := ih ((i + j) / 2 - i) (by omega) i ((i + j) / 2) (by omega) (by omega) h3 (fun m hm hml => by
     have hle := hs.le ((i + j) / 2) (m - (i + j) / 2) (by omega)
     rw [show (i + j) / 2 + (m - (i + j) / 2) = m from by omega] at hle
     exact fun hp => hlt (List.lt_of_le_of_lt (List.not_lt.1 hle) hp))
    refine ⟨q, q1, q2, q3, Ev.step (fun k => slices_BinarySearch_string_string.l0.eq_2 ..) (Ev.ifT (by omega) ?_)⟩
    rw [half_eq i j (by omega)]
    refine Ev.ifT (by omega) (Ev.ifT (by rw [List.length_map]; omega) ?_)
    rw [rdB ws _ hh, less_eq, decide_eq_false hlt]
    exact Ev.some_bind (Ev.ifF Bool.false_ne_true q4)
  ·
   obtain rfl : i = j := by omega
   refine ⟨i, h2, h3, h4, Ev.step (fun k => slices_BinarySearch_string_string.l0.eq_2 ..) (Ev.ifF (by omega) ?_)⟩
   by_cases hn : i < ws.length
   ·
    refine Ev.ifT (by omega) (Ev.ifT (by omega) (Ev.ifT (by rw [List.length_map]; omega) ?_))
    rw [rdB ws i hn, toList_B, toList_B]
    by_cases e : ws.getD i [] = p
    ·
     rw [decide_eq_true (show p ∈ ws from e ▸ getD_mem hn)]
     exact Ev.ifT e (Ev.now _)
    ·
     have hm : ¬ p ∈ ws := fun hp => by
      obtain ⟨z1, z2⟩ := placeL_mem hp
      have hz : i ≤ placeL ws p := by
       by_cases hzi : placeL ws p < i
       ·
        have := h3 _ hzi; rw [z2] at this; exact absurd this (txt_irrefl _)
       ·
        omega
      have hle := hs.le i (placeL ws p - i) (by omega)
      rw [show i + (placeL ws p - i) = placeL ws p from by omega, z2] at hle
      exact e (txt_tri (h4 i (Nat.le_refl _) hn) hle)
     rw [decide_eq_false hm]
     refine Ev.ifF e ?_
     unfold slices_isNaN_string.f
     exact Ev.some_bind (Ev.ifF (by simp) (Ev.now _))
   ·
    have hm : ¬ p ∈ ws := fun hp => by
     obtain ⟨z1, z2⟩ := placeL_mem hp
     have := h3 _ (show placeL ws p < i by omega)
     rw [z2] at this
     exact txt_irrefl _ this
    rw [decide_eq_false hm]
    exact Ev.ifF (by omega) (Ev.now _)
theorem search_ev (ws : List Txt) (p : Txt) (hl : ws.length ≤ 1000000000) (hs : Srt ws) : ∃ q : Nat, q ≤ ws.length ∧ (∀ m, m < q → ws.getD m [] < p) ∧ (∀ m, q ≤ m → m < ws.length → ¬ ws.getD m [] < p) ∧ Ev (fun k => slices_BinarySearch_string_string.f k (ws.map B) (B p)) ((q : Int), decide (p ∈ ws)) := by
 unfold slices_BinarySearch_string_string.f
 have := search_loop ws p hl hs ws.length 0 ws.length (by omega) (Nat.le_refl _) (fun m hm => absurd hm (Nat.not_lt_zero _)) (fun m h1 h2 => absurd h2 (by omega))
 rw [List.length_map]
 exact this
def prefGo : List Nd → List Txt → Option (List Txt)
 | [], acc => some acc
 | n :: r, acc => if 0 ≤ n.f1 ∧ n.f1 < (acc.length : Int) ∧ 0 ≤ n.f0 ∧ n.f0 ≤ 25 then prefGo r (acc ++ [acc.getD n.f1.toNat [] ++ [UInt8.ofNat (97 + n.f0.toNat)]]) else none
def prefR : Option (List Txt) → List ByteArray × Bool
 | some ps => (ps.map B, true)
 | none => ([], false)
theorem letter_eq (n : Int) (h0 : 0 ≤ n) (h1 : n ≤ 25) : impl_letter.f n = some (B [UInt8.ofNat (97 + n.toNat)]) := by
 unfold impl_letter.f
 rw [strOfNums_B]
 congr 3
 rw [wrap64_id (by omega) (by omega)]
 congr 1
 omega
theorem getD_le {acc : List Txt} {b : Nat} (h : ∀ p ∈ acc, p.length ≤ b) (n : Nat) : (acc.getD n []).length ≤ b := by
 by_cases hn : n < acc.length
 ·
  exact h _ (getD_mem hn)
 ·
  rw [List.getD_eq_getElem?_getD, List.getElem?_eq_none (by omega)]; simp
theorem pref_loop (N' : List Nd) (hN : N'.length ≤ 1000000) : ∀ (d i : Nat) (acc : List Txt), i + d = N'.length → acc.length = i + 1 → (∀ p ∈ acc, p.length ≤ i) →
  Ev (fun k => impl_Trie_prefixes.l0 k (acc.map B) N' (N'.length : Int) (i : Int)) (prefR (prefGo (N'.drop i) acc)) := by
 intro d
 induction d with
 | zero =>
  intro i acc h1 h2 h3
  rw [List.drop_of_length_le (by omega)]
  exact Ev.step (fun k => impl_Trie_prefixes.l0.eq_2 ..) (Ev.ifF (by omega) (Ev.now _))
 | succ d ih =>
  intro i acc h1 h2 h3
  have hi : i < N'.length := by omega
  rw [List.drop_eq_getElem_cons hi]
  refine Ev.step (fun k => impl_Trie_prefixes.l0.eq_2 ..) (Ev.ifT (by omega) (Ev.ifT (by omega) (Ev.ifT (by omega) ?_)))
  rw [rd_get N' i hi, in_eq]
  unfold prefGo
  by_cases ha : 0 ≤ N'[i].f1 ∧ N'[i].f1 ≤ (i : Int)
  ·
   rw [decide_eq_true ha]
   refine Ev.some_bind (Ev.ifT rfl ?_)
   rw [in_eq]
   by_cases hb : 0 ≤ N'[i].f0 ∧ N'[i].f0 ≤ 25
   ·
    rw [decide_eq_true hb, if_pos ⟨ha.1, by omega, hb.1, hb.2⟩]
    refine Ev.some_bind (Ev.ifT rfl (Ev.ifT ha.1 (Ev.ifT (by rw [List.length_map]; omega) ?_)))
    rw [letter_eq _ hb.1 hb.2]
    refine Ev.some_bind ?_
    obtain ⟨m, hm⟩ : ∃ m : Nat, N'[i].f1 = (m : Int) := ⟨N'[i].f1.toNat, by omega⟩
    have hml : m < acc.length := by omega
    have hmb := getD_le h3 m
    rw [hm, rdB acc m hml, Int.toNat_natCast]
    refine Ev.ifT (by rw [size_B, size_B, List.length_singleton]; omega) (Ev.ifT (by rw [List.length_map]; omega) ?_)
    rw [append_B, wrap64_succ i (by omega)]
    have := ih (i + 1) (acc ++ [acc.getD m [] ++ [UInt8.ofNat (97 + N'[i].f0.toNat)]]) (by omega) (by simp; omega) (fun p hp => by
     rcases List.mem_append.1 hp with hp | hp
     ·
      have := h3 p hp; omega
     ·
      rw [List.mem_singleton.1 hp]; simp; simpa using hmb)
    rw [List.map_append, List.map_singleton] at this
    exact this
   ·
    rw [decide_eq_false hb, if_neg (fun h => hb h.2.2)]
    exact Ev.some_bind (Ev.ifF Bool.false_ne_true (Ev.now _))
  ·
   rw [decide_eq_false ha, if_neg (fun h => ha ⟨h.1, by omega⟩)]
   exact Ev.some_bind (Ev.ifF Bool.false_ne_true (Ev.now _))
def prefN (N : List Nd) : Option (List Txt) := if 1 ≤ N.length ∧ N.length ≤ 481 then prefGo (N.drop 1) [[]] else none
theorem prefixes_ev (N : List Nd) : Ev (fun k => impl_Trie_prefixes.f k N) (prefR (prefN N)) := by
 unfold impl_Trie_prefixes.f prefN
 simp only [in_eq]
 by_cases h : 1 ≤ N.length ∧ N.length ≤ 481
 ·
  rw [if_pos h, decide_eq_true (show (1 : Int) ≤ (N.length : Int) ∧ (N.length : Int) ≤ 481 by omega)]
  refine Ev.some_bind (Ev.ifT rfl (Ev.ifT (by omega) (Ev.some_bind ?_)))
  exact pref_loop (N.drop 1) (by rw [List.length_drop]; omega) (N.drop 1).length 0 [[]] (by omega) rfl (by simp)
 ·
  rw [if_neg h, decide_eq_false (show ¬ ((1 : Int) ≤ (N.length : Int) ∧ (N.length : Int) ≤ 481) by omega)]
  exact Ev.some_bind (Ev.ifF Bool.false_ne_true (Ev.now _))
theorem letterB_of (m : Nat) (h : m ≤ 25) : letterB (UInt8.ofNat (97 + m)) = true := by
 have : (UInt8.ofNat (97 + m)).toNat = 97 + m := by simp; omega
 simp only [letterB, this, decide_eq_true_eq]; omega
theorem prefGo_ok : ∀ (r : List Nd) (acc ps : List Txt), prefGo r acc = some ps → (∀ p ∈ acc, ∀ c ∈ p, letterB c = true) → (∀ p ∈ ps, ∀ c ∈ p, letterB c = true) ∧ ps.length = acc.length + r.length
 | [], acc, ps, h, ha => by
  obtain rfl := Option.some.inj h
  exact ⟨ha, rfl⟩
 | n :: r, acc, ps, h, ha => by
  unfold prefGo at h
  by_cases hc : 0 ≤ n.f1 ∧ n.f1 < (acc.length : Int) ∧ 0 ≤ n.f0 ∧ n.f0 ≤ 25
  ·
   rw [if_pos hc] at h
   obtain ⟨h1, h2⟩ := prefGo_ok r _ ps h (fun p hp c hcp => by
    rcases List.mem_append.1 hp with hp | hp
    ·
     exact ha p hp c hcp
    ·
     rw [List.mem_singleton.1 hp] at hcp
     rcases List.mem_append.1 hcp with hcp | hcp
     ·
      exact ha _ (getD_mem (by omega)) c hcp
     ·
      rw [List.mem_singleton.1 hcp]; exact letterB_of _ (by omega))
   exact ⟨h1, by rw [h2]; simp; omega⟩
  ·
   rw [if_neg hc] at h; cases h
theorem letter_last {p : Txt} (hw : wordL p = true) (h : p ≠ []) : UInt8.ofNat (97 + (ltrOf p).toNat) = p.getD (p.length - 1) 0 := by
 obtain ⟨h1, h2, h3⟩ := ltrOf_bd hw h
 have h4 := letter_bd ((wordL_iff.1 hw).1 _ (getLast_mem h))
 have e : 97 + (ltrOf p).toNat = (p.getD (p.length - 1) 0).toNat := by omega
 rw [e]; simp
theorem trN_get {P ws : List Txt} (i : Nat) (h : i < (trN P ws).length) : (trN P ws)[i] = mkN (ndL P ws (P.getD i [])) := by
 have h2 : i < P.length := by rwa [trN_length] at h
 rw [← rdN P ws i h2, rd_get _ i h]
theorem prefGo_tr {P : List Txt} (ws : List Txt) (hA : Asc P) (hC : Clo P) (hW : ∀ p ∈ P, wordL p = true) : ∀ (d i : Nat), i + d = P.length → 0 < i → prefGo ((trN P ws).drop i) (P.take i) = some P := by
 intro d
 induction d with
 | zero =>
  intro i h1 h2
  rw [List.drop_of_length_le (by rw [trN_length]; omega), List.take_of_length_le (by omega)]
  rfl
 | succ d ih =>
  intro i h1 h2
  have hi : i < P.length := by omega
  have hit : i < (trN P ws).length := by rw [trN_length]; exact hi
  have hne := clo_pos hA hC hi h2
  have hm := getD_mem hi
  obtain ⟨j1, j2⟩ := clo_parent hA hC hi h2
  obtain ⟨_, b1, b2⟩ := ltrOf_bd (hW _ hm) hne
  rw [List.drop_eq_getElem_cons hit, trN_get i hit]
  have hx : mkN (ndL P ws (P.getD i [])) = ⟨ltrOf (P.getD i []), (placeL P (P.getD i []).dropLast : Int), decide (P.getD i [] ∈ ws)⟩ := by unfold mkN ndL; rw [if_neg hne, if_neg hne]
  rw [hx]
  unfold prefGo
  have hl : (P.take i).length = i := by rw [List.length_take]; omega
  rw [if_pos ⟨Int.natCast_nonneg _, by show ((placeL P (P.getD i []).dropLast : Nat) : Int) < ((P.take i).length : Int); rw [hl]; exact Int.ofNat_lt.2 j1, b1, b2⟩]
  simp only [Int.toNat_natCast]
  have hg : (P.take i).getD (placeL P (P.getD i []).dropLast) [] = (P.getD i []).dropLast := by
   rw [getD_lt [] (by rw [hl]; exact j1), List.getElem_take, ← getD_lt [] (by omega), j2]
  rw [hg, letter_last (hW _ hm) hne, dropLast_getD _ hne, ← take_succ_getD [] hi]
  exact ih (i + 1) (by omega) (by omega)
theorem prefN_tr {ws : List Txt} (h : OkW ws) : prefN (trN (preL ws) ws) = some (preL ws) := by
 obtain ⟨z1, z2⟩ := clo_zero (asc_preL ws) (clo_preL ws)
 unfold prefN
 rw [trN_length, if_pos ⟨z1, h.pre⟩]
 have := prefGo_tr ws (asc_preL ws) (clo_preL ws) (fun p hp => preL_word h.word hp) ((preL ws).length - 1) 1 (by omega) (by omega)
 rw [show (preL ws).take 1 = [[]] from by rw [take_succ_getD [] z1, z2]; rfl] at this
 exact this
theorem prefixes_tr {ws : List Txt} (h : OkW ws) : Ev (fun k => impl_Trie_prefixes.f k (trN (preL ws) ws)) ((preL ws).map B, true) := by
 have := prefixes_ev (trN (preL ws) ws)
 rw [prefN_tr h] at this
 exact this
theorem trieOf_in (ws0 xs : List Txt) (w : Txt) (hw : w.length ≤ 12) (i : Nat) (hi : i ≤ 100000) (r : List Nd) (acc2 : List Txt) (hr : Ev (fun k => impl_trieOf.l0 k (ws0.map B) (acc2.map B) (xs.map B) (xs.length : Int) ((i + 1 : Nat) : Int)) r) :
  ∀ (d n : Nat) (acc : List Txt), n + d = w.length → acc ++ begF w (n + 1) d = acc2 → acc2.length ≤ 1000000 → Ev (fun k => impl_trieOf.l1 k (ws0.map B) (acc.map B) (B w) (xs.map B) (xs.length : Int) (i : Int) (w.length : Int) (n : Int)) r := by
 intro d
 induction d with
 | zero =>
  intro n acc h1 h2 h3
  rw [begF, List.append_nil] at h2
  subst h2
  refine Ev.step (fun k => impl_trieOf.l1.eq_2 ..) (Ev.ifF (by omega) ?_)
  rw [wrap64_succ i (by omega)]
  exact hr
 | succ d ih =>
  intro n acc h1 h2 h3
  have hl : acc.length ≤ 1000000 := by rw [← h2, List.length_append] at h3; omega
  refine Ev.step (fun k => impl_trieOf.l1.eq_2 ..) (Ev.ifT (by omega) ?_)
  rw [wrap64_succ n (by omega)]
  refine Ev.ifT (by omega) (Ev.ifT (by rw [size_B]; omega) (Ev.ifT (by rw [List.length_map]; omega) ?_))
  rw [extract_B, List.drop_zero, Int.toNat_natCast, Nat.sub_zero]
  have := ih (n + 1) (acc ++ [w.take (n + 1)]) (by omega) (by rw [← h2, begF]; simp) h3
  rw [List.map_append, List.map_singleton] at this
  exact this
theorem trieOf_out (ws0 xs : List Txt) (hl : xs.length ≤ 1000) (hw : ∀ w ∈ xs, w.length ≤ 12) (r : List Nd) (hr : Ev (fun k => impl_trieOf.l2 k (ws0.map B) ((preL xs).map B) ((preL xs).length : Int) 0 []) r) :
  ∀ (d i : Nat) (acc : List Txt), i + d = xs.length → acc ++ (xs.drop i).flatMap begs = [] :: xs.flatMap begs → Ev (fun k => impl_trieOf.l0 k (ws0.map B) (acc.map B) (xs.map B) (xs.length : Int) (i : Int)) r := by
 have hall := flatMap_begs_length xs hw
 have hpl := preL_length hw
 intro d
 induction d with
 | zero =>
  intro i acc h1 h2
  rw [List.drop_of_length_le (by omega), List.flatMap_nil, List.append_nil] at h2
  subst h2
  refine Ev.step (fun k => impl_trieOf.l0.eq_2 ..) (Ev.ifF (by omega) ?_)
  rw [set_eq _ (by rw [List.length_cons]; omega)]
  refine Ev.some_bind (Ev.ifT ?_ ?_)
  ·
   unfold SM.okL
   rw [Bool.and_eq_true, List.all_eq_true, decide_eq_true_eq]
   refine ⟨fun x hx => ?_, by rw [List.length_map]; show (preL xs).length ≤ _; omega⟩
   obtain ⟨y, hy, rfl⟩ := List.mem_map.1 hx
   have hy' : y ∈ preL xs := hy
   have : y.length ≤ 12 := by
    rcases mem_preL.1 hy' with rfl | ⟨w, hw', _, hp⟩
    ·
     simp
    ·
     exact Nat.le_trans hp.length_le (hw w hw')
   rw [decide_eq_true_eq, size_B]; omega
  ·
   rw [List.length_map]
   exact hr
 | succ d ih =>
  intro i acc h1 h2
  have hi : i < xs.length := by omega
  rw [drop_cons_getD [] hi, List.flatMap_cons, ← List.append_assoc] at h2
  refine Ev.step (fun k => impl_trieOf.l0.eq_2 ..) (Ev.ifT (by omega) (Ev.ifT (by omega) (Ev.ifT (by rw [List.length_map]; omega) ?_)))
  rw [rdB xs i hi, size_B]
  have hlen : (acc ++ begs (xs.getD i [])).length ≤ 1000000 := by
   have := congrArg List.length h2
   rw [List.length_append, List.length_cons] at this
   omega
  exact trieOf_in ws0 xs _ (hw _ (getD_mem hi)) i (by omega) r _ (ih (i + 1) _ (by omega) h2) (xs.getD i []).length 0 acc (by omega) (by rw [begs_begF]) hlen
theorem at_take {P : List Txt} (hA : Asc P) (q : Txt) (j : Nat) (hj : j < P.length) (hq : P.getD j [] = q) : ∀ n, n ≤ P.length → j < n → SM.at_ (List.take n (P.map B)) (B q) = (j : Int) := by
 intro n
 induction n with
 | zero => intro _ h; omega
 | succ n ih =>
  intro h1 h2
  have hn : n < P.length := by omega
  rw [← List.map_take, take_succ_getD [] hn, List.map_append, List.map_singleton]
  unfold SM.at_
  rw [List.reverse_append, List.reverse_singleton, List.singleton_append, SM.atR, data_B, data_B]
  by_cases e : P.getD n [] = q
  ·
   have : n = j := asc_inj hA hn hj (e.trans hq.symm)
   rw [if_pos e, List.length_reverse, List.length_map, List.length_take]; omega
  ·
   have hjn : j < n := by
    rcases Nat.lt_or_ge j n with h | h
    ·
     exact h
    ·
     have : j = n := by omega
     subst this; exact absurd hq e
   rw [if_neg e, List.map_take]
   exact ih (by omega) hjn
theorem trieOf_nodes {ws P : List Txt} (hs : Srt ws) (hA : Asc P) (hC : Clo P) (hW : ∀ p ∈ P, wordL p = true) (hP : P.length ≤ 100000) (hl : ws.length ≤ 100000) : ∀ (d i : Nat) (acc : List Nd), i + d = P.length → acc.length ≤ i →
  Ev (fun k => impl_trieOf.l2 k (ws.map B) (P.map B) (P.length : Int) (i : Int) acc) (acc ++ ((P.drop i).map fun p => mkN (ndL P ws p))) := by
 intro d
 induction d with
 | zero =>
  intro i acc h1 h2
  rw [List.drop_of_length_le (by omega), List.map_nil, List.append_nil]
  exact Ev.step (fun k => impl_trieOf.l2.eq_2 ..) (Ev.ifF (by omega) (Ev.now _))
 | succ d ih =>
  intro i acc h1 h2
  have hi : i < P.length := by omega
  have hm := getD_mem hi
  rw [drop_cons_getD [] hi, List.map_cons]
  refine Ev.step (fun k => impl_trieOf.l2.eq_2 ..) (Ev.ifT (by omega) (Ev.ifT (by omega) (Ev.ifT (by rw [List.length_map]; omega) ?_)))
  rw [rdB P i hi]
  obtain ⟨q, _, _, _, hq⟩ := search_ev ws (P.getD i []) (by omega) hs
  refine Ev.bind hq ?_
  have hcons : ∀ x : Nd, acc ++ (x :: (P.drop (i + 1)).map fun p => mkN (ndL P ws p)) = (acc ++ [x]) ++ (P.drop (i + 1)).map fun p => mkN (ndL P ws p) := fun x => by simp
  rw [hcons, toList_B]
  by_cases hp : P.getD i [] = []
  ·
   refine Ev.ifT hp (Ev.ifT (by omega) ?_)
   have hx : mkN (ndL P ws (P.getD i [])) = ⟨-1, -1, decide (P.getD i [] ∈ ws)⟩ := by unfold mkN ndL; rw [if_pos hp, if_pos hp]
   rw [hx, wrap64_succ i (by omega)]
   exact ih (i + 1) _ (by omega) (by simp; omega)
  ·
   have h0 : 0 < i := by
    rcases Nat.eq_zero_or_pos i with e | e
    ·
     rw [e, (clo_zero hA hC).2] at hp; exact absurd rfl hp
    ·
     exact e
   have hlen := List.length_pos_iff.2 hp
   have h12 := (wordL_iff.1 (hW _ hm)).2
   obtain ⟨j1, j2⟩ := clo_parent hA hC hi h0
   have hw1 : wrap64 (((B (P.getD i [])).size : Int) - 1) = ((P.getD i []).length - 1 : Nat) := by rw [size_B, wrap64_id (by omega) (by omega)]; omega
   rw [hw1]
   refine Ev.ifF hp (Ev.ifT (by omega) (Ev.ifT (by rw [size_B]; omega) (Ev.ifT (by rw [size_B]; omega) (Ev.ifT (by omega) ?_))))
   rw [extract_B, List.drop_zero, Int.toNat_natCast, Int.toNat_natCast, Nat.sub_zero, ← List.dropLast_eq_take, at_take hA _ _ (by omega) j2 (i + 1) (by omega) (by omega)]
   have hx : mkN (ndL P ws (P.getD i [])) = ⟨((bt (B (P.getD i [])) (((P.getD i []).length - 1 : Nat) : Int)) - 97) % 256, (placeL P (P.getD i []).dropLast : Int), decide (P.getD i [] ∈ ws)⟩ := by
    unfold mkN ndL
    rw [if_neg hp, if_neg hp, bt_B _ _ (by omega)]
    rfl
   rw [hx, wrap64_succ i (by omega)]
   exact ih (i + 1) _ (by omega) (by simp; omega)
theorem trieOf_srt {ws : List Txt} (hs : Srt ws) (hw : ∀ w ∈ ws, wordL w = true) (hl : ws.length ≤ 1000) : Ev (fun k => impl_trieOf.f k (ws.map B)) (trN (preL ws) ws) := by
 have hle : ∀ w ∈ ws, w.length ≤ 12 := fun w h => (wordL_iff.1 (hw w h)).2
 have hpl := preL_length hle
 have hn := trieOf_nodes hs (asc_preL ws) (clo_preL ws) (fun p hp => preL_word hw hp) (by omega) (by omega) (preL ws).length 0 [] (by omega) (by simp)
 rw [List.drop_zero, List.nil_append] at hn
 have e : (preL ws).map (fun p => mkN (ndL (preL ws) ws p)) = trN (preL ws) ws := by unfold trN nodesL; rw [List.map_map]; rfl
 rw [e] at hn
 unfold impl_trieOf.f
 rw [List.length_map]
 exact trieOf_out ws ws hl hle _ hn ws.length 0 [[]] (by omega) rfl
theorem trieOf_ev {ws : List Txt} (h : OkW ws) : Ev (fun k => impl_trieOf.f k (ws.map B)) (trN (preL ws) ws) := trieOf_srt (srt_asc h.asc) h.word (by have := h.len; omega)
theorem trN_set {ws : List Txt} : trN (preL ws) ws = trN (preL (setL ws)) (setL ws) := by
 have e : preL (setL ws) = preL ws := preL_congr fun w => mem_setL ws w
 rw [e]
 unfold trN nodesL
 rw [List.map_map, List.map_map]
 refine List.map_congr_left fun p _ => ?_
 show mkN (ndL (preL ws) ws p) = mkN (ndL (preL ws) (setL ws) p)
 unfold ndL
 rw [show decide (p ∈ ws) = decide (p ∈ setL ws) from decide_eq_decide.2 (mem_setL ws p).symm]
def wordsGo : List Nd → List Txt → List Txt
 | n :: r, p :: ps => if n.f2 = true then p :: wordsGo r ps else wordsGo r ps
 | _, _ => []
theorem wordsGo_mem : ∀ (N : List Nd) (ps : List Txt) (w : Txt), w ∈ wordsGo N ps → w ∈ ps
 | n :: r, p :: ps, w, h => by
  unfold wordsGo at h
  by_cases hf : n.f2 = true
  ·
   rw [if_pos hf] at h
   rcases List.mem_cons.1 h with e | h
   ·
    rw [e]; exact List.mem_cons_self
   ·
    exact List.mem_cons_of_mem _ (wordsGo_mem r ps w h)
  ·
   rw [if_neg hf] at h
   exact List.mem_cons_of_mem _ (wordsGo_mem r ps w h)
 | [], _, _, h => by simp [wordsGo] at h
 | _ :: _, [], _, h => by simp [wordsGo] at h
theorem wordsGo_len : ∀ (N : List Nd) (ps : List Txt), (wordsGo N ps).length ≤ N.length
 | n :: r, p :: ps => by
  have := wordsGo_len r ps
  unfold wordsGo
  by_cases hf : n.f2 = true
  ·
   rw [if_pos hf, List.length_cons, List.length_cons]; omega
  ·
   rw [if_neg hf, List.length_cons]; omega
 | [], _ => by simp [wordsGo]
 | _ :: _, [] => by simp [wordsGo]
theorem wordsGo_tr (P ws : List Txt) : ∀ Q : List Txt, wordsGo (Q.map fun p => mkN (ndL P ws p)) Q = Q.filter fun p => decide (p ∈ ws)
 | [] => rfl
 | q :: Q => by
  rw [List.map_cons, wordsGo, wordsGo_tr P ws Q, List.filter_cons]
  rfl
theorem words_loop (N : List Nd) (ps : List Txt) (hN : N.length ≤ 1000000) (hp : ps.length = N.length) : ∀ (d i : Nat) (acc : List Txt), i + d = N.length → acc.length ≤ i →
  Ev (fun k => impl_Trie_words.l0 k (ps.map B) (acc.map B) N (N.length : Int) (i : Int)) ((acc ++ wordsGo (N.drop i) (ps.drop i)).map B) := by
 intro d
 induction d with
 | zero =>
  intro i acc h1 h2
  rw [List.drop_of_length_le (by omega)]
  exact Ev.step (fun k => impl_Trie_words.l0.eq_2 ..) (Ev.ifF (by omega) (by simpa [wordsGo] using Ev.now _))
 | succ d ih =>
  intro i acc h1 h2
  have hi : i < N.length := by omega
  rw [List.drop_eq_getElem_cons hi, drop_cons_getD [] (show i < ps.length by omega), wordsGo]
  refine Ev.step (fun k => impl_Trie_words.l0.eq_2 ..) (Ev.ifT (by omega) (Ev.ifT (by omega) (Ev.ifT (by omega) ?_)))
  rw [rd_get N i hi]
  by_cases hf : N[i].f2 = true
  ·
   rw [if_pos hf]
   refine Ev.ifT hf (Ev.ifT (by rw [List.length_map]; omega) (Ev.ifT (by rw [List.length_map]; omega) ?_))
   rw [rdB ps i (by omega), wrap64_succ i (by omega)]
   have := ih (i + 1) (acc ++ [ps.getD i []]) (by omega) (by simp; omega)
   rw [List.map_append (l₁ := acc), List.map_singleton, List.append_assoc] at this
   exact this
  ·
   rw [if_neg hf]
   refine Ev.ifF hf ?_
   rw [wrap64_succ i (by omega)]
   exact ih (i + 1) acc (by omega) (by omega)
theorem words_of {N : List Nd} {ps : List Txt} (h : prefN N = some ps) : N.length ≤ 481 ∧ ps.length = N.length ∧ (∀ p ∈ ps, ∀ c ∈ p, letterB c = true) ∧ Ev (fun k => impl_Trie_words.f k N) ((wordsGo N ps).map B) := by
 have hp := prefixes_ev N
 rw [h] at hp
 unfold prefN at h
 by_cases hn : 1 ≤ N.length ∧ N.length ≤ 481
 ·
  rw [if_pos hn] at h
  obtain ⟨h1, h2⟩ := prefGo_ok _ _ _ h (by simp)
  rw [List.length_drop, List.length_singleton] at h2
  refine ⟨hn.2, by omega, h1, ?_⟩
  unfold impl_Trie_words.f
  refine Ev.bind hp ?_
  exact words_loop N ps (by omega) (by omega) N.length 0 [] (by omega) (by simp)
 ·
  rw [if_neg hn] at h; cases h
theorem words_ev {ws : List Txt} (h : OkW ws) : Ev (fun k => impl_Trie_words.f k (trN (preL ws) ws)) (ws.map B) := by
 obtain ⟨_, _, _, h4⟩ := words_of (prefN_tr h)
 have e : wordsGo (trN (preL ws) ws) (preL ws) = ws := by
  have : trN (preL ws) ws = (preL ws).map fun p => mkN (ndL (preL ws) ws p) := by unfold trN nodesL; rw [List.map_map]; rfl
  rw [this, wordsGo_tr, filter_preL h.asc]
 rwa [e] at h4
theorem isSorted_loop (ws : List Txt) (hl : ws.length ≤ 4611686018427387903) : ∀ (n : Nat), n < ws.length → ∃ b : Bool, (b = true ↔ ∀ j, j < n → ¬ ws.getD (j + 1) [] < ws.getD j []) ∧ Ev (fun k => slices_IsSorted_string_string.l0 k (ws.map B) (n : Int)) b := by
 intro n
 induction n with
 | zero =>
  intro _
  exact ⟨true, by simp, Ev.step (fun k => slices_IsSorted_string_string.l0.eq_2 ..) (Ev.ifF (by simp) (Ev.now _))⟩
 | succ n ih =>
  intro hn
  have hw : wrap64 (((n + 1 : Nat) : Int) - 1) = (n : Int) := by rw [wrap64_id (by omega) (by omega)]; omega
  by_cases hlt : ws.getD (n + 1) [] < ws.getD n []
  ·
   refine ⟨false, ?_, Ev.step (fun k => slices_IsSorted_string_string.l0.eq_2 ..) (Ev.ifT (by omega) (Ev.ifT (by omega) (Ev.ifT (by rw [List.length_map]; omega) (Ev.ifT (by rw [hw]; omega) (Ev.ifT (by rw [hw, List.length_map]; omega) ?_)))))⟩
   ·
    simp only [Bool.false_eq_true, false_iff]
    exact fun h => h n (Nat.lt_succ_self n) hlt
   ·
    rw [hw, rdB ws (n + 1) hn, rdB ws n (by omega), less_eq, decide_eq_true hlt]
    exact Ev.some_bind (Ev.ifT rfl (Ev.now _))
  ·
   obtain ⟨b, hb, he⟩ := ih (by omega)
   refine ⟨b, hb.trans ⟨fun h j hj => ?_, fun h j hj => h j (by omega)⟩, Ev.step (fun k => slices_IsSorted_string_string.l0.eq_2 ..) (Ev.ifT (by omega) (Ev.ifT (by omega) (Ev.ifT (by rw [List.length_map]; omega) (Ev.ifT (by rw [hw]; omega) (Ev.ifT (by rw [hw, List.length_map]; omega) ?_)))))⟩
   ·
    by_cases e : j = n
    ·
     rw [e]; exact hlt
    ·
     exact h j (by omega)
   ·
    rw [hw, rdB ws (n + 1) hn, rdB ws n (by omega), less_eq, decide_eq_false hlt]
    exact Ev.some_bind (Ev.ifF Bool.false_ne_true he)
theorem isSorted_ev (ws : List Txt) (hl : ws.length ≤ 4611686018427387903) : ∃ b : Bool, (b = true ↔ Srt ws) ∧ Ev (fun k => slices_IsSorted_string_string.f k (ws.map B)) b := by
 unfold slices_IsSorted_string_string.f
 rcases Nat.eq_zero_or_pos ws.length with h0 | h0
 ·
  refine ⟨true, ⟨fun _ j hj => by omega, fun _ => rfl⟩, ?_⟩
  rw [List.length_map, h0]
  exact Ev.step (fun k => slices_IsSorted_string_string.l0.eq_2 ..) (Ev.ifF (by rw [wrap64_id (by omega) (by omega)]; omega) (Ev.now _))
 ·
  obtain ⟨b, hb, he⟩ := isSorted_loop ws hl (ws.length - 1) (by omega)
  refine ⟨b, hb.trans ⟨fun h j hj => h j (by omega), fun h j hj => h j (by omega)⟩, ?_⟩
  rw [List.length_map, show wrap64 ((ws.length : Int) - 1) = ((ws.length - 1 : Nat) : Int) from by rw [wrap64_id (by omega) (by omega)]; omega]
  exact he
theorem equal_loop (M N : List Nd) (hM : M.length ≤ 4611686018427387903) (he : M.length = N.length) : ∀ (d i : Nat), i + d = M.length → Ev (fun k => impl_Node.l0 k M N (M.length : Int) (i : Int)) (decide (M.drop i = N.drop i)) := by
 intro d
 induction d with
 | zero =>
  intro i h1
  refine Ev.step (fun k => impl_Node.l0.eq_2 ..) (Ev.ifF (by omega) ?_)
  rw [decide_eq_true (show M.drop i = N.drop i by rw [List.drop_of_length_le (by omega), List.drop_of_length_le (by omega)])]
  exact Ev.now _
 | succ d ih =>
  intro i h1
  refine Ev.step (fun k => impl_Node.l0.eq_2 ..) (Ev.ifT (by omega) (Ev.ifT (by omega) (Ev.ifT (by omega) (Ev.ifT (by omega) ?_))))
  rw [node_ne, rd_get M i (by omega), rd_get N i (by omega), List.drop_eq_getElem_cons (show i < M.length by omega), List.drop_eq_getElem_cons (show i < N.length by omega)]
  by_cases e : M[i] = N[i]
  ·
   refine Ev.ifF (by simp [e]) ?_
   rw [wrap64_succ i (by omega), show decide (M[i] :: M.drop (i + 1) = N[i] :: N.drop (i + 1)) = decide (M.drop (i + 1) = N.drop (i + 1)) from decide_eq_decide.2 ⟨fun h => (List.cons.inj h).2, fun h => by rw [e, h]⟩]
   exact ih (i + 1) (by omega)
  ·
   refine Ev.ifT (by simp [e]) ?_
   rw [show decide (M[i] :: M.drop (i + 1) = N[i] :: N.drop (i + 1)) = false from decide_eq_false fun h => e (List.cons.inj h).1]
   exact Ev.now _
theorem equal_ev (M N : List Nd) (hM : M.length ≤ 4611686018427387903) : Ev (fun k => impl_Node.f k M N) (decide (M = N)) := by
 unfold impl_Node.f
 by_cases he : M.length = N.length
 ·
  refine Ev.ifT (by omega) ?_
  have := equal_loop M N hM he M.length 0 (by omega)
  rwa [List.drop_zero, List.drop_zero] at this
 ·
  rw [decide_eq_false fun e => he (by rw [e])]
  exact Ev.ifF (by omega) (Ev.now _)
theorem isTrie_ev (N : List Nd) : ∃ b : Bool, (b = true ↔ IsTr N) ∧ Ev (fun k => impl_isTrie.f k N) b := by
 have hpre := prefixes_ev N
 have no : ∀ M : List Nd, Ev (fun k => impl_isTrie.j0 k true M) false := fun M => Ev.step (fun k => impl_isTrie.j0.eq_2 ..) (Ev.ifT rfl (Ev.now _))
 cases hp : prefN N with
 | none =>
  rw [hp] at hpre
  refine ⟨false, ?_, ?_⟩
  ·
   simp only [Bool.false_eq_true, false_iff]
   rintro ⟨ws, h, rfl⟩
   rw [prefN_tr h] at hp; cases hp
  ·
   unfold impl_isTrie.f
   exact Ev.bind hpre (Ev.ifF Bool.false_ne_true (no N))
 | some ps =>
  rw [hp] at hpre
  obtain ⟨w1, w2, w3, w4⟩ := words_of hp
  have hany : impl_isTrie_any.f (ps.map B) = some (decide (∃ p ∈ ps, 12 < p.length)) := by
   unfold impl_isTrie_any.f
   congr 1
   rw [Bool.eq_iff_iff, List.any_eq_true, decide_eq_true_eq]
   constructor
   ·
    rintro ⟨x, hx, e⟩
    obtain ⟨y, hy, rfl⟩ := List.mem_map.1 hx
    refine ⟨y, hy, ?_⟩
    unfold impl_isTrie_any.p at e
    rw [size_B, decide_eq_true_eq] at e
    omega
   ·
    rintro ⟨y, hy, e⟩
    refine ⟨B y, List.mem_map.2 ⟨y, hy, rfl⟩, ?_⟩
    unfold impl_isTrie_any.p
    rw [size_B, decide_eq_true_eq]
    omega
  by_cases hlong : ∃ p ∈ ps, 12 < p.length
  ·
   rw [decide_eq_true hlong] at hany
   refine ⟨false, ?_, ?_⟩
   ·
    simp only [Bool.false_eq_true, false_iff]
    rintro ⟨ws, h, rfl⟩
    rw [prefN_tr h] at hp
    obtain rfl := Option.some.inj hp
    obtain ⟨p, hpm, hpl⟩ := hlong
    have := (wordL_iff.1 (preL_word h.word hpm)).2
    omega
   ·
    unfold impl_isTrie.f
    refine Ev.bind hpre (Ev.ifT rfl ?_)
    show Ev (fun k => (impl_isTrie_any.f (ps.map B)).bind _) false
    rw [hany]
    exact Ev.some_bind (no N)
  ·
   rw [decide_eq_false hlong] at hany
   have hword : ∀ w ∈ wordsGo N ps, wordL w = true := fun w hw => by
    have hm := wordsGo_mem N ps w hw
    refine wordL_iff.2 ⟨w3 w hm, ?_⟩
    rcases Nat.lt_or_ge 12 w.length with h | h
    ·
     exact absurd ⟨w, hm, h⟩ hlong
    ·
     exact h
   have hwl := wordsGo_len N ps
   have hcase : ∀ b : Bool, Ev (fun k => impl_isTrie.j0 k false N) b → Ev (fun k => impl_isTrie.f k N) b := fun b hb => by
    unfold impl_isTrie.f
    refine Ev.bind hpre (Ev.ifT rfl ?_)
    show Ev (fun k => (impl_isTrie_any.f (ps.map B)).bind _) b
    rw [hany]
    exact Ev.some_bind hb
   have hval : ∀ ws, OkW ws → N = trN (preL ws) ws → wordsGo N ps = ws := fun ws h e => by
    subst e
    rw [prefN_tr h] at hp
    obtain rfl := Option.some.inj hp
    have : trN (preL ws) ws = (preL ws).map fun p => mkN (ndL (preL ws) ws p) := by unfold trN nodesL; rw [List.map_map]; rfl
    rw [this, wordsGo_tr, filter_preL h.asc]
   by_cases h40 : (wordsGo N ps).length ≤ 40
   ·
    obtain ⟨b, hb, hsv⟩ := isSorted_ev (wordsGo N ps) (by omega)
    by_cases hs : Srt (wordsGo N ps)
    ·
     have hbt := hb.2 hs
     subst hbt
     refine ⟨decide (trN (preL (wordsGo N ps)) (wordsGo N ps) = N), ?_, hcase _ ?_⟩
     ·
      rw [decide_eq_true_eq]
      constructor
      ·
       intro e
       refine ⟨setL (wordsGo N ps), ⟨asc_setL _, Nat.le_trans (setL_length_le _) h40, fun w hw => hword w ((mem_setL _ w).1 hw)⟩, ?_⟩
       rw [← trN_set, e]
      ·
       rintro ⟨ws, h, e⟩
       rw [hval ws h e, e]
     ·
      refine Ev.step (fun k => impl_isTrie.j0.eq_2 ..) (Ev.ifF Bool.false_ne_true (Ev.bind w4 (Ev.ifT (by rw [List.length_map]; omega) (Ev.bind hsv (Ev.ifT rfl (Ev.bind (trieOf_srt hs hword (by omega)) (Ev.bind (equal_ev _ _ ?_) (Ev.now _))))))))
      rw [trN_length]
      have := preL_length (ws := wordsGo N ps) (fun w hw => (wordL_iff.1 (hword w hw)).2)
      omega
    ·
     have hbf : b = false := by
      cases b with
      | false => rfl
      | true => exact absurd (hb.1 rfl) hs
     subst hbf
     refine ⟨false, ?_, hcase _ (Ev.step (fun k => impl_isTrie.j0.eq_2 ..) (Ev.ifF Bool.false_ne_true (Ev.bind w4 (Ev.ifT (by rw [List.length_map]; omega) (Ev.bind hsv (Ev.ifF Bool.false_ne_true (Ev.now _)))))))⟩
     simp only [Bool.false_eq_true, false_iff]
     rintro ⟨ws, h, e⟩
     exact hs (by rw [hval ws h e]; exact srt_asc h.asc)
   ·
    refine ⟨false, ?_, hcase _ (Ev.step (fun k => impl_isTrie.j0.eq_2 ..) (Ev.ifF Bool.false_ne_true (Ev.bind w4 (Ev.ifF (by rw [List.length_map]; omega) (Ev.now _)))))⟩
    simp only [Bool.false_eq_true, false_iff]
    rintro ⟨ws, h, e⟩
    rw [hval ws h e] at h40
    exact h40 h.len
theorem eqNode_self (a b : Int) (c : Bool) : laws_eqNode.f a b c a b c = some true := by
 unfold laws_eqNode.f
 rw [if_pos rfl, if_pos rfl, if_neg (by simp)]
theorem eqNodeS_loop (N : List Nd) (hN : N.length ≤ 4611686018427387903) : ∀ (d i : Nat), i + d = N.length → Ev (fun k => laws_eqNodeS.l0 k N N (i : Int)) true := by
 intro d
 induction d with
 | zero => intro i h; exact Ev.step (fun k => laws_eqNodeS.l0.eq_2 ..) (Ev.ifF (by omega) (Ev.now _))
 | succ d ih =>
  intro i h
  refine Ev.step (fun k => laws_eqNodeS.l0.eq_2 ..) (Ev.ifT (by omega) (Ev.ifT (by omega) (Ev.ifT (by omega) ?_)))
  rw [eqNode_self]
  refine Ev.some_bind (Ev.ifT rfl ?_)
  rw [wrap64_succ i (by omega)]
  exact ih (i + 1) (by omega)
theorem eqTrie_ev (N : List Nd) (hN : N.length ≤ 4611686018427387903) : Ev (fun k => laws_eqTrie.f k N N) true := by
 unfold laws_eqTrie.f laws_eqNodeS.f
 exact Ev.bind (f := fun k t => if t = true then some true else some false) (Ev.ifT rfl (eqNodeS_loop N hN N.length 0 (by omega))) (Ev.ifT rfl (Ev.now _))
def toN (l : List S67) : List Nd := l.map fun x => ⟨x.f0, x.f1, x.f2⟩
theorem toN_length (l : List S67) : (toN l).length = l.length := by simp [toN]
theorem szTrie_eq (l : List S67) (h : l.length ≤ 9223372036854775807) : laws_szTrie.f l 1048576 = some (if l.length ≤ 1048576 then 1048576 - (l.length : Int) else -1) := by
 unfold laws_szTrie.f laws_szNodeS.f
 rw [wrap64_id (by omega) (by omega)]
 by_cases hs : l.length ≤ 1048576
 ·
  rw [if_neg (by omega), if_pos hs, Option.bind_some, if_neg (by omega)]
 ·
  rw [if_pos (by omega), if_neg hs, Option.bind_some, if_pos (by omega)]
theorem toNodeS_loop (l : List S67) (hl : l.length ≤ 1048576) : ∀ (d i : Nat), i + d = l.length → Ev (fun k => laws_toNodeS.l0 k l ((toN l).take i ++ List.replicate ((toN l).length - i) z65) (i : Int)) (toN l) := by
 intro d
 induction d with
 | zero =>
  intro i h
  rw [List.take_of_length_le (by rw [toN_length]; omega), show (toN l).length - i = 0 from by rw [toN_length]; omega, List.replicate_zero, List.append_nil]
  exact Ev.step (fun k => laws_toNodeS.l0.eq_2 ..) (Ev.ifF (by omega) (Ev.now _))
 | succ d ih =>
  intro i h
  have hi : i < l.length := by omega
  have hi2 : i < (toN l).length := by rw [toN_length]; exact hi
  have hlen : ((toN l).take i ++ List.replicate ((toN l).length - i) z65).length = l.length := by
   rw [List.length_append, List.length_take, List.length_replicate, toN_length]; omega
  refine Ev.step (fun k => laws_toNodeS.l0.eq_2 ..) (Ev.ifT (by omega) (Ev.ifT (by omega) ?_))
  unfold laws_toNode.f
  refine Ev.some_bind (Ev.ifT (by rw [hlen]; omega) ?_)
  have hx : (⟨(rd_T67 l (i : Int)).f0, (rd_T67 l (i : Int)).f1, (rd_T67 l (i : Int)).f2⟩ : Nd) = (toN l).getD i z65 := by
   unfold rd_T67 toN
   rw [Int.toNat_natCast, getD_lt _ hi, getD_lt _ (by simpa using hi), List.getElem_map]
  rw [hx, Int.toNat_natCast, fill_set _ _ _ hi2, wrap64_succ i (by omega)]
  exact ih (i + 1) (by omega)
theorem toTrie_ev (l : List S67) (hl : l.length ≤ 1048576) : Ev (fun k => laws_toTrie.f k l) (toN l) := by
 unfold laws_toTrie.f laws_toNodeS.f
 refine Ev.bind (f := fun k t => some t) (Ev.ifT (by omega) (Ev.ifT (by omega) ?_)) (Ev.now _)
 have := toNodeS_loop l hl l.length 0 (by omega)
 rw [List.take_zero, List.nil_append, toN_length, Nat.sub_zero] at this
 exact this
theorem trie_both (N : List Nd) : (IsTr N ∧ Ev (fun k => spec_l2Trie.f k N) true ∧ Ev (fun k => impl_isTrie.f k N) true) ∨ (¬ IsTr N ∧ Ev (fun k => spec_l2Trie.f k N) false ∧ Ev (fun k => impl_isTrie.f k N) false) := by
 obtain ⟨b1, c1, e1⟩ := l2Trie_ev N
 obtain ⟨b2, c2, e2⟩ := isTrie_ev N
 by_cases h : IsTr N
 ·
  obtain rfl := c1.2 h
  obtain rfl := c2.2 h
  exact .inl ⟨h, e1, e2⟩
 ·
  cases b1 with
  | true => exact absurd (c1.1 rfl) h
  | false =>
   cases b2 with
   | true => exact absurd (c2.1 rfl) h
   | false => exact .inr ⟨h, e1, e2⟩
def mkNode (j : Nat) : Nd := ⟨3 * (j : Int) + 1, 3 * (j : Int) + 2, true⟩
def marksN (n : Nat) (l : List Nd) : List Nd := (List.range n).map mkNode ++ l.drop n
theorem marksN_length (n : Nat) (l : List Nd) (h : n ≤ l.length) : (marksN n l).length = l.length := by simp [marksN]; omega
theorem marksN_set (n : Nat) (l : List Nd) (h : n < l.length) : (marksN n l).set n (mkNode n) = marksN (n + 1) l := by
 unfold marksN
 rw [List.set_append_right _ _ (by simp), show ((List.range n).map mkNode).length = n from by simp, Nat.sub_self, drop_cons_getD z65 h, List.set_cons_zero, List.range_succ, List.map_append, List.append_assoc]
 rfl
theorem rdN_set (l : List Nd) (n : Nat) (h : n < l.length) (v : Nd) : rd_T65 (l.set n v) (n : Int) = v := by
 rw [rd_get _ n (by rw [List.length_set]; exact h), List.getElem_set_self]
theorem three_mod (n : Nat) (h : n ≤ 1000000000) : (Int.tmod (wrap64 ((wrap64 ((3 * (n : Int) + 1) + 1)) + 1)) 3 == 0) = true := by
 rw [wrap64_id (x := 3 * (n : Int) + 1 + 1) (by omega) (by omega), wrap64_id (by omega) (by omega), beq_iff_eq, Int.tmod_eq_emod_of_nonneg (by omega)]
 omega
theorem markNodeS_loop (l : List Nd) (hl : l.length ≤ 1000000000) : ∀ (d n : Nat), n + d = l.length → Ev (fun k => laws_markNodeS.l0 k (marksN n l) (3 * (n : Int) + 1) (n : Int)) (3 * (l.length : Int) + 1, marksN l.length l) := by
 intro d
 induction d with
 | zero =>
  intro n hn
  refine Ev.step (fun k => laws_markNodeS.l0.eq_2 ..) (Ev.ifF (by rw [marksN_length n l (by omega)]; omega) ?_)
  rw [show n = l.length from by omega]; exact Ev.now _
 | succ d ih =>
  intro n hn
  have h1 : n < (marksN n l).length := by rw [marksN_length n l (by omega)]; omega
  refine Ev.step (fun k => laws_markNodeS.l0.eq_2 ..) (Ev.ifT (by omega) (Ev.ifT (by omega) (Ev.some_bind (Ev.some_bind ?_))))
  have := ih (n + 1) (by omega)
  rw [← marksN_set n l (by omega)] at this
  rw [Int.toNat_natCast]
  rw [rdN_set _ n h1, rdN_set _ n (by rw [List.length_set]; exact h1), List.set_set, List.set_set, three_mod n (by omega)]
  rw [show wrap64 ((wrap64 ((wrap64 (3 * (n : Int) + 1 + 1)) + 1)) + 1) = 3 * ((n + 1 : Nat) : Int) + 1 from by rw [wrap64_id (x := 3 * (n : Int) + 1 + 1) (by omega) (by omega), wrap64_id (x := 3 * (n : Int) + 1 + 1 + 1) (by omega) (by omega), wrap64_id (by omega) (by omega)]; omega, wrap64_succ n (by omega), show wrap64 (3 * (n : Int) + 1 + 1) = 3 * (n : Int) + 2 from by rw [wrap64_id (by omega) (by omega)]; omega]
  exact this
theorem markTrie_ev (l : List Nd) (hl : l.length ≤ 1000000000) : Ev (fun k => laws_markTrie.f k l 1) (3 * (l.length : Int) + 1, marksN l.length l) := by
 have := markNodeS_loop l hl l.length 0 (by omega)
 unfold laws_markTrie.f laws_markNodeS.f
 exact Ev.bind this (Ev.now _)
end Go.Proofs.Ytnnkedeohfbkeaa.L
namespace Go.Proofs.Ytnnkedeohfbkeaa.L
open Go.RowKit Go.Proofs.Ytnnkedeohfbkeaa.P Go.Proofs.Ytnnkedeohfbkeaa.M Go.Proofs.YtnnkedeohfbkeaaW.PrintWords Go.Proofs.YtnnkedeohfbkeaaW.PrintLast Go.Proofs.YtnnkedeohfbkeaaW.PrintMore
namespace Mach
theorem f1_pos {P : List Txt} (ws : List Txt) (hA : Asc P) (hC : Clo P) {j : Nat} (hj : j < P.length) (h0 : 0 < j) : (rd_T65 (trN P ws) (j : Int)).f1 = (placeL P (P.getD j []).dropLast : Int) := by
 rw [rdN P ws j hj]
 show (if P.getD j [] = [] then -1 else (placeL P (P.getD j []).dropLast : Int)) = _
 rw [if_neg (clo_pos hA hC hj h0)]
theorem f0_pos {P : List Txt} (ws : List Txt) (hA : Asc P) (hC : Clo P) (hW : ∀ p ∈ P, wordL p = true) {j : Nat} (hj : j < P.length) (hne : P.getD j [] ≠ []) : (rd_T65 (trN P ws) (j : Int)).f0 = (((P.getD j []).getD ((P.getD j []).length - 1) 0).toNat : Int) - 97 := by
 rw [rdN P ws j hj]
 unfold mkN ndL
 rw [if_neg hne]
 exact (ltrOf_bd (hW _ (getD_mem hj)) hne).1
theorem f2_eq {P : List Txt} (ws : List Txt) {j : Nat} (hj : j < P.length) : (rd_T65 (trN P ws) (j : Int)).f2 = decide (P.getD j [] ∈ ws) := by
 rw [rdN P ws j hj]; rfl
def isKid (P : List Txt) (p : Txt) (j : Nat) : Bool := decide (P.getD j [] ≠ [] ∧ (P.getD j []).dropLast = p)
def kidU (P : List Txt) (p : Txt) (n : Nat) : List Int := ((List.range n).filter (isKid P p)).map fun j : Nat => (j : Int)
theorem kidU_succ (P : List Txt) (p : Txt) (n : Nat) : kidU P p (n + 1) = kidU P p n ++ if isKid P p n = true then [(n : Int)] else [] := by
 unfold kidU
 rw [List.range_succ, List.filter_append, List.map_append]
 congr 1
 by_cases h : isKid P p n = true
 ·
  rw [if_pos h, List.filter_cons, if_pos h]; rfl
 ·
  rw [if_neg h, List.filter_cons, if_neg h]; rfl
theorem kidU_length (P : List Txt) (p : Txt) (n : Nat) : (kidU P p n).length ≤ n := by
 unfold kidU
 rw [List.length_map]
 exact Nat.le_trans (List.length_filter_le _ _) (by simp)
theorem range_getD (P : List Txt) : (List.range P.length).map (fun j => P.getD j []) = P := by
 apply List.ext_getElem?
 intro j
 rw [List.getElem?_map]
 by_cases h : j < P.length
 ·
  rw [List.getElem?_range h, Option.map_some, getD_lt [] h, List.getElem?_eq_getElem h]
 ·
  rw [List.getElem?_eq_none (by simp; omega), List.getElem?_eq_none (by omega)]; rfl
theorem kidU_all {P : List Txt} (hA : Asc P) (p : Txt) : kidU P p P.length = (kidsL P p).map fun q => (placeL P q : Int) := by
 have e : kidsL P p = ((List.range P.length).filter (isKid P p)).map fun j => P.getD j [] := by
  unfold kidsL
  conv => lhs; rw [← range_getD P]
  rw [List.filter_map]
  rfl
 rw [e, List.map_map]
 unfold kidU
 refine List.map_congr_left fun j hj => ?_
 have h1 := List.mem_range.1 (List.mem_filter.1 hj).1
 show (j : Int) = _
 simp only [Function.comp]
 rw [placeL_get hA h1]
def kidW (ws : List Txt) (i : Nat) : List Int := (letsL (behL ws ((preL ws).getD i []))).map fun c => (placeL (preL ws) ((preL ws).getD i [] ++ [c]) : Int)
theorem kidW_eq {ws : List Txt} (h : OkW ws) (i : Nat) : kidU (preL ws) ((preL ws).getD i []) (preL ws).length = kidW ws i := by
 rw [kidU_all (asc_preL ws), kidsL_eq h, List.map_map]
 rfl
theorem kidW_length (ws : List Txt) (i : Nat) : (kidW ws i).length = (letsL (behL ws ((preL ws).getD i []))).length := List.length_map _
theorem resL_get {ws : List Txt} {i : Nat} (hi : i < (preL ws).length) : (resL ws).getD i [] = behL ws ((preL ws).getD i []) := by
 unfold resL
 rw [getD_lt _ (by simpa using hi), getD_lt _ hi, List.getElem_map]
theorem kid_at {ws : List Txt} (h : OkW ws) {i j : Nat} (hi : i < (preL ws).length) (hj : j < (kidW ws i).length) :
  ∃ q : Nat, (kidW ws i).getD j 0 = (q : Int) ∧ q < (preL ws).length ∧ i < q ∧ (letsL ((resL ws).getD i [])).getD j 0 ∈ letsL ((resL ws).getD i []) ∧
   (rd_T65 (trN (preL ws) ws) (q : Int)).f0 = (((letsL ((resL ws).getD i [])).getD j 0).toNat : Int) - 97 ∧ (resL ws).getD q [] = succL ((resL ws).getD i []) ((letsL ((resL ws).getD i [])).getD j 0) := by
 rw [resL_get hi]
 have hl : j < (letsL (behL ws ((preL ws).getD i []))).length := by rw [← kidW_length]; exact hj
 have hm : (letsL (behL ws ((preL ws).getD i []))).getD j 0 ∈ letsL (behL ws ((preL ws).getD i [])) := by rw [getD_lt 0 hl]; exact List.getElem_mem _
 have hp := pre_snoc.2 ((mem_letsL (Res.beh12 h ((preL ws).getD i []))).1 hm)
 obtain ⟨q1, q2⟩ := placeL_mem hp
 refine ⟨_, ?_, q1, ?_, hm, ?_, ?_⟩
 ·
  unfold kidW
  rw [getD_lt 0 (by simpa using hl), List.getElem_map, getD_lt 0 hl]
 ·
  refine asc_get_lt (asc_preL ws) hi q1 ?_
  rw [q2]
  exact txt_lt_snoc _ _
 ·
  rw [f0_pos ws (asc_preL ws) (clo_preL ws) (fun p hp => preL_word h.word hp) q1 (by rw [q2]; simp), q2]
  simp
 ·
  rw [resL_get q1, q2, behL_snoc h.asc]
end Mach
end Go.Proofs.Ytnnkedeohfbkeaa.L
namespace Go.Proofs.Ytnnkedeohfbkeaa.L
open Go.RowKit Go.Proofs.Ytnnkedeohfbkeaa.P Go.Proofs.Ytnnkedeohfbkeaa.M Go.Proofs.YtnnkedeohfbkeaaW.PrintWords Go.Proofs.YtnnkedeohfbkeaaW.PrintLast Go.Proofs.YtnnkedeohfbkeaaW.PrintMore
namespace Mach
def fL (ws : List Txt) (n : Nat) : List (List Txt) := firstL [] ((resL ws).take n)
theorem fL_zero (ws : List Txt) : fL ws 0 = [] := rfl
theorem fL_succ {ws : List Txt} {n : Nat} (h : n < (preL ws).length) : fL ws (n + 1) = if (resL ws).getD n [] ∈ fL ws n then fL ws n else fL ws n ++ [(resL ws).getD n []] := by
 unfold fL
 rw [take_succ_getD [] (by rw [resL_length]; exact h), firstL_snoc]
theorem fL_all (ws : List Txt) : fL ws (preL ws).length = dL ws := by
 unfold fL dL
 rw [List.take_of_length_le (by rw [resL_length]; exact Nat.le_refl _)]
theorem fL_pre (ws : List Txt) : ∀ d n, n + d = (preL ws).length → fL ws n <+: dL ws
 | 0, n, h => by rw [show n = (preL ws).length from by omega, fL_all]; exact List.prefix_refl _
 | d + 1, n, h => by
  refine List.IsPrefix.trans ?_ (fL_pre ws d (n + 1) (by omega))
  rw [fL_succ (by omega)]
  split
  ·
   exact List.prefix_refl _
  ·
   exact List.prefix_append _ _
theorem fL_pre' {ws : List Txt} {n : Nat} (h : n ≤ (preL ws).length) : fL ws n <+: dL ws := fL_pre ws _ n (Nat.add_sub_of_le h)
theorem fL_nodup (ws : List Txt) (n : Nat) : (fL ws n).Nodup := firstL_nodup _ _ List.nodup_nil
theorem fL_length (ws : List Txt) (n : Nat) (h : n ≤ (preL ws).length) : (fL ws n).length ≤ n := by
 have := firstL_length ((resL ws).take n) []
 rw [List.length_take, resL_length] at this
 unfold fL
 simp at this
 omega
theorem fL_mem {ws : List Txt} {n : Nat} (h : n < (preL ws).length) : (resL ws).getD n [] ∈ fL ws (n + 1) := by
 rw [fL_succ h]
 split
 ·
  assumption
 ·
  exact List.mem_append_right _ (List.mem_singleton.2 rfl)
theorem res_mem {ws : List Txt} {n : Nat} (h : n < (preL ws).length) : (resL ws).getD n [] ∈ dL ws := (fL_pre' (by omega)).subset (fL_mem h)
theorem idx_met {ws : List Txt} {n : Nat} (h : n ≤ (preL ws).length) {b : List Txt} (hb : b ∈ fL ws n) : (dL ws).idxOf b = (fL ws n).idxOf b := idx_pre (fL_pre' h) hb
theorem idx_first {ws : List Txt} {n : Nat} (h : n < (preL ws).length) (hn : (resL ws).getD n [] ∉ fL ws n) : (dL ws).idxOf ((resL ws).getD n []) = (fL ws n).length := by
 rw [idx_met (n := n + 1) (by omega) (fL_mem h), fL_succ h, if_neg hn, idx_new hn]
theorem idx_lt {ws : List Txt} {b : List Txt} (h : b ∈ dL ws) : (dL ws).idxOf b < (dL ws).length := List.idxOf_lt_length_of_mem h
theorem idx_old {ws : List Txt} {n : Nat} (h : n ≤ (preL ws).length) {b : List Txt} (hb : b ∈ fL ws n) : (dL ws).idxOf b < (fL ws n).length := by
 rw [idx_met h hb]
 exact List.idxOf_lt_length_of_mem hb
theorem idxOf_getE : ∀ {l : List (List Txt)} {b : List Txt}, b ∈ l → l[l.idxOf b]? = some b
 | [], _, h => by cases h
 | x :: r, b, h => by
  rw [List.idxOf_cons]
  by_cases e : x = b
  ·
   subst e; simp
  ·
   have hr : b ∈ r := by
    rcases List.mem_cons.1 h with k | k
    ·
     exact absurd k.symm e
    ·
     exact k
   rw [show (x == b) = false from beq_eq_false_iff_ne.2 e, cond_false, List.getElem?_cons_succ]
   exact idxOf_getE hr
theorem idxOf_nodup {l : List (List Txt)} (hn : l.Nodup) (j : Nat) (hj : j < l.length) : l.idxOf l[j] = j := by
 have h1 := idxOf_getE (List.getElem_mem hj)
 have h2 : l.idxOf l[j] < l.length := List.idxOf_lt_length_of_mem (List.getElem_mem hj)
 rw [List.getElem?_eq_getElem h2] at h1
 have h3 := Option.some.inj h1
 rcases Nat.lt_trichotomy (l.idxOf l[j]) j with h4 | h4 | h4
 ·
  exact absurd h3 (List.pairwise_iff_getElem.1 hn _ _ h2 hj h4)
 ·
  exact h4
 ·
  exact absurd h3.symm (List.pairwise_iff_getElem.1 hn _ _ hj h2 h4)
theorem idx_get {ws : List Txt} {b : List Txt} (h : b ∈ dL ws) : (dL ws)[(dL ws).idxOf b]? = some b := idxOf_getE h
def mkS (x : Bool × List (Int × Int)) : S77 := ⟨x.1, x.2.map fun y => ⟨y.1, y.2⟩⟩
def stW (ws : List Txt) (b : List Txt) : S77 := mkS (stL (dL ws) b)
def machW (ws : List Txt) : List S77 := (dL ws).map (stW ws)
theorem machW_length (ws : List Txt) : (machW ws).length = (dL ws).length := List.length_map _
def edgeW (ws : List Txt) (b : List Txt) (c : UInt8) : S78 := ⟨(c.toNat : Int) - 97, ((dL ws).idxOf (succL b c) : Int)⟩
theorem stW_eq (ws : List Txt) (b : List Txt) : stW ws b = ⟨decide ([] ∈ b), (letsL b).map (edgeW ws b)⟩ := by
 unfold stW mkS stL
 rw [List.map_map]
 rfl
theorem end_eq {ws : List Txt} {j : Nat} (hj : j < (preL ws).length) : (rd_T65 (trN (preL ws) ws) (j : Int)).f2 = decide ([] ∈ (resL ws).getD j []) := by
 rw [f2_eq ws hj, resL_get hj]
 congr 1
 exact propext (by rw [mem_behL, List.append_nil])
theorem lastR {ws : List Txt} {j : Nat} (hj : j < (preL ws).length) : lastL (resL ws) ((resL ws).getD j []) < (preL ws).length ∧ (resL ws).getD (lastL (resL ws) ((resL ws).getD j [])) [] = (resL ws).getD j [] := by
 have h := lastL_spec (getR_mem (R := resL ws) (i := j) (by rw [resL_length]; exact hj))
 rw [resL_length] at h
 exact ⟨h.1, h.2.1⟩
end Mach
end Go.Proofs.Ytnnkedeohfbkeaa.L
namespace Go.Proofs.Ytnnkedeohfbkeaa.L
open Go.RowKit Go.Proofs.Ytnnkedeohfbkeaa.P Go.Proofs.Ytnnkedeohfbkeaa.M Go.Proofs.YtnnkedeohfbkeaaW.PrintWords Go.Proofs.YtnnkedeohfbkeaaW.PrintLast Go.Proofs.YtnnkedeohfbkeaaW.PrintMore
namespace Mach
def kidsW (ws : List Txt) : List (List Int) := (List.range (preL ws).length).map (kidW ws)
theorem kidsW_length (ws : List Txt) : (kidsW ws).length = (preL ws).length := by simp [kidsW]
theorem kidsW_rd {ws : List Txt} {i : Nat} (hi : i < (preL ws).length) : rd_L7 (kidsW ws) (i : Int) = kidW ws i := by
 unfold rd_L7 kidsW
 rw [Int.toNat_natCast, getD_lt _ (by simpa using hi)]
 simp
def kidsU (P : List Txt) (n : Nat) : List (List Int) := (List.range P.length).map fun j => kidU P (P.getD j []) n
theorem kidsU_length (P : List Txt) (n : Nat) : (kidsU P n).length = P.length := by simp [kidsU]
theorem kidsU_rd {P : List Txt} {n i : Nat} (hi : i < P.length) : rd_L7 (kidsU P n) (i : Int) = kidU P (P.getD i []) n := by
 unfold rd_L7 kidsU
 rw [Int.toNat_natCast, getD_lt _ (by simpa using hi)]
 simp
theorem isKid_par {P : List Txt} (hA : Asc P) (hC : Clo P) {i j : Nat} (hi : i < P.length) (h0 : 0 < i) (hj : j < P.length) : isKid P (P.getD j []) i = decide (j = placeL P (P.getD i []).dropLast) := by
 obtain ⟨h1, h2⟩ := clo_parent hA hC hi h0
 unfold isKid
 congr 1
 refine propext ⟨fun h => ?_, fun h => ⟨clo_pos hA hC hi h0, by rw [h, h2]⟩⟩
 rw [h.2, placeL_get hA hj]
theorem kidsU_set {P : List Txt} (hA : Asc P) (hC : Clo P) {i : Nat} (hi : i < P.length) (h0 : 0 < i) : (kidsU P i).set (placeL P (P.getD i []).dropLast) (kidU P (P.getD (placeL P (P.getD i []).dropLast) []) i ++ [(i : Int)]) = kidsU P (i + 1) := by
 obtain ⟨h1, h2⟩ := clo_parent hA hC hi h0
 apply List.ext_getElem?
 intro j
 by_cases hj : j < P.length
 ·
  unfold kidsU
  rw [List.getElem?_set, List.getElem?_map, List.getElem?_map, List.getElem?_range hj, Option.map_some, Option.map_some, kidU_succ, isKid_par hA hC hi h0 hj]
  by_cases e : placeL P (P.getD i []).dropLast = j
  ·
   rw [if_pos e, if_pos (by rw [List.length_map, List.length_range]; omega), if_pos (decide_eq_true e.symm), e]
  ·
   rw [if_neg e, if_neg (by rw [decide_eq_true_eq]; exact fun k => e k.symm), List.append_nil]
 ·
  rw [List.getElem?_eq_none (by rw [List.length_set, kidsU_length]; omega), List.getElem?_eq_none (by rw [kidsU_length]; omega)]
theorem l7Kids_ev {ws : List Txt} (h : OkW ws) : Ev (fun k => spec_l7Kids.f k (trN (preL ws) ws)) (kidsW ws) := by
 have hA := asc_preL ws
 have hC := clo_preL ws
 have hP := h.pre
 obtain ⟨z1, z2⟩ := clo_zero hA hC
 have fin : kidsU (preL ws) (preL ws).length = kidsW ws := by
  unfold kidsU kidsW
  exact List.map_congr_left fun j hj => kidW_eq h j
 have loop : ∀ d n, n + d = (preL ws).length → 0 < n → Ev (fun k => spec_l7Kids.l0 k (kidsU (preL ws) n) (n : Int) (trN (preL ws) ws)) (kidsW ws) := by
  intro d
  induction d with
  | zero =>
   intro n h1 h2
   rw [show n = (preL ws).length from by omega, fin]
   exact Ev.step (fun k => spec_l7Kids.l0.eq_2 ..) (Ev.ifF (by rw [trN_length]; omega) (Ev.now _))
  | succ d ih =>
   intro n h1 h2
   have hn : n < (preL ws).length := by omega
   obtain ⟨p1, p2⟩ := clo_parent hA hC hn h2
   have hl := kidU_length (preL ws) ((preL ws).getD (placeL (preL ws) ((preL ws).getD n []).dropLast) []) n
   refine Ev.step (fun k => spec_l7Kids.l0.eq_2 ..) (Ev.ifT (by rw [trN_length]; omega) (Ev.ifT (by omega) ?_))
   rw [f1_pos ws hA hC hn h2, kidsU_rd (by omega)]
   refine Ev.ifT (by omega) (Ev.ifT (by rw [kidsU_length]; omega) (Ev.ifT (by omega) ?_))
   rw [Int.toNat_natCast, kidsU_set hA hC hn h2, wrap64_succ n (by omega)]
   exact ih (n + 1) (by omega) (by omega)
 unfold spec_l7Kids.f
 refine Ev.ifT (by omega) (Ev.ifT (by rw [trN_length]; omega) ?_)
 have hr : List.replicate (((trN (preL ws) ws).length : Int)).toNat ([] : List Int) = kidsU (preL ws) 1 := by
  rw [Int.toNat_natCast, trN_length]
  apply List.ext_getElem?
  intro j
  by_cases hj : j < (preL ws).length
  ·
   unfold kidsU
   rw [List.getElem?_replicate, if_pos hj, List.getElem?_map, List.getElem?_range hj, Option.map_some]
   have : kidU (preL ws) ((preL ws).getD j []) 1 = [] := by
    rw [kidU_succ, show kidU (preL ws) ((preL ws).getD j []) 0 = [] from rfl, if_neg, List.nil_append]
    unfold isKid
    rw [z2]
    simp
   rw [this]
  ·
   rw [List.getElem?_eq_none (by simp; omega), List.getElem?_eq_none (by rw [kidsU_length]; omega)]
 rw [hr]
 exact loop ((preL ws).length - 1) 1 (by omega) (by omega)
theorem l7Alike_ev {ws : List Txt} (h : OkW ws) {i k : Nat} (hik : i < k) (hk : k < (preL ws).length) (E : List Int) (hE : E.length = (preL ws).length)
  (hv : ∀ j, i < j → j < (preL ws).length → E.getD j 0 = (lastL (resL ws) ((resL ws).getD j []) : Int)) :
  Ev (fun f => spec_l7Alike.f f (trN (preL ws) ws) (kidsW ws) E (i : Int) (k : Int)) (decide ((resL ws).getD i [] = (resL ws).getD k [])) := by
 have hi : i < (preL ws).length := by omega
 have hP := h.pre
 have Ri : Res 12 ((resL ws).getD i []) := by rw [resL_get hi]; exact Res.beh12 h _
 have Rk : Res 12 ((resL ws).getD k []) := by rw [resL_get hk]; exact Res.beh12 h _
 have hend : ∀ {j}, j < (preL ws).length → (rd_T65 (trN (preL ws) ws) (j : Int)).f2 = decide ([] ∈ (resL ws).getD j []) := fun {j} hj => by
  rw [f2_eq ws hj, resL_get hj]
  congr 1
  exact propext (by rw [mem_behL, List.append_nil])
 have stop : ∀ b : Bool, b = true → Ev (fun f => spec_l7Alike.j0 f (kidsW ws) E (i : Int) (k : Int) b (trN (preL ws) ws)) false := fun b hb => Ev.step (fun f => spec_l7Alike.j0.eq_2 ..) (Ev.ifT hb (Ev.now _))
 have hres : ∀ {n m}, n < (preL ws).length → m < (preL ws).length → ((lastL (resL ws) ((resL ws).getD n []) : Int) = (lastL (resL ws) ((resL ws).getD m []) : Int) ↔ (resL ws).getD n [] = (resL ws).getD m []) := fun {n m} hn hm => by
  rw [← lastL_inj (R := resL ws) (by rw [resL_length]; exact hn) (by rw [resL_length]; exact hm)]
  omega
 unfold spec_l7Alike.f
 refine Ev.ifT (by omega) (Ev.ifT (by rw [trN_length]; omega) (Ev.ifT (by omega) (Ev.ifT (by rw [trN_length]; omega) ?_)))
 rw [hend hi, hend hk, kidsW_rd hi, kidsW_rd hk]
 by_cases h0 : decide ([] ∈ (resL ws).getD i []) = decide ([] ∈ (resL ws).getD k [])
 ·
  refine Ev.ifF (by rw [h0]; simp) (Ev.ifT (by rw [kidsW_length]; omega) (Ev.ifT (by rw [kidsW_length]; omega) ?_))
  have hli : (kidW ws i).length = (letsL ((resL ws).getD i [])).length := by rw [kidW_length, resL_get hi]
  have hlk : (kidW ws k).length = (letsL ((resL ws).getD k [])).length := by rw [kidW_length, resL_get hk]
  have l26 := letsL_length ((resL ws).getD i [])
  by_cases h1 : (kidW ws i).length = (kidW ws k).length
  ·
   refine Ev.step (fun f => spec_l7Alike.j0.eq_2 ..) (Ev.ifF (by simp; omega) ?_)
   have loop : ∀ d n, n + d = (kidW ws i).length → (∀ m, m < n → (letsL ((resL ws).getD i [])).getD m 0 = (letsL ((resL ws).getD k [])).getD m 0 ∧ succL ((resL ws).getD i []) ((letsL ((resL ws).getD i [])).getD m 0) = succL ((resL ws).getD k []) ((letsL ((resL ws).getD k [])).getD m 0)) →
     Ev (fun f => spec_l7Alike.l0 f (kidsW ws) E (i : Int) (k : Int) (n : Int) (trN (preL ws) ws)) (decide ((resL ws).getD i [] = (resL ws).getD k [])) := by
    intro d
    induction d with
    | zero =>
     intro n hn hm
     have hle : letsL ((resL ws).getD i []) = letsL ((resL ws).getD k []) := by
      apply List.ext_getElem
      ·
       rw [← hli, ← hlk, h1]
      ·
       intro j h2 h3
       have := (hm j (by omega)).1
       rwa [getD_lt 0 h2, getD_lt 0 h3] at this
     have heq : (resL ws).getD i [] = (resL ws).getD k [] := res_eq Ri Rk h0 hle fun c hc => by
      obtain ⟨j, hj, rfl⟩ := List.getElem_of_mem hc
      have h2 := hm j (by omega)
      rw [← h2.1, getD_lt 0 hj] at h2
      exact h2.2
     rw [decide_eq_true heq]
     refine Ev.step (fun f => spec_l7Alike.l0.eq_2 ..) (Ev.ifT (by omega) (Ev.ifT (by rw [kidsW_length]; omega) ?_))
     rw [kidsW_rd hi]
     exact Ev.ifF (by omega) (Ev.now _)
    | succ d ih =>
     intro n hn hm
     have n1 : n < (kidW ws i).length := by omega
     have n2 : n < (kidW ws k).length := by omega
     obtain ⟨q, q1, q2, q3, q4, q5, q6⟩ := kid_at h hi n1
     obtain ⟨t, t1, t2, t3, t4, t5, t6⟩ := kid_at h hk n2
     have no : ¬ ((letsL ((resL ws).getD i [])).getD n 0 = (letsL ((resL ws).getD k [])).getD n 0 ∧ succL ((resL ws).getD i []) ((letsL ((resL ws).getD i [])).getD n 0) = succL ((resL ws).getD k []) ((letsL ((resL ws).getD k [])).getD n 0)) → decide ((resL ws).getD i [] = (resL ws).getD k []) = false := fun hn => decide_eq_false fun e => hn (by rw [e]; exact ⟨rfl, rfl⟩)
     refine Ev.step (fun f => spec_l7Alike.l0.eq_2 ..) (Ev.ifT (by omega) (Ev.ifT (by rw [kidsW_length]; omega) ?_))
     rw [kidsW_rd hi]
     refine Ev.ifT (by omega) (Ev.ifT (by omega) (Ev.ifT (by omega) (Ev.ifT (by rw [kidsW_length]; omega) ?_)))
     rw [kidsW_rd hk]
     refine Ev.ifT (by omega) ?_
     rw [rd_nat, rd_nat, q1, t1]
     refine Ev.ifT (by omega) (Ev.ifT (by rw [trN_length]; omega) (Ev.ifT (by omega) (Ev.ifT (by rw [trN_length]; omega) ?_)))
     rw [q5, t5]
     by_cases h2 : (letsL ((resL ws).getD i [])).getD n 0 = (letsL ((resL ws).getD k [])).getD n 0
     ·
      refine Ev.ifT (by rw [h2]) (Ev.ifT (by omega) (Ev.ifT (by omega) ?_))
      rw [rd_nat, rd_nat, hv q (by omega) q2, hv t (by omega) t2]
      by_cases h3 : (resL ws).getD q [] = (resL ws).getD t []
      ·
       refine Ev.ifT ((hres q2 t2).2 h3) ?_
       rw [wrap64_succ n (by omega)]
       refine ih (n + 1) (by omega) fun m hm' => ?_
       rcases Nat.lt_or_ge m n with h4 | h4
       ·
        exact hm m h4
       ·
        obtain rfl : m = n := by omega
        rw [q6, t6] at h3
        exact ⟨h2, h3⟩
      ·
       rw [no fun e => h3 (by rw [q6, t6]; exact e.2)]
       exact Ev.ifF (fun e => h3 ((hres q2 t2).1 e)) (Ev.now _)
     ·
      rw [no fun e => h2 e.1]
      refine Ev.ifF (fun e => h2 (UInt8.toNat_inj.1 (by omega))) (Ev.now _)
   exact loop (kidW ws i).length 0 (by omega) (fun m hm => absurd hm (Nat.not_lt_zero m))
  ·
   rw [decide_eq_false (fun e => h1 (by rw [hli, hlk, e]))]
   refine stop _ ?_
   rw [bne_iff_ne]
   omega
 ·
  rw [show decide ((resL ws).getD i [] = (resL ws).getD k []) = false from decide_eq_false fun e => h0 (by rw [e])]
  exact Ev.ifT (bne_iff_ne.2 h0) (stop _ rfl)
def endsF (ws : List Txt) : List Int := (List.range (preL ws).length).map fun i => (lastL (resL ws) ((resL ws).getD i []) : Int)
theorem endsF_length (ws : List Txt) : (endsF ws).length = (preL ws).length := by simp [endsF]
theorem endsF_get {ws : List Txt} {i : Nat} (hi : i < (preL ws).length) : (endsF ws).getD i 0 = (lastL (resL ws) ((resL ws).getD i []) : Int) := by
 unfold endsF
 rw [getD_lt 0 (by simpa using hi)]
 simp
def endsP (ws : List Txt) (n : Nat) : List Int := List.replicate n 0 ++ (endsF ws).drop n
theorem endsP_length {ws : List Txt} {n : Nat} (hn : n ≤ (preL ws).length) : (endsP ws n).length = (preL ws).length := by
 unfold endsP
 rw [List.length_append, List.length_replicate, List.length_drop, endsF_length]
 omega
theorem endsP_get {ws : List Txt} {n j : Nat} (hn : n ≤ j) (hj : j < (preL ws).length) : (endsP ws n).getD j 0 = (lastL (resL ws) ((resL ws).getD j []) : Int) := by
 rw [← endsF_get hj]
 unfold endsP
 rw [List.getD_eq_getElem?_getD, List.getD_eq_getElem?_getD, List.getElem?_append_right (by simpa using hn), List.length_replicate, List.getElem?_drop, show n + (j - n) = j from by omega]
theorem endsP_set {ws : List Txt} {n : Nat} (hn : n < (preL ws).length) (a b : Int) (hb : b = (lastL (resL ws) ((resL ws).getD n []) : Int)) : ((endsP ws (n + 1)).set n a).set n b = endsP ws n := by
 rw [List.set_set]
 have hl := endsF_length ws
 unfold endsP
 rw [List.replicate_succ', List.append_assoc, List.set_append_right _ _ (by simp), List.length_replicate, Nat.sub_self, List.singleton_append, List.set_cons_zero, List.drop_eq_getElem_cons (show n < (endsF ws).length by omega)]
 congr 2
 rw [hb, ← endsF_get hn, getD_lt 0 (by omega)]
theorem l7Ends_ev {ws : List Txt} (h : OkW ws) : Ev (fun k => spec_l7Ends.f k (trN (preL ws) ws)) (endsF ws) := by
 have hP := h.pre
 have hRl := resL_length ws
 have one : ∀ n, n < (preL ws).length → ∀ r, Ev (fun k => spec_l7Ends.l0 k (kidsW ws) (endsP ws n) (wrap64 ((n : Int) - 1)) (trN (preL ws) ws)) r →
   ∀ d m, m = n + d → m < (preL ws).length → lastL (resL ws) ((resL ws).getD n []) ≤ m → Ev (fun k => spec_l7Ends.l1 k (kidsW ws) ((endsP ws (n + 1)).set n (n : Int)) (n : Int) (m : Int) (trN (preL ws) ws)) r := by
  intro n hn r hr d
  have hge := lastL_ge (R := resL ws) (i := n) (by omega)
  have hlen : ((endsP ws (n + 1)).set n (n : Int)).length = (preL ws).length := by rw [List.length_set, endsP_length (by omega)]
  have hget : ∀ j, n < j → j < (preL ws).length → ((endsP ws (n + 1)).set n (n : Int)).getD j 0 = (lastL (resL ws) ((resL ws).getD j []) : Int) := fun j h1 h2 => by
   rw [List.getD_eq_getElem?_getD, List.getElem?_set_ne (by omega), ← List.getD_eq_getElem?_getD, endsP_get (by omega) h2]
  induction d with
  | zero =>
   intro m hm hml hl
   refine Ev.step (fun k => spec_l7Ends.l1.eq_2 ..) (Ev.ifF (by omega) ?_)
   have : (endsP ws (n + 1)).set n (n : Int) = endsP ws n := by
    have := endsP_set hn (n : Int) (n : Int) (by omega)
    rwa [List.set_set] at this
   rw [this]
   exact hr
  | succ d ih =>
   intro m hm hml hl
   refine Ev.step (fun k => spec_l7Ends.l1.eq_2 ..) (Ev.ifT (by omega) (Ev.ifT (by omega) (Ev.ifT (by rw [hlen]; omega) ?_)))
   rw [rd_nat, hget m (by omega) hml]
   have next : lastL (resL ws) ((resL ws).getD n []) ≠ m → Ev (fun k => spec_l7Ends.l1 k (kidsW ws) ((endsP ws (n + 1)).set n (n : Int)) (n : Int) (wrap64 ((m : Int) - 1)) (trN (preL ws) ws)) r := fun hne => by
    have e : wrap64 ((m : Int) - 1) = ((m - 1 : Nat) : Int) := by rw [wrap64_id (by omega) (by omega)]; omega
    rw [e]
    exact ih (m - 1) (by omega) (by omega) (by omega)
   by_cases h1 : lastL (resL ws) ((resL ws).getD m []) = m
   ·
    refine Ev.ifT (by omega) ?_
    have ha := l7Alike_ev h (show n < m by omega) hml _ hlen hget
    by_cases h2 : (resL ws).getD n [] = (resL ws).getD m []
    ·
     rw [decide_eq_true h2] at ha
     refine Ev.bind ha (Ev.ifT rfl (Ev.ifT (by omega) (Ev.ifT (by rw [hlen]; omega) ?_)))
     rw [Int.toNat_natCast, endsP_set hn _ _ (by rw [h2, h1])]
     exact hr
    ·
     rw [decide_eq_false h2] at ha
     refine Ev.bind ha (Ev.ifF Bool.false_ne_true (next fun e => h2 ?_))
     have := (lastL_spec (getR_mem (R := resL ws) (i := n) (by omega))).2.1
     rw [e] at this
     exact this.symm
   ·
    refine Ev.ifF (by omega) (next fun e => h1 ?_)
    have := (lastL_spec (getR_mem (R := resL ws) (i := n) (by omega))).2.1
    rw [e] at this
    rw [this, e]
 have loop : ∀ n, n ≤ (preL ws).length → Ev (fun k => spec_l7Ends.l0 k (kidsW ws) (endsP ws n) (wrap64 ((n : Int) - 1)) (trN (preL ws) ws)) (endsF ws) := by
  intro n
  induction n with
  | zero =>
   intro _
   refine Ev.step (fun k => spec_l7Ends.l0.eq_2 ..) (Ev.ifF (by rw [wrap64_id (by omega) (by omega)]; omega) ?_)
   unfold endsP
   rw [List.replicate_zero, List.nil_append, List.drop_zero]
   exact Ev.now _
  | succ n ih =>
   intro hn
   have e : wrap64 (((n + 1 : Nat) : Int) - 1) = (n : Int) := by rw [wrap64_id (by omega) (by omega)]; omega
   have e2 : wrap64 ((((endsP ws (n + 1)).set n (n : Int)).length : Int) - 1) = (((preL ws).length - 1 : Nat) : Int) := by
    rw [List.length_set, endsP_length hn, wrap64_id (by omega) (by omega)]; omega
   rw [e]
   refine Ev.step (fun k => spec_l7Ends.l0.eq_2 ..) (Ev.ifT (by omega) (Ev.ifT (by omega) (Ev.ifT (by rw [endsP_length hn]; omega) ?_)))
   have e3 : wrap64 (((endsP ws (n + 1)).length : Int) - 1) = (((preL ws).length - 1 : Nat) : Int) := by
    rw [endsP_length hn, wrap64_id (by omega) (by omega)]; omega
   rw [Int.toNat_natCast, e3]
   have hlt := (lastL_spec (getR_mem (R := resL ws) (i := n) (by omega))).1
   exact one n (by omega) _ (ih (by omega)) ((preL ws).length - 1 - n) _ (by omega) (by omega) (by omega)
 unfold spec_l7Ends.f
 refine Ev.bind (l7Kids_ev h) (Ev.ifT (by omega) (Ev.ifT (by rw [trN_length]; omega) (Ev.some_bind ?_)))
 have hr : (List.replicate (((trN (preL ws) ws).length : Int)).toNat 0 : List Int) = endsP ws (preL ws).length := by
  rw [Int.toNat_natCast, trN_length]
  unfold endsP
  rw [List.drop_of_length_le (by rw [endsF_length]; omega), List.append_nil]
 rw [hr, endsP_length (Nat.le_refl _)]
 exact loop _ (Nat.le_refl _)
end Mach
end Go.Proofs.Ytnnkedeohfbkeaa.L
namespace Go.Proofs.Ytnnkedeohfbkeaa.L
open Go.RowKit Go.Proofs.Ytnnkedeohfbkeaa.P Go.Proofs.Ytnnkedeohfbkeaa.M Go.Proofs.YtnnkedeohfbkeaaW.PrintWords Go.Proofs.YtnnkedeohfbkeaaW.PrintLast Go.Proofs.YtnnkedeohfbkeaaW.PrintMore
namespace Mach
def placeP (ws : List Txt) (n : Nat) : List Int := (List.range (preL ws).length).map fun g => if (resL ws).getD g [] ∈ fL ws n ∧ lastL (resL ws) ((resL ws).getD g []) = g then ((fL ws n).idxOf ((resL ws).getD g []) : Int) else -1
theorem placeP_length (ws : List Txt) (n : Nat) : (placeP ws n).length = (preL ws).length := by simp [placeP]
theorem placeP_get {ws : List Txt} {n g : Nat} (hg : g < (preL ws).length) : (placeP ws n).getD g 0 = if (resL ws).getD g [] ∈ fL ws n ∧ lastL (resL ws) ((resL ws).getD g []) = g then ((fL ws n).idxOf ((resL ws).getD g []) : Int) else -1 := by
 unfold placeP
 rw [getD_lt 0 (by simpa using hg)]
 simp
theorem placeP_last {ws : List Txt} {n i : Nat} (hi : i < (preL ws).length) : rd (placeP ws n) (lastL (resL ws) ((resL ws).getD i []) : Int) = if (resL ws).getD i [] ∈ fL ws n then ((fL ws n).idxOf ((resL ws).getD i []) : Int) else -1 := by
 obtain ⟨h1, h2⟩ := lastR hi
 rw [rd_nat, placeP_get h1, h2]
 by_cases h : (resL ws).getD i [] ∈ fL ws n
 ·
  rw [if_pos ⟨h, rfl⟩, if_pos h]
 ·
  rw [if_neg (fun k => h k.1), if_neg h]
theorem placeP_set {ws : List Txt} {i : Nat} (hi : i < (preL ws).length) (hn : (resL ws).getD i [] ∉ fL ws i) : (placeP ws i).set (lastL (resL ws) ((resL ws).getD i [])) ((fL ws i).length : Int) = placeP ws (i + 1) := by
 obtain ⟨h1, h2⟩ := lastR hi
 have hF : fL ws (i + 1) = fL ws i ++ [(resL ws).getD i []] := by rw [fL_succ hi, if_neg hn]
 apply List.ext_getElem
 ·
  rw [List.length_set, placeP_length, placeP_length]
 ·
  intro g g1 g2
  have hg : g < (preL ws).length := by rw [placeP_length] at g2; exact g2
  rw [List.getElem_set, ← getD_lt 0 g2, placeP_get hg]
  by_cases e : lastL (resL ws) ((resL ws).getD i []) = g
  ·
   subst e
   rw [if_pos rfl, h2, if_pos ⟨fL_mem hi, rfl⟩, hF, idx_new hn]
  ·
   rw [if_neg e, ← getD_lt 0 (by rw [placeP_length]; exact hg), placeP_get hg]
   by_cases hl : lastL (resL ws) ((resL ws).getD g []) = g
   ·
    have hne : (resL ws).getD g [] ≠ (resL ws).getD i [] := fun k => e (by rw [← k, hl])
    by_cases hm : (resL ws).getD g [] ∈ fL ws i
    ·
     rw [if_pos ⟨hm, hl⟩, if_pos ⟨by rw [hF]; exact List.mem_append_left _ hm, hl⟩, hF, idx_pre (List.prefix_append _ _) hm]
    ·
     rw [if_neg (fun k => hm k.1), if_neg (fun k => by
      rw [hF, List.mem_append, List.mem_singleton] at k
      rcases k.1 with k | k
      ·
       exact hm k
      ·
       exact hne k)]
   ·
    rw [if_neg (fun k => hl k.2), if_neg (fun k => hl k.2)]
theorem l7Machine_ev {ws : List Txt} (h : OkW ws) : Ev (fun k => spec_l7Machine.f k (trN (preL ws) ws)) (machW ws) := by
 have hP := h.pre
 have eget : ∀ {i}, i < (preL ws).length → rd (endsF ws) (i : Int) = (lastL (resL ws) ((resL ws).getD i []) : Int) := fun {i} hi => by rw [rd_nat, endsF_get hi]
 have edges : ∀ i, i < (preL ws).length → ∀ acc r, Ev (fun k => spec_l7Machine.l2 k (kidsW ws) (endsF ws) (placeP ws (preL ws).length) (wrap64 ((i : Int) + 1)) (trN (preL ws) ws) (acc ++ [stW ws ((resL ws).getD i [])])) r → acc.length ≤ 1000 →
   ∀ d j, j + d = (kidW ws i).length → Ev (fun k => spec_l7Machine.l3 k (kidsW ws) (endsF ws) (placeP ws (preL ws).length) (i : Int) (j : Int) (trN (preL ws) ws) acc (decide ([] ∈ (resL ws).getD i [])) (((letsL ((resL ws).getD i [])).take j).map (edgeW ws ((resL ws).getD i [])))) r := by
  intro i hi acc r hr hacc d
  have hkl : (kidW ws i).length = (letsL ((resL ws).getD i [])).length := by rw [kidW_length, resL_get hi]
  have l26 := letsL_length ((resL ws).getD i [])
  induction d with
  | zero =>
   intro j hj
   refine Ev.step (fun k => spec_l7Machine.l3.eq_2 ..) (Ev.ifT (by omega) (Ev.ifT (by rw [kidsW_length]; omega) ?_))
   rw [kidsW_rd hi, List.take_of_length_le (by omega), ← stW_eq]
   exact Ev.ifF (by omega) (Ev.ifT (by omega) hr)
  | succ d ih =>
   intro j hj
   have hjk : j < (kidW ws i).length := by omega
   obtain ⟨q, q1, q2, q3, q4, q5, q6⟩ := kid_at h hi hjk
   have hq := lastR q2
   refine Ev.step (fun k => spec_l7Machine.l3.eq_2 ..) (Ev.ifT (by omega) (Ev.ifT (by rw [kidsW_length]; omega) ?_))
   rw [kidsW_rd hi, rd_nat (kidW ws i), q1, eget q2, placeP_last q2, fL_all, if_pos (res_mem q2), q5, q6]
   refine Ev.ifT (by omega) (Ev.ifT (by omega) (Ev.ifT (by omega) (Ev.ifT (by rw [trN_length]; omega) (Ev.ifT (by rw [endsF_length]; omega) (Ev.ifT (by omega) (Ev.ifT (by rw [placeP_length, ← q6]; omega) (Ev.ifT (by rw [List.length_map, List.length_take]; omega) ?_)))))))
   have e : ((letsL ((resL ws).getD i [])).take j).map (edgeW ws ((resL ws).getD i [])) ++ [(⟨(((letsL ((resL ws).getD i [])).getD j 0).toNat : Int) - 97, ((dL ws).idxOf (succL ((resL ws).getD i []) ((letsL ((resL ws).getD i [])).getD j 0)) : Int)⟩ : S78)] = ((letsL ((resL ws).getD i [])).take (j + 1)).map (edgeW ws ((resL ws).getD i [])) := by
    rw [take_succ_getD 0 (by omega), List.map_append]
    rfl
   rw [e, wrap64_succ j (by omega)]
   exact ih (j + 1) (by omega)
 have states : ∀ d i, i + d = (preL ws).length → Ev (fun k => spec_l7Machine.l2 k (kidsW ws) (endsF ws) (placeP ws (preL ws).length) (i : Int) (trN (preL ws) ws) ((fL ws i).map (stW ws))) (machW ws) := by
  intro d
  induction d with
  | zero =>
   intro i hi
   rw [show i = (preL ws).length from by omega, fL_all]
   exact Ev.step (fun k => spec_l7Machine.l2.eq_2 ..) (Ev.ifF (by rw [endsF_length]; omega) (Ev.now _))
  | succ d ih =>
   intro i hd
   have hi : i < (preL ws).length := by omega
   have hl := lastR hi
   have hfl := fL_length ws i (by omega)
   refine Ev.step (fun k => spec_l7Machine.l2.eq_2 ..) (Ev.ifT (by rw [endsF_length]; omega) (Ev.ifT (by omega) ?_))
   rw [eget hi]
   refine Ev.ifT (by omega) (Ev.ifT (by rw [placeP_length]; omega) ?_)
   rw [placeP_last hi, fL_all, if_pos (res_mem hi), List.length_map]
   have hih := ih (i + 1) (by omega)
   by_cases hn : (resL ws).getD i [] ∈ fL ws i
   ·
    refine Ev.ifF (by have := idx_old (ws := ws) (n := i) (by omega) hn; omega) ?_
    rw [wrap64_succ i (by omega)]
    rw [fL_succ hi, if_pos hn] at hih
    exact hih
   ·
    refine Ev.ifT (by rw [idx_first hi hn]) (Ev.ifT (by rw [trN_length]; omega) ?_)
    rw [end_eq hi]
    rw [fL_succ hi, if_neg hn, List.map_append] at hih
    have := edges i hi ((fL ws i).map (stW ws)) (machW ws) (by rw [wrap64_succ i (by omega)]; exact hih) (by rw [List.length_map]; omega) (kidW ws i).length 0 (by omega)
    exact this
 have nums : ∀ d i, i + d = (preL ws).length → Ev (fun k => spec_l7Machine.l1 k (kidsW ws) (endsF ws) (placeP ws i) ((fL ws i).length : Int) (i : Int) (trN (preL ws) ws)) (machW ws) := by
  intro d
  induction d with
  | zero =>
   intro i hi
   rw [show i = (preL ws).length from by omega]
   exact Ev.step (fun k => spec_l7Machine.l1.eq_2 ..) (Ev.ifF (by rw [endsF_length]; omega) (states (preL ws).length 0 (by omega)))
  | succ d ih =>
   intro i hd
   have hi : i < (preL ws).length := by omega
   have hl := lastR hi
   have hfl := fL_length ws i (by omega)
   refine Ev.step (fun k => spec_l7Machine.l1.eq_2 ..) (Ev.ifT (by rw [endsF_length]; omega) (Ev.ifT (by omega) ?_))
   rw [eget hi]
   refine Ev.ifT (by omega) (Ev.ifT (by rw [placeP_length]; omega) ?_)
   rw [placeP_last hi]
   have hih := ih (i + 1) (by omega)
   by_cases hn : (resL ws).getD i [] ∈ fL ws i
   ·
    rw [if_pos hn, wrap64_succ i (by omega)]
    refine Ev.ifF (by omega) ?_
    have e : placeP ws (i + 1) = placeP ws i := by
     unfold placeP
     rw [fL_succ hi, if_pos hn]
    rw [e, fL_succ hi, if_pos hn] at hih
    exact hih
   ·
    rw [if_neg hn, wrap64_succ i (by omega)]
    refine Ev.ifT (by omega) ?_
    rw [Int.toNat_natCast, placeP_set hi hn, wrap64_succ _ (by omega)]
    rw [show (fL ws (i + 1)).length = (fL ws i).length + 1 from by rw [fL_succ hi, if_neg hn, List.length_append]; rfl] at hih
    exact hih
 have fills : ∀ d i, i + d = (preL ws).length → Ev (fun k => spec_l7Machine.l0 k (kidsW ws) (endsF ws) (List.replicate i (-1) ++ List.replicate d 0) 0 (i : Int) (trN (preL ws) ws)) (machW ws) := by
  intro d
  induction d with
  | zero =>
   intro i hi
   have e : List.replicate i (-1 : Int) ++ List.replicate 0 0 = placeP ws 0 := by
    rw [List.replicate_zero, List.append_nil]
    unfold placeP
    rw [fL_zero]
    apply List.ext_getElem
    ·
     simp; omega
    ·
     intro g g1 g2; simp
   rw [e]
   exact Ev.step (fun k => spec_l7Machine.l0.eq_2 ..) (Ev.ifF (by rw [endsF_length]; omega) (nums (preL ws).length 0 (by omega)))
  | succ d ih =>
   intro i hd
   refine Ev.step (fun k => spec_l7Machine.l0.eq_2 ..) (Ev.ifT (by rw [endsF_length]; omega) (Ev.ifT (by omega) (Ev.ifT (by simp; omega) ?_)))
   have e : (List.replicate i (-1 : Int) ++ List.replicate (d + 1) 0).set i (-1) = List.replicate (i + 1) (-1) ++ List.replicate d 0 := by
    rw [List.set_append_right _ _ (by simp), List.length_replicate, Nat.sub_self, List.replicate_succ, List.set_cons_zero, List.replicate_succ', List.append_assoc]
    rfl
   rw [Int.toNat_natCast, e, wrap64_succ i (by omega)]
   exact ih (i + 1) (by omega)
 unfold spec_l7Machine.f
 refine Ev.bind (l7Kids_ev h) (Ev.bind (l7Ends_ev h) (Ev.ifT (by omega) (Ev.ifT (by rw [endsF_length]; omega) ?_)))
 rw [Int.toNat_natCast, endsF_length]
 have := fills (preL ws).length 0 (by omega)
 rw [List.replicate_zero, List.nil_append] at this
 exact this
end Mach
end Go.Proofs.Ytnnkedeohfbkeaa.L
namespace Go.Proofs.Ytnnkedeohfbkeaa.L
open Go.RowKit Go.Proofs.Ytnnkedeohfbkeaa.P Go.Proofs.Ytnnkedeohfbkeaa.M Go.Proofs.YtnnkedeohfbkeaaW.PrintWords Go.Proofs.YtnnkedeohfbkeaaW.PrintLast Go.Proofs.YtnnkedeohfbkeaaW.PrintMore
theorem filt_cons_of {α : Type} {f : α → Option Bool} {x : α} {r ys : List α} {b : Bool} (h1 : f x = some b) (h2 : filt f r = some ys) : filt f (x :: r) = some (if b = true then x :: ys else ys) := by
 obtain ⟨q, hq, rfl⟩ := filt_some h2
 rw [filt_of (fun y => (f y).getD false) (fun y hy => by
  rcases List.mem_cons.1 hy with rfl | hy
  ·
   rw [h1]; rfl
  ·
   rw [hq y hy]; rfl), List.filter_cons]
 have e : (r.filter fun y => (f y).getD false) = r.filter q := List.filter_congr fun y hy => by rw [hq y hy]; rfl
 rw [e, h1]
 cases b <;> rfl
theorem filtB_ev (f : Nat → ByteArray → Option Bool) : ∀ (ws : List Txt) (q : Txt → Bool), (∀ w ∈ ws, Ev (fun k => f k (B w)) (q w)) → Ev (fun k => filt (f k) (ws.map B)) ((ws.filter q).map B)
 | [], q, _ => Ev.now _
 | w :: r, q, h => by
  obtain ⟨K1, h1⟩ := h w (by simp)
  obtain ⟨K2, h2⟩ := filtB_ev f r q fun x hx => h x (List.mem_cons_of_mem _ hx)
  refine ⟨max K1 K2, fun k hk => ?_⟩
  have a1 := h1 k (by omega)
  have a2 := h2 k (by omega)
  show filt (f k) (B w :: r.map B) = _
  rw [filt_cons_of a1 a2, List.filter_cons]
  cases q w <;> rfl
theorem HasPrefix_eq (s p : List UInt8) (hs : s.length ≤ 4611686018427387900) (hp : p.length ≤ 4611686018427387900) : strings_HasPrefix.f (B s) (B p) = some (hasPre s p) := by
 unfold strings_HasPrefix.f stringslite_HasPrefix.f hasPre
 by_cases h : p.length ≤ s.length
 ·
  rw [if_pos (by simp; omega), if_pos (by omega), if_pos (by simp; omega)]; simp
 ·
  rw [if_neg (by simp; omega)]
  have : (s.take p.length == p) = false := by
   simp only [beq_eq_false_iff_ne]
   intro e
   have := congrArg List.length e
   simp at this; omega
  simp [this]
end Go.Proofs.Ytnnkedeohfbkeaa.L
namespace Go.Proofs.Ytnnkedeohfbkeaa.L
open Go.RowKit Go.Proofs.Ytnnkedeohfbkeaa.P Go.Proofs.Ytnnkedeohfbkeaa.M Go.Proofs.YtnnkedeohfbkeaaW.PrintWords Go.Proofs.YtnnkedeohfbkeaaW.PrintLast Go.Proofs.YtnnkedeohfbkeaaW.PrintMore
namespace Mach
theorem under_m {ws : List Txt} (h : OkW ws) (p : Txt) (hp : p.length ≤ 4611686018427387900) : Ev (fun k => impl_Trie_under.f k (trN (preL ws) ws) (B p)) ((ws.filter fun w => hasPre w p).map B) := by
 unfold impl_Trie_under.f
 refine Ev.bind (words_ev h) (Ev.ifT (by rw [List.length_map]; have := h.len; omega) ?_)
 rw [filt_of (fun x => hasPre x.data.toList p) (fun x hx => by
  obtain ⟨w, hw, rfl⟩ := List.mem_map.1 hx
  rw [data_B]
  exact HasPrefix_eq w p (by have := h.le w hw; omega) hp)]
 rw [List.filter_map]
 have e : (fun x : ByteArray => hasPre x.data.toList p) ∘ B = fun w => hasPre w p := by
  funext w; show hasPre (B w).data.toList p = _; rw [data_B]
 rw [e]
 exact Ev.now _
theorem behind_ev {ws : List Txt} (h : OkW ws) (p : Txt) (hp : p.length ≤ 4611686018427387900) : Ev (fun k => impl_Trie_behind.f k (trN (preL ws) ws) (B p)) ((behL ws p).map B) := by
 unfold impl_Trie_behind.f
 refine Ev.bind (under_m h p hp) (Ev.ifT ⟨?_, ?_⟩ ?_)
 ·
  rw [List.length_map]
  have h1 := List.length_filter_le (fun w => hasPre w p) ws
  have h2 := h.len
  omega
 ·
  rw [List.all_eq_true]
  intro x hx
  obtain ⟨w, hw, rfl⟩ := List.mem_map.1 hx
  obtain ⟨h1, h2⟩ := List.mem_filter.1 hw
  have h3 := (hasPre_pre.1 h2).length_le
  have h4 := h.le w h1
  rw [decide_eq_true_eq, size_B, size_B]
  omega
 ·
  rw [List.map_map]
  unfold behL
  rw [List.map_map]
  have e : ∀ w ∈ ws.filter fun w => hasPre w p, (impl_Trie_behind.cut (B p) ∘ B) w = (B ∘ fun w : Txt => w.drop p.length) w := fun w _ => by
   show (B w).extract (B p).size (B w).size = B (w.drop p.length)
   rw [extract_B, size_B, size_B, List.take_of_length_le (by rw [List.length_drop]; omega)]
  rw [List.map_congr_left e]
  exact Ev.now _
theorem ends_in {ws : List Txt} (h : OkW ws) (P : List ByteArray) (N : List S65) (E : List ByteArray) (n : Int) (b : List Txt) (m : Nat) (hb : Res m b) (hm : m ≤ 12) (hl : b.length ≤ 40) (hE : E.length ≤ 1000000) (r : List ByteArray)
  (hr : Ev (fun k => impl_Trie_ends.l0 k (E ++ [B (joinT b)]) P (P.length : Int) (wrap64 (n + 1)) N) r) :
  ∀ d i (acc : Txt), i + d = b.length → acc ++ joinT (b.drop i) = joinT b → acc.length ≤ 13 * i → Ev (fun k => impl_Trie_ends.l1 k E (B acc) P (P.length : Int) n (b.map B) ((b.map B).length : Int) (i : Int) N) r := by
 intro d
 induction d with
 | zero =>
  intro i acc h1 h2 h3
  rw [List.drop_of_length_le (by omega)] at h2
  rw [show joinT [] = [] from rfl, List.append_nil] at h2
  refine Ev.step (fun k => impl_Trie_ends.l1.eq_2 ..) (Ev.ifF (by rw [List.length_map]; omega) (Ev.ifT (by omega) ?_))
  rw [h2]
  exact hr
 | succ d ih =>
  intro i acc h1 h2 h3
  have hi : i < b.length := by omega
  have hw := hb.len _ (getD_mem hi)
  rw [drop_cons_getD [] hi] at h2
  have e : (⟨#[44]⟩ : ByteArray) = B [44] := rfl
  refine Ev.step (fun k => impl_Trie_ends.l1.eq_2 ..) (Ev.ifT (by rw [List.length_map]; omega) (Ev.ifT (by omega) (Ev.ifT (by rw [List.length_map]; omega) ?_)))
  rw [rdB b i hi, e, append_B]
  refine Ev.ifT (by rw [size_B]; omega) (Ev.ifT (by rw [size_B, size_B, List.length_append, List.length_singleton]; omega) ?_)
  rw [append_B, wrap64_succ i (by omega)]
  refine ih (i + 1) _ (by omega) ?_ ?_
  ·
   rw [← h2, joinT]
   simp
  ·
   rw [List.length_append, List.length_append, List.length_singleton]
   omega
def endsT (ws : List Txt) : List ByteArray := (resL ws).map fun b => B (joinT b)
theorem endsT_length (ws : List Txt) : (endsT ws).length = (preL ws).length := by unfold endsT; rw [List.length_map, resL_length]
theorem ends_ev {ws : List Txt} (h : OkW ws) : Ev (fun k => impl_Trie_ends.f k (trN (preL ws) ws)) (endsT ws) := by
 have hP := h.pre
 have loop : ∀ d n, n + d = (preL ws).length → Ev (fun k => impl_Trie_ends.l0 k ((endsT ws).take n) ((preL ws).map B) (((preL ws).map B).length : Int) (n : Int) (trN (preL ws) ws)) (endsT ws) := by
  intro d
  induction d with
  | zero =>
   intro n hn
   rw [List.take_of_length_le (by rw [endsT_length]; omega)]
   exact Ev.step (fun k => impl_Trie_ends.l0.eq_2 ..) (Ev.ifF (by rw [List.length_map]; omega) (Ev.now _))
  | succ d ih =>
   intro n hn
   have hi : n < (preL ws).length := by omega
   have hw := (wordL_iff.1 (preL_word h.word (getD_mem hi))).2
   refine Ev.step (fun k => impl_Trie_ends.l0.eq_2 ..) (Ev.ifT (by rw [List.length_map]; omega) (Ev.ifT (by omega) (Ev.ifT (by rw [List.length_map]; omega) ?_)))
   rw [rdB _ n hi]
   refine Ev.bind (behind_ev h _ (by omega)) ?_
   have hb40 : (behL ws ((preL ws).getD n [])).length ≤ 40 := by
    unfold behL
    rw [List.length_map]
    exact Nat.le_trans (List.length_filter_le _ _) h.len
   refine ends_in h _ _ _ _ _ 12 (Res.beh12 h _) (Nat.le_refl _) hb40 (by rw [List.length_take]; omega) _ ?_ (behL ws ((preL ws).getD n [])).length 0 [] (by omega) rfl (by simp)
   rw [wrap64_succ n (by omega)]
   have e : (endsT ws).take n ++ [B (joinT (behL ws ((preL ws).getD n [])))] = (endsT ws).take (n + 1) := by
    rw [List.take_succ_eq_append_getElem (by rw [endsT_length]; exact hi)]
    congr 2
    unfold endsT
    rw [List.getElem_map, ← resL_get hi, getD_lt [] (by rw [resL_length]; exact hi)]
   rw [e]
   exact ih (n + 1) (by omega)
 unfold impl_Trie_ends.f
 exact Ev.bind (prefixes_tr h) (loop (preL ws).length 0 (by omega))
end Mach
end Go.Proofs.Ytnnkedeohfbkeaa.L
namespace Go.Proofs.Ytnnkedeohfbkeaa.L
open Go.RowKit Go.Proofs.Ytnnkedeohfbkeaa.P Go.Proofs.Ytnnkedeohfbkeaa.M Go.Proofs.YtnnkedeohfbkeaaW.PrintWords Go.Proofs.YtnnkedeohfbkeaaW.PrintLast Go.Proofs.YtnnkedeohfbkeaaW.PrintMore
namespace Mach
theorem kids_m {ws : List Txt} (h : OkW ws) {i : Nat} (hi : i < (preL ws).length) : Ev (fun k => impl_Trie_kids.f k (trN (preL ws) ws) (i : Int)) (kidW ws i) := by
 have hA := asc_preL ws
 have hC := clo_preL ws
 have hP := h.pre
 have cond : ∀ {n}, n < (preL ws).length → ((rd_T65 (trN (preL ws) ws) (n : Int)).f1 = (i : Int) ↔ isKid (preL ws) ((preL ws).getD i []) n = true) := fun {n} hn => by
  rcases Nat.eq_zero_or_pos n with h0 | h0
  ·
   subst h0
   obtain ⟨z1, z2⟩ := clo_zero hA hC
   rw [rdN _ ws 0 hn]
   unfold isKid
   rw [z2]
   have : (mkN (ndL (preL ws) ws [])).f1 = -1 := rfl
   rw [this]
   simp
   try omega
  ·
   rw [f1_pos ws hA hC hn h0]
   obtain ⟨p1, p2⟩ := clo_parent hA hC hn h0
   unfold isKid
   rw [decide_eq_true_eq]
   constructor
   ·
    intro e
    refine ⟨clo_pos hA hC hn h0, ?_⟩
    rw [← p2]
    congr 1
    omega
   ·
    rintro ⟨_, e⟩
    rw [e, placeL_get hA hi]
 have loop : ∀ d n, n + d = (preL ws).length → Ev (fun k => impl_Trie_kids.l0 k (i : Int) (kidU (preL ws) ((preL ws).getD i []) n) (trN (preL ws) ws) ((trN (preL ws) ws).length : Int) (n : Int)) (kidW ws i) := by
  intro d
  induction d with
  | zero =>
   intro n hn
   rw [show n = (preL ws).length from by omega, kidW_eq h]
   exact Ev.step (fun k => impl_Trie_kids.l0.eq_2 ..) (Ev.ifF (by rw [trN_length]; omega) (Ev.now _))
  | succ d ih =>
   intro n h1
   have hn : n < (preL ws).length := by omega
   have hk := kidU_length (preL ws) ((preL ws).getD i []) n
   have hih := ih (n + 1) (by omega)
   refine Ev.step (fun k => impl_Trie_kids.l0.eq_2 ..) (Ev.ifT (by rw [trN_length]; omega) (Ev.ifT (by omega) (Ev.ifT (by rw [trN_length]; omega) ?_)))
   rw [kidU_succ] at hih
   rw [wrap64_succ n (by omega)]
   by_cases hc : isKid (preL ws) ((preL ws).getD i []) n = true
   ·
    rw [if_pos hc] at hih
    exact Ev.ifT ((cond hn).2 hc) (Ev.ifT (by omega) hih)
   ·
    rw [if_neg hc, List.append_nil] at hih
    exact Ev.ifF (fun e => hc ((cond hn).1 e)) hih
 exact loop (preL ws).length 0 (by omega)
def keyT (b : List Txt) : ByteArray := B (joinT b)
theorem keyT_eq {n m : Nat} {a b : List Txt} (ha : Res n a) (hb : Res m b) : (keyT a).data.toList = (keyT b).data.toList ↔ a = b := by
 unfold keyT
 rw [data_B, data_B, joinT_res ha hb]
theorem has_key : ∀ (l : List (List Txt)) (b : List Txt), (∀ x ∈ l, Res 12 x) → Res 12 b → SM.has_ (l.map keyT) (keyT b) = decide (b ∈ l)
 | [], _, _, _ => rfl
 | x :: l, b, hl, hb => by
  rw [List.map_cons, SM.has_cons, has_key l b (fun y hy => hl y (List.mem_cons_of_mem _ hy)) hb, Bool.eq_iff_iff, Bool.or_eq_true, decide_eq_true_eq, decide_eq_true_eq, decide_eq_true_eq, keyT_eq (hl x List.mem_cons_self) hb, List.mem_cons]
  exact ⟨fun h => h.imp_left Eq.symm, fun h => h.imp_left Eq.symm⟩
theorem at_snoc (l : List ByteArray) (x p : ByteArray) : SM.at_ (l ++ [x]) p = if x.data.toList = p.data.toList then (l.length : Int) else SM.at_ l p := by
 unfold SM.at_
 rw [List.reverse_append]
 show (if _ then ((l.reverse.length : Nat) : Int) else _) = _
 rw [List.length_reverse]
 rfl
theorem at_key : ∀ (d : Nat) (l : List (List Txt)) (b : List Txt), l.length = d → (∀ x ∈ l, Res 12 x) → l.Nodup → b ∈ l → SM.at_ (l.map keyT) (keyT b) = (l.idxOf b : Int)
 | 0, l, b, hd, _, _, hm => by rw [List.length_eq_zero_iff.1 hd] at hm; cases hm
 | d + 1, l, b, hd, hl, hn, hm => by
  have hne : l ≠ [] := fun e => by rw [e] at hm; cases hm
  obtain ⟨r, y, rfl⟩ : ∃ r y, l = r ++ [y] := ⟨l.dropLast, l.getLast hne, (List.dropLast_concat_getLast hne).symm⟩
  have hrl : r.length = d := by rw [List.length_append, List.length_singleton] at hd; omega
  rw [List.map_append, List.map_singleton, at_snoc, List.length_map]
  rw [List.nodup_append] at hn
  have hb : Res 12 b := hl b hm
  by_cases e : y = b
  ·
   subst e
   have hnr : y ∉ r := fun k => hn.2.2 y k y (List.mem_singleton.2 rfl) rfl
   rw [if_pos rfl, idx_new hnr]
  ·
   have hbr : b ∈ r := by
    rcases List.mem_append.1 hm with k | k
    ·
     exact k
    ·
     exact absurd (List.mem_singleton.1 k).symm e
   rw [if_neg (fun k => e ((keyT_eq (hl y (List.mem_append_right _ (List.mem_singleton.2 rfl))) hb).1 k)), at_key d r b hrl (fun x hx => hl x (List.mem_append_left _ hx)) hn.1 hbr, idx_pre (List.prefix_append _ _) hbr]
theorem fL_res {ws : List Txt} (h : OkW ws) {n : Nat} (hn : n ≤ (preL ws).length) : ∀ x ∈ fL ws n, Res 12 x := fun x hx => dL_res h ((fL_pre' hn).subset hx)
theorem endsT_get {ws : List Txt} {n : Nat} (hn : n < (preL ws).length) : rdOf ByteArray.empty (endsT ws) (n : Int) = keyT ((resL ws).getD n []) := by
 unfold rdOf endsT
 rw [Int.toNat_natCast, getD_lt _ (by simpa [resL_length] using hn), List.getElem_map, getD_lt [] (by rw [resL_length]; exact hn)]
 rfl
theorem fB_eq {ws : List Txt} (h : OkW ws) : ∀ n, n ≤ (preL ws).length → impl_Trie_machine.fB (endsT ws) n = (fL ws n).map keyT
 | 0, _ => rfl
 | n + 1, hn => by
  rw [impl_Trie_machine.fB, fB_eq h n (by omega), endsT_get (by omega), has_key _ _ (fL_res h (by omega)) (dL_res h (res_mem (by omega))), fL_succ (by omega)]
  by_cases hm : (resL ws).getD n [] ∈ fL ws n
  ·
   rw [if_pos hm, if_pos (decide_eq_true hm)]
  ·
   rw [if_neg hm, if_neg (by rw [decide_eq_false hm]; exact Bool.false_ne_true), List.map_append]; rfl
def st0 (b : List Txt) : S77 := ⟨decide ([] ∈ b), []⟩
theorem sB_eq {ws : List Txt} (h : OkW ws) : ∀ n, n ≤ (preL ws).length → impl_Trie_machine.sB (trN (preL ws) ws) (endsT ws) n = (fL ws n).map st0
 | 0, _ => rfl
 | n + 1, hn => by
  rw [impl_Trie_machine.sB, sB_eq h n (by omega), fB_eq h n (by omega), endsT_get (by omega), has_key _ _ (fL_res h (by omega)) (dL_res h (res_mem (by omega))), fL_succ (by omega), end_eq (by omega)]
  by_cases hm : (resL ws).getD n [] ∈ fL ws n
  ·
   rw [if_pos hm, if_pos (decide_eq_true hm)]
  ·
   rw [if_neg hm, if_neg (by rw [decide_eq_false hm]; exact Bool.false_ne_true), List.map_append]; rfl
def idsW (ws : List Txt) (n : Nat) : List Int := (List.range n).map fun j => ((dL ws).idxOf ((resL ws).getD j []) : Int)
theorem iB_eq {ws : List Txt} (h : OkW ws) : ∀ n, n ≤ (preL ws).length → impl_Trie_machine.iB (endsT ws) n = idsW ws n
 | 0, _ => rfl
 | n + 1, hn => by
  rw [impl_Trie_machine.iB, iB_eq h n (by omega), fB_eq h (n + 1) hn, endsT_get (by omega), at_key _ _ _ rfl (fL_res h hn) (fL_nodup _ _) (fL_mem (by omega)), ← idx_met hn (fL_mem (by omega))]
  unfold idsW
  rw [List.range_succ, List.map_append]
  rfl
theorem idsW_get {ws : List Txt} {n j : Nat} (hj : j < n) : rd (idsW ws n) (j : Int) = ((dL ws).idxOf ((resL ws).getD j []) : Int) := by
 rw [rd_nat]
 unfold idsW
 rw [getD_lt 0 (by simpa using hj)]
 simp
theorem idsW_length (ws : List Txt) (n : Nat) : (idsW ws n).length = n := by simp [idsW]
def doneW (ws : List Txt) (n : Nat) : List Bool := (dL ws).map fun b => decide (b ∈ fL ws n)
def stsW (ws : List Txt) (n : Nat) : List S77 := (dL ws).map fun b => if b ∈ fL ws n then stW ws b else st0 b
theorem map_idx {α : Type} (z : α) {ws : List Txt} {b : List Txt} (hb : b ∈ dL ws) (g : List Txt → α) : ((dL ws).map g).getD ((dL ws).idxOf b) z = g b := by
 rw [List.getD_eq_getElem?_getD, List.getElem?_map, idx_get hb]
 rfl
theorem map_set {α : Type} {ws : List Txt} {b : List Txt} (hb : b ∈ dL ws) (g g' : List Txt → α) (hg : ∀ x ∈ dL ws, x ≠ b → g' x = g x) : ((dL ws).map g).set ((dL ws).idxOf b) (g' b) = (dL ws).map g' := by
 apply List.ext_getElem
 ·
  rw [List.length_set, List.length_map, List.length_map]
 ·
  intro j j1 j2
  rw [List.getElem_set, List.getElem_map, List.getElem_map]
  have hj : j < (dL ws).length := by rw [List.length_map] at j2; exact j2
  by_cases e : (dL ws).idxOf b = j
  ·
   rw [if_pos e]
   have h1 := idx_get hb
   rw [e, List.getElem?_eq_getElem hj] at h1
   rw [Option.some.inj h1]
  ·
   rw [if_neg e]
   refine (hg _ (List.getElem_mem hj) fun k => e ?_).symm
   have hnd : (dL ws).Nodup := by have := fL_nodup ws (preL ws).length; rwa [fL_all] at this
   rw [← k]
   exact idxOf_nodup hnd j hj
theorem machine_ev {ws : List Txt} (h : OkW ws) : Ev (fun k => impl_Trie_machine.f k (trN (preL ws) ws)) (machW ws, idsW ws (preL ws).length) := by
 have hP := h.pre
 have hDl := dL_length h
 have loop : ∀ d i, i + d = (preL ws).length → Ev (fun k => impl_Trie_machine.l1 k (trN (preL ws) ws) (idsW ws (preL ws).length) d i (doneW ws i) (stsW ws i)) (machW ws) := by
  intro d
  induction d with
  | zero =>
   intro i hi
   have e : stsW ws i = machW ws := by
    unfold stsW machW
    refine List.map_congr_left fun b hb => ?_
    rw [show i = (preL ws).length from by omega, fL_all, if_pos hb]
   rw [e]
   exact Ev.now _
  | succ d ih =>
   intro i hd
   have hi : i < (preL ws).length := by omega
   have hm := res_mem hi
   have hlt := idx_lt hm
   have hih := ih (i + 1) (by omega)
   have hdone : rdOf false (doneW ws i) ((dL ws).idxOf ((resL ws).getD i []) : Int) = decide ((resL ws).getD i [] ∈ fL ws i) := by
    unfold rdOf doneW
    rw [Int.toNat_natCast, map_idx false hm]
   have hsts : rd_T77 (stsW ws i) ((dL ws).idxOf ((resL ws).getD i []) : Int) = if (resL ws).getD i [] ∈ fL ws i then stW ws ((resL ws).getD i []) else st0 ((resL ws).getD i []) := by
    unfold rd_T77 stsW
    rw [Int.toNat_natCast, map_idx _ hm]
   unfold impl_Trie_machine.l1
   rw [idsW_get hi, hdone]
   refine Ev.ifT ⟨by omega, by unfold stsW; rw [List.length_map]; omega, by unfold doneW; rw [List.length_map]; omega⟩ ?_
   by_cases hn : (resL ws).getD i [] ∈ fL ws i
   ·
    refine Ev.ifT (decide_eq_true hn) ?_
    have e1 : doneW ws (i + 1) = doneW ws i := by unfold doneW; rw [fL_succ hi, if_pos hn]
    have e2 : stsW ws (i + 1) = stsW ws i := by unfold stsW; rw [fL_succ hi, if_pos hn]
    rw [e1, e2] at hih
    exact hih
   ·
    refine Ev.ifF (by rw [decide_eq_false hn]; exact Bool.false_ne_true) (Ev.bind (kids_m h hi) ?_)
    rw [hsts, if_neg hn]
    have l26 := letsL_length ((resL ws).getD i [])
    have hkl : (kidW ws i).length = (letsL ((resL ws).getD i [])).length := by rw [kidW_length, resL_get hi]
    have hok : impl_Trie_machine.okk (trN (preL ws) ws) (idsW ws (preL ws).length) (kidW ws i) = true := by
     unfold impl_Trie_machine.okk
     rw [List.all_eq_true]
     intro x hx
     obtain ⟨j, hj, rfl⟩ := List.getElem_of_mem hx
     obtain ⟨q, q1, q2, _⟩ := kid_at h hi hj
     rw [getD_lt 0 hj] at q1
     rw [q1, decide_eq_true_eq, trN_length, idsW_length]
     omega
    refine Ev.ifT ⟨hok, by omega, by unfold st0; simp⟩ ?_
    have hF : ∀ x, x ∈ fL ws (i + 1) ↔ x ∈ fL ws i ∨ x = (resL ws).getD i [] := fun x => by rw [fL_succ hi, if_neg hn, List.mem_append, List.mem_singleton]
    have e1 : (doneW ws i).set ((dL ws).idxOf ((resL ws).getD i []) : Int).toNat true = doneW ws (i + 1) := by
     rw [Int.toNat_natCast]
     have := map_set hm (fun b => decide (b ∈ fL ws i)) (fun b => decide (b ∈ fL ws (i + 1))) (fun x _ hx => by
      congr 1
      exact propext ((hF x).trans ⟨fun k => k.resolve_right hx, .inl⟩))
     rw [decide_eq_true (fL_mem hi)] at this
     exact this
    have e2 : (stsW ws i).set ((dL ws).idxOf ((resL ws).getD i []) : Int).toNat (impl_Trie_machine.add (trN (preL ws) ws) (idsW ws (preL ws).length) (kidW ws i) (st0 ((resL ws).getD i []))) = stsW ws (i + 1) := by
     rw [Int.toNat_natCast]
     have := map_set hm (fun b => if b ∈ fL ws i then stW ws b else st0 b) (fun b => if b ∈ fL ws (i + 1) then stW ws b else st0 b) (fun x _ hx => by
      have : x ∈ fL ws (i + 1) ↔ x ∈ fL ws i := (hF x).trans ⟨fun k => k.resolve_right hx, .inl⟩
      by_cases k : x ∈ fL ws i
      ·
       show (if _ then _ else _) = (if _ then _ else _)
       rw [if_pos k, if_pos (this.2 k)]
      ·
       show (if _ then _ else _) = (if _ then _ else _)
       rw [if_neg k, if_neg (fun z => k (this.1 z))])
     simp only [if_pos (fL_mem hi)] at this
     have e3 : impl_Trie_machine.add (trN (preL ws) ws) (idsW ws (preL ws).length) (kidW ws i) (st0 ((resL ws).getD i [])) = stW ws ((resL ws).getD i []) := by
      rw [stW_eq]
      unfold impl_Trie_machine.add st0
      congr 1
      rw [List.nil_append]
      apply List.ext_getElem
      ·
       rw [List.length_map, List.length_map, hkl]
      ·
       intro j j1 j2
       have hj : j < (kidW ws i).length := by rw [List.length_map] at j1; exact j1
       obtain ⟨q, q1, q2, q3, q4, q5, q6⟩ := kid_at h hi hj
       rw [getD_lt 0 hj] at q1
       rw [getD_lt 0 (by omega)] at q5 q6
       rw [List.getElem_map, List.getElem_map, q1, q5, idsW_get q2, q6]
       rfl
     rw [e3]
     exact this
    rw [e1, e2]
    exact hih
 unfold impl_Trie_machine.f
 refine Ev.bind (ends_ev h) (Ev.ifT ⟨by rw [endsT_length, trN_length], by rw [trN_length]; omega, ?_⟩ ?_)
 ·
  unfold SM.okL
  rw [Bool.and_eq_true, List.all_eq_true, decide_eq_true_eq, endsT_length]
  refine ⟨fun x hx => ?_, by omega⟩
  unfold endsT at hx
  obtain ⟨b, hb, rfl⟩ := List.mem_map.1 hx
  obtain ⟨p, _, rfl⟩ := List.mem_map.1 hb
  have h1 := joinT_length (behL ws p) 12 (Res.beh12 h p).len
  have h2 : (behL ws p).length ≤ 40 := by
   unfold behL
   rw [List.length_map]
   exact Nat.le_trans (List.length_filter_le _ _) h.len
  rw [decide_eq_true_eq, size_B]
  have h3 : (behL ws p).length * 13 ≤ 40 * 13 := Nat.mul_le_mul_right _ h2
  omega
 ·
  rw [trN_length, iB_eq h _ (Nat.le_refl _), sB_eq h _ (Nat.le_refl _), fL_all, List.length_map]
  have e1 : List.replicate (dL ws).length false = doneW ws 0 := by
   unfold doneW
   rw [fL_zero]
   apply List.ext_getElem
   ·
    simp
   ·
    intro j j1 j2; simp
  have e2 : (dL ws).map st0 = stsW ws 0 := by
   unfold stsW
   refine List.map_congr_left fun b hb => ?_
   rw [fL_zero, if_neg (by simp)]
  rw [e1, e2]
  exact Ev.bind (loop (preL ws).length 0 (by omega)) (Ev.now _)
end Mach
end Go.Proofs.Ytnnkedeohfbkeaa.L
namespace Go.Proofs.Ytnnkedeohfbkeaa.L
open Go.RowKit Go.Proofs.Ytnnkedeohfbkeaa.P Go.Proofs.Ytnnkedeohfbkeaa.M Go.Proofs.YtnnkedeohfbkeaaW.PrintWords Go.Proofs.YtnnkedeohfbkeaaW.PrintLast Go.Proofs.YtnnkedeohfbkeaaW.PrintMore
theorem eqA2_self (a b : Int) : laws_eqIntA2.f a b a b = some true := by unfold laws_eqIntA2.f; simp
abbrev Pr := S78
theorem eqIntA2S_loop (l : List Pr) (hl : l.length ≤ 1000000000) : ∀ (d n : Nat), n + d = l.length → Ev (fun k => laws_eqIntA2S.l0 k l l (n : Int)) true := by
 intro d
 induction d with
 | zero =>
  intro n hn
  exact Ev.step (fun k => laws_eqIntA2S.l0.eq_2 ..) (Ev.ifF (by omega) (Ev.now _))
 | succ d ih =>
  intro n hn
  refine Ev.step (fun k => laws_eqIntA2S.l0.eq_2 ..) (Ev.ifT (by omega) (Ev.ifT (by omega) (Ev.ifT (by omega) ?_)))
  rw [eqA2_self]
  refine Ev.some_bind (Ev.ifT rfl ?_)
  rw [wrap64_succ n (by omega)]
  exact ih (n + 1) (by omega)
theorem eqIntA2S_ev (l : List Pr) (hl : l.length ≤ 1000000000) : Ev (fun k => laws_eqIntA2S.f k l l) true := by
 unfold laws_eqIntA2S.f
 exact Ev.ifT rfl (eqIntA2S_loop l hl l.length 0 (by omega))
theorem aN_id : ∀ i : Nat, i ≤ 1000000000 → laws_markIntA2S.aN 1 i = 2 * (i : Int) + 1
 | 0, _ => rfl
 | i + 1, h => by
  rw [laws_markIntA2S.aN, aN_id i (by omega), wrap64_id (x := 2 * (i : Int) + 1 + 1) (by omega) (by omega), wrap64_id (by omega) (by omega)]
  omega
theorem aN_hd : ∀ i : Nat, laws_heldIntA2S.aN 1 i = laws_markIntA2S.aN 1 i
 | 0 => rfl
 | i + 1 => by rw [laws_markIntA2S.aN, laws_heldIntA2S.aN, aN_hd i]
theorem mN_rd (l : List Pr) : ∀ n : Nat, n ≤ l.length → ∀ i, i < n → (laws_markIntA2S.mN l 1 n)[i]? = some ⟨laws_markIntA2S.aN 1 i, wrap64 (laws_markIntA2S.aN 1 i + 1)⟩
 | 0, _, i, h => absurd h (by omega)
 | n + 1, hn, i, h => by
  rw [laws_markIntA2S.mN]
  by_cases e : i = n
  ·
   subst e
   rw [List.getElem?_set_self (by rw [laws_markIntA2S.mN_length]; omega)]
  ·
   rw [List.getElem?_set_ne (by omega)]
   exact mN_rd l n (by omega) i (by omega)
theorem markA2S_eq (l : List Pr) (hl : l.length ≤ 1000000000) : laws_markIntA2S.f l 1 = some (2 * (l.length : Int) + 1, laws_markIntA2S.mN l 1 l.length) := by
 unfold laws_markIntA2S.f
 rw [if_pos hl, aN_id _ hl]
theorem heldA2S_eq (l : List Pr) (hl : l.length ≤ 1000000000) : laws_heldIntA2S.f (laws_markIntA2S.mN l 1 l.length) 1 = some (2 * (l.length : Int) + 1) := by
 unfold laws_heldIntA2S.f
 rw [if_pos, laws_markIntA2S.mN_length, aN_hd, aN_id _ hl]
 rw [laws_markIntA2S.mN_length]
 refine ⟨hl, fun i hi => ?_⟩
 have h := mN_rd l l.length (Nat.le_refl _) i hi
 rw [aN_hd]
 have e : rd_T78 (laws_markIntA2S.mN l 1 l.length) (i : Int) = ⟨laws_markIntA2S.aN 1 i, wrap64 (laws_markIntA2S.aN 1 i + 1)⟩ := by
  unfold rd_T78
  rw [Int.toNat_natCast, List.getD_eq_getElem?_getD, h]
  rfl
 rw [e]
 exact ⟨rfl, rfl⟩
end Go.Proofs.Ytnnkedeohfbkeaa.L
namespace Go.Proofs.Ytnnkedeohfbkeaa.L
open Go.RowKit Go.Proofs.Ytnnkedeohfbkeaa.P Go.Proofs.Ytnnkedeohfbkeaa.M Go.Proofs.YtnnkedeohfbkeaaW.PrintWords Go.Proofs.YtnnkedeohfbkeaaW.PrintLast Go.Proofs.YtnnkedeohfbkeaaW.PrintMore
namespace MMk
abbrev St := S77
theorem rd_at (pre xs : List St) (x : St) : rd_T77 (pre ++ x :: xs) (pre.length : Int) = x := by
 unfold rd_T77
 rw [Int.toNat_natCast, List.getD_eq_getElem?_getD, List.getElem?_append_right (Nat.le_refl _), Nat.sub_self]
 rfl
theorem eqState_ev (x : St) (h : x.f1.length ≤ 1000000000) : Ev (fun k => laws_eqState.f k x.f0 x.f1 x.f0 x.f1) true := by
 unfold laws_eqState.f
 exact Ev.ifF (by simp) (Ev.bind (eqIntA2S_ev _ h) (Ev.ifT rfl (Ev.now _)))
theorem eqStateS_loop (l : List St) (hl : l.length ≤ 1000000000) : ∀ (xs pre : List St), pre ++ xs = l → (∀ x ∈ xs, x.f1.length ≤ 1000000000) → Ev (fun k => laws_eqStateS.l0 k l l (pre.length : Int)) true
 | [], pre, e, _ => by
  refine Ev.step (fun k => laws_eqStateS.l0.eq_2 ..) (Ev.ifF ?_ (Ev.now _))
  rw [← e, List.append_nil]; omega
 | x :: xs, pre, e, hx => by
  have hn : pre.length < l.length := by rw [← e, List.length_append, List.length_cons]; omega
  have er : rd_T77 l (pre.length : Int) = x := by rw [← e]; exact rd_at pre xs x
  refine Ev.step (fun k => laws_eqStateS.l0.eq_2 ..) (Ev.ifT (by omega) (Ev.ifT (by omega) (Ev.ifT (by omega) ?_)))
  rw [er, wrap64_succ pre.length (by omega)]
  have ih := eqStateS_loop l hl xs (pre ++ [x]) (by rw [List.append_assoc]; exact e) (fun y hy => hx y (List.mem_cons_of_mem _ hy))
  rw [List.length_append, List.length_singleton] at ih
  exact Ev.bind (eqState_ev x (hx x (List.mem_cons_self ..))) (Ev.ifT rfl ih)
theorem eqMachine_ev (l : List St) (hl : l.length ≤ 1000000000) (hx : ∀ x ∈ l, x.f1.length ≤ 1000000000) : Ev (fun k => laws_eqMachine.f k l l) true := by
 unfold laws_eqMachine.f laws_eqStateS.f
 exact Ev.bind (Ev.ifT rfl (eqStateS_loop l hl l [] rfl hx)) (Ev.ifT rfl (Ev.now _))
theorem aN_gen (a : Int) (h0 : 0 ≤ a) : ∀ i : Nat, a + 2 * (i : Int) ≤ 1000000000000000000 → laws_markIntA2S.aN a i = a + 2 * (i : Int)
 | 0, _ => by rw [laws_markIntA2S.aN]; omega
 | i + 1, h => by
  rw [laws_markIntA2S.aN, aN_gen a h0 i (by omega), wrap64_id (x := a + 2 * (i : Int) + 1) (by omega) (by omega), wrap64_id (by omega) (by omega)]
  omega
theorem aN_hd (a : Int) : ∀ i : Nat, laws_heldIntA2S.aN a i = laws_markIntA2S.aN a i
 | 0 => rfl
 | i + 1 => by rw [laws_markIntA2S.aN, laws_heldIntA2S.aN, aN_hd a i]
theorem mN_rd (a : Int) (l : List S78) : ∀ n : Nat, n ≤ l.length → ∀ i, i < n → (laws_markIntA2S.mN l a n)[i]? = some ⟨laws_markIntA2S.aN a i, wrap64 (laws_markIntA2S.aN a i + 1)⟩
 | 0, _, i, h => absurd h (by omega)
 | n + 1, hn, i, h => by
  rw [laws_markIntA2S.mN]
  by_cases e : i = n
  ·
   subst e
   rw [List.getElem?_set_self (by rw [laws_markIntA2S.mN_length]; omega)]
  ·
   rw [List.getElem?_set_ne (by omega)]
   exact mN_rd a l n (by omega) i (by omega)
theorem mark_eq (a : Int) (l : List S78) (hl : l.length ≤ 1000000000) (h0 : 0 ≤ a) (h1 : a ≤ 100000000000000000) : laws_markIntA2S.f l a = some (a + 2 * (l.length : Int), laws_markIntA2S.mN l a l.length) := by
 unfold laws_markIntA2S.f
 rw [if_pos hl, aN_gen a h0 _ (by omega)]
theorem held_eq (a : Int) (l : List S78) (hl : l.length ≤ 1000000000) (h0 : 0 ≤ a) (h1 : a ≤ 100000000000000000) : laws_heldIntA2S.f (laws_markIntA2S.mN l a l.length) a = some (a + 2 * (l.length : Int)) := by
 unfold laws_heldIntA2S.f
 rw [if_pos, laws_markIntA2S.mN_length, aN_hd, aN_gen a h0 _ (by omega)]
 rw [laws_markIntA2S.mN_length]
 refine ⟨hl, fun i hi => ?_⟩
 have h := mN_rd a l l.length (Nat.le_refl _) i hi
 rw [aN_hd]
 have e : rd_T78 (laws_markIntA2S.mN l a l.length) (i : Int) = ⟨laws_markIntA2S.aN a i, wrap64 (laws_markIntA2S.aN a i + 1)⟩ := by
  unfold rd_T78
  rw [Int.toNat_natCast, List.getD_eq_getElem?_getD, h]
  rfl
 rw [e]
 exact ⟨rfl, rfl⟩
def endK (k : Int) : List St → Int
 | [] => k
 | x :: xs => endK (k + 1 + 2 * (x.f1.length : Int)) xs
def marked (k : Int) : List St → List St
 | [] => []
 | x :: xs => ⟨Int.tmod k 3 == 0, laws_markIntA2S.mN x.f1 (k + 1) x.f1.length⟩ :: marked (k + 1 + 2 * (x.f1.length : Int)) xs
def okK (k : Int) : List St → Prop
 | [] => True
 | x :: xs => 0 ≤ k ∧ k ≤ 10000000000000000 ∧ x.f1.length ≤ 1000000000 ∧ okK (k + 1 + 2 * (x.f1.length : Int)) xs
theorem go_eq : ∀ (xs pre : List St) (k : Int), okK k xs → laws_markStateS.go xs.length pre.length k (pre ++ xs) = some (endK k xs, pre ++ marked k xs)
 | [], pre, k, _ => rfl
 | x :: xs, pre, k, h => by
  obtain ⟨h0, h1, h2, h3⟩ := h
  rw [List.length_cons, laws_markStateS.go, rd_at, wrap64_id (x := k + 1) (by omega) (by omega), mark_eq _ _ h2 (by omega) (by omega), Option.bind_some, List.set_append_right _ _ (Nat.le_refl _), Nat.sub_self, List.set_cons_zero]
  have ih := go_eq xs (pre ++ [⟨Int.tmod k 3 == 0, laws_markIntA2S.mN x.f1 (k + 1) x.f1.length⟩]) _ h3
  rw [List.length_append, List.length_singleton, List.append_assoc] at ih
  refine ih.trans ?_
  rw [List.append_assoc]
  rfl
theorem marked_length : ∀ (xs : List St) (k : Int), (marked k xs).length = xs.length
 | [], _ => rfl
 | x :: xs, k => by rw [marked, List.length_cons, List.length_cons, marked_length xs]
theorem held_loop (l : List St) (hl : l.length ≤ 1000000000) : ∀ (xs pre : List St) (k : Int), pre ++ marked k xs = l → okK k xs → Ev (fun t => laws_heldStateS.l0 t l k (pre.length : Int)) (endK k xs)
 | [], pre, k, e, _ => by
  refine Ev.step (fun k => laws_heldStateS.l0.eq_2 ..) (Ev.ifF ?_ (Ev.now _))
  rw [← e, marked, List.append_nil]; omega
 | x :: xs, pre, k, e, h => by
  obtain ⟨h0, h1, h2, h3⟩ := h
  have hn : pre.length < l.length := by rw [← e, marked, List.length_append, List.length_cons]; omega
  have er : rd_T77 l (pre.length : Int) = ⟨Int.tmod k 3 == 0, laws_markIntA2S.mN x.f1 (k + 1) x.f1.length⟩ := by rw [← e, marked]; exact rd_at pre _ _
  refine Ev.step (fun k => laws_heldStateS.l0.eq_2 ..) (Ev.ifT (by omega) (Ev.ifT (by omega) ?_))
  rw [er, wrap64_succ pre.length (by omega), wrap64_id (x := k + 1) (by omega) (by omega)]
  show Ev (fun _ => if ((Int.tmod k 3 == 0) != (Int.tmod k 3 == 0)) = true then _ else _) _
  refine Ev.ifF (by simp) ?_
  have hh : laws_heldIntA2S.f (laws_markIntA2S.mN x.f1 (k + 1) x.f1.length) (k + 1) = some (k + 1 + 2 * (x.f1.length : Int)) := held_eq _ _ h2 (by omega) (by omega)
  have ih := held_loop l hl xs (pre ++ [⟨Int.tmod k 3 == 0, laws_markIntA2S.mN x.f1 (k + 1) x.f1.length⟩]) _ (by rw [List.append_assoc]; exact e) h3
  rw [List.length_append, List.length_singleton] at ih
  show Ev (fun t => (laws_heldIntA2S.f (laws_markIntA2S.mN x.f1 (k + 1) x.f1.length) (k + 1)).bind fun t527 => if t527 < 0 then some (-1) else laws_heldStateS.l0 t l t527 ((pre.length + 1 : Nat) : Int)) _
  rw [hh]
  exact Ev.some_bind (Ev.ifF (by omega) ih)
theorem okK_of (m : Nat) (hm : m ≤ 1000) : ∀ (xs : List St) (k : Int), 0 ≤ k → k + 3000 * (xs.length : Int) ≤ 10000000000000000 → (∀ x ∈ xs, x.f1.length ≤ m) → okK k xs
 | [], _, _, _, _ => trivial
 | x :: xs, k, h0, h1, hx => by
  have hl := hx x (List.mem_cons_self ..)
  rw [List.length_cons] at h1
  exact ⟨h0, by omega, by omega, okK_of m hm xs _ (by omega) (by omega) (fun y hy => hx y (List.mem_cons_of_mem _ hy))⟩
theorem endK_pos : ∀ (xs : List St) (k : Int), 0 ≤ k → 0 ≤ endK k xs
 | [], _, h => h
 | x :: xs, k, h => endK_pos xs _ (by omega)
theorem marks {l : List St} (hl : l.length ≤ 1000000) (hx : ∀ x ∈ l, x.f1.length ≤ 1000) : laws_markMachine.f l 1 = some (endK 1 l, marked 1 l) ∧ Ev (fun k => laws_heldMachine.f k (marked 1 l) 1) (endK 1 l) ∧ 0 ≤ endK 1 l := by
 have hk := okK_of 1000 (by omega) l 1 (by omega) (by omega) hx
 have hp := endK_pos l 1 (by omega)
 refine ⟨?_, ?_, hp⟩
 ·
  unfold laws_markMachine.f laws_markStateS.f
  rw [if_pos (by omega)]
  exact go_eq l [] 1 hk
 ·
  unfold laws_heldMachine.f laws_heldStateS.f
  have := held_loop (marked 1 l) (by rw [marked_length]; omega) l [] 1 rfl hk
  exact Ev.bind this (Ev.ifF (by omega) (Ev.now _))
end MMk
end Go.Proofs.Ytnnkedeohfbkeaa.L
namespace Go.Proofs.Ytnnkedeohfbkeaa.Pure
open Go.RowKit Go.Proofs.Ytnnkedeohfbkeaa.P Go.Proofs.Ytnnkedeohfbkeaa.M Go.Proofs.YtnnkedeohfbkeaaW.PrintWords Go.Proofs.YtnnkedeohfbkeaaW.PrintLast Go.Proofs.YtnnkedeohfbkeaaW.PrintMore
open Go.Proofs.Ytnnkedeohfbkeaa.L
open Mach MMk
theorem both (N : List Nd) : ∃ (r1 : List St) (r2 : Bool), Ev (fun k => spec_MachineOf.f k N) (r1, r2) ∧ Ev (fun k => impl_MachineOf.f k N) (r1, r2) ∧ r1.length ≤ 1000000 ∧ ∀ x ∈ r1, x.f1.length ≤ 1000 := by
 unfold spec_MachineOf.f impl_MachineOf.f
 rcases trie_both N with ⟨⟨ws, h, rfl⟩, t1, t2⟩ | ⟨_, t1, t2⟩
 ·
  refine ⟨machW ws, true, Ev.bind t1 (Ev.ifT rfl (Ev.bind (l7Machine_ev h) (Ev.now _))), Ev.bind t2 (Ev.ifT rfl (Ev.bind (machine_ev h) (Ev.now _))), ?_, ?_⟩
  ·
   rw [machW_length]
   have := dL_length h
   omega
  ·
   intro x hx
   obtain ⟨b, _, rfl⟩ := List.mem_map.1 hx
   rw [stW_eq, List.length_map]
   exact Nat.le_trans (letsL_length b) (by omega)
 ·
  exact ⟨[], false, Ev.bind t1 (Ev.ifF Bool.false_ne_true (Ev.now _)), Ev.bind t2 (Ev.ifF Bool.false_ne_true (Ev.now _)), by simp, by simp⟩
theorem FnExactMachineOf : laws_FnExactMachineOf.Pure := by
 intro l hl
 by_cases hs : l.length ≤ 1048576
 ·
  refine ⟨_, (szTrie_eq l hl).trans (by rw [if_pos hs]), Or.inr ⟨by omega, ?_⟩⟩
  obtain ⟨r1, r2, h1, h2, h3, h4⟩ := both (toN l)
  obtain ⟨m1, m2, m3⟩ := marks h3 h4
  obtain ⟨k1, e1⟩ := (toTrie_ev l hs)
  obtain ⟨k2, e2⟩ := h1
  obtain ⟨k3, e3⟩ := h2
  obtain ⟨k4, e4⟩ := eqMachine_ev r1 (by omega) (fun x hx => Nat.le_trans (h4 x hx) (by omega))
  obtain ⟨k5, e5⟩ := eqTrie_ev (toN l) (by rw [toN_length]; omega)
  obtain ⟨k6, e6⟩ := markTrie_ev (toN l) (by rw [toN_length]; omega)
  obtain ⟨k7, e7⟩ := m2
  let k := k1 + k2 + k3 + k4 + k5 + k6 + k7
  exact ⟨k, toN l, _, r1, _, r2, _, _, ⟨e1 k (by omega), e2 k (by omega), e3 k (by omega), e4 k (by omega), e5 k (by omega), e6 k (by omega), by omega, m1, e7 k (by omega), by omega⟩⟩
 ·
  exact ⟨_, (szTrie_eq l hl).trans (by rw [if_neg hs]), Or.inl (by omega)⟩
end Go.Proofs.Ytnnkedeohfbkeaa.Pure
