/-
  Part 1 of the proof that FnExactStepsTo returns true for every input: the functions that it reaches, each with its contract, and the law.
  Conditions: those of the given statement, no others.
-/
import Derived.Test.YtfhffcefpnkllaaGreatDoorKcW0
import Derived.Test.YtfhffcefpnkllaaGreatDoorRows
import Derived.WalkKit
import Derived.ProofKit
import Derived.OpenShut
import Derived.ShutString
import Derived.ChangeOld
import Derived.Below
import Derived.SizedLaws
import Derived.Lay
import Derived.LaidOnce
import Derived.SevenTiedAt
import Derived.Test.YtfhffcefpnkllaaGreatDoorCards
import Derived.Test.YtfhffcefpnkllaaGreatDoorTie
import Derived.Test.YtfhffcefpnkllaaGreatDoorKc0
import Derived.Test.YtfhffcefpnkllaaGreatDoorKc1
import Derived.Test.YtfhffcefpnkllaaGreatDoorKc2
import Derived.Test.YtfhffcefpnkllaaGreatDoorKc3
import Derived.Test.YtfhffcefpnkllaaGreatDoorKc4
set_option linter.unusedVariables false
set_option linter.unusedSimpArgs false
set_option maxHeartbeats 8000000
set_option maxRecDepth 100000
namespace Go.Proofs.YtfhffcefpnkllaaGreatDoor.P
open Go.RowKit Go.Proofs.YtfhffcefpnkllaaGreatDoorW.PrintWords Go.Proofs.YtfhffcefpnkllaaGreatDoorW.PrintLast Go.Proofs.YtfhffcefpnkllaaGreatDoorW.PrintMore
open Go.Proofs.YtfhffcefpnkllaaGreatDoorW.PrintWords renaming blk_frozen → bF_, blk_cell → bC_, below_set → bS_, blk_below → bB_, below_step → bT_, pw_below_drewN → bN_, below_size → bZ_, below_drew1 → bD_, below_alloc → bA_, blk_far → bR_, gate_callee → gC_, gate_dst → gD_, box_event → bE_, blk_drew → b1_, blk_put → bP_, blk_drewN → b2_, blk_alloc → b3_, blk_lt → bL_, cell_far → cF_
open Go.Proofs.YtfhffcefpnkllaaGreatDoorW.PrintLast renaming any_of → aO_, i64_w → i6_, i32_w → i3_, take_ofW → tW_
open Go.Proofs.YtfhffcefpnkllaaGreatDoorW.PrintWords.Kd renaming R_below → kB_, R_mono → kM_, R_far → kF_, R_reads' → kR_, R_types → kT_, R_slice → kS_, R_celln → kC_, R_alloc → k1_, R_drewN → k2_, R_drew → k3_, C_below → k4_, R_lower → k5_, R_ne → k6_, own_blk → k7_
open Go.Proofs.YtfhffcefpnkllaaGreatDoorW.PrintWords.LeO renaming none → l0_, bind → l1_, ite → l2_, refl → l3_
open World renaming block_lt_of_cell? → wB_
open _root_.Option renaming bind_eq_some_iff → oB_
open _root_.ByteArray renaming empty → eB_
open List renaming setIfInBounds_toArray → sA_, set_cons_zero → sB_, set_cons_succ → sC_, map_toArray → sD_, map_cons → sE_, map_nil → sF_, length_drop → sG_, length_take → sH_
open Bool renaming true → ty, false → fy
open Aside0 renaming mk → aM_
attribute [local go_sem] max2_int min2_int max_two min_two max_three min_three max_four min_four
def slices_Index_string_string.l0 : Nat → List ByteArray → ByteArray → Int → Int → Option (Int)
 | 0, _, _, _, _ => none
 | k + 1, x0, x1, x7, x8 => if x8 < x7 then (if 0 ≤ x8 then (if x8 < (x0.length : Int) then (if x1.toList = (rdOf eB_ x0 x8).toList then (some x8) else (slices_Index_string_string.l0 k x0 x1 x7 (wrap64 (x8 + 1)))) else (none)) else (none)) else (some (-1))
def slices_Index_string_string.f (k : Nat) (l0 : List ByteArray) (a1 : ByteArray) : Option (Int) := slices_Index_string_string.l0 k l0 a1 (l0.length : Int) 0
theorem slices_Index_string_string.mono_l : ∀ k, (∀ y0 y1 y2 y3, LeO (slices_Index_string_string.l0 k y0 y1 y2 y3) (slices_Index_string_string.l0 (k + 1) y0 y1 y2 y3))
 | 0 => fun _ _ _ _ r h => by simp [slices_Index_string_string.l0] at h
 | k + 1 => by
  have ih0 := slices_Index_string_string.mono_l k
  ·
   intro y0 y1 y2 y3
   unfold slices_Index_string_string.l0
   repeat' first
   | (with_reducible exact ih0 _ _ _ _)
   | (with_reducible exact l3_ _)
   | (with_reducible exact l0_ _)
   | (with_reducible refine l2_ ?_ ?_)
   | (with_reducible refine l1_ ?_ (fun _ => ?_))
   | exact ih0 _ _ _ _
   | exact l0_ _
   | refine l2_ ?_ ?_
   | refine l1_ ?_ (fun _ => ?_)
theorem slices_Index_string_string.mono : ∀ a0 a1 k, LeO (slices_Index_string_string.f k a0 a1) (slices_Index_string_string.f (k + 1) a0 a1) := by
 intro a0 a1 k
 have ih0 := slices_Index_string_string.mono_l k
 unfold slices_Index_string_string.f
 repeat' first
   | (with_reducible exact ih0 _ _ _ _)
   | (with_reducible exact l3_ _)
   | (with_reducible exact l0_ _)
   | (with_reducible refine l2_ ?_ ?_)
   | (with_reducible refine l1_ ?_ (fun _ => ?_))
   | exact ih0 _ _ _ _
   | exact l0_ _
   | refine l2_ ?_ ?_
   | refine l1_ ?_ (fun _ => ?_)
theorem slices_Index_string_string.calls (k : Nat) (A0 : Option Addr) (c0 : Nat) (l0 : List ByteArray) (a1 : ByteArray) (r : Int) (w : World) (hr0 : Kd.C Kd.string w A0 l0.length l0) (hc0 : l0.length ≤ c0) (h : slices_Index_string_string.f k l0 a1 = some r) :
  Calls Tryz.prog 37 #[.slice A0 l0.length c0, .string a1] w fun e w' => e = .returned (.int .i64 r) ∧ Drawn0 w w' := by
 have HR0 := aM_ hr0
 have HC0 := aM_ hc0
 clear hr0 hc0
 have H : (slices_Index_string_string.l0 k l0 a1 (l0.length : Int) 0) = some r := h
 clear h
 have H' := aM_ H
 clear H
 go_enter Tryz.func37, Tryz.ntmps37
 go_wp2
 go_loopg [8] k (fun kq v8 w' => ∃ (x8_1 : Int), v8 = .int .i64 x8_1 ∧ Aside0 (slices_Index_string_string.l0 kq l0 a1 (l0.length : Int) x8_1 = some r) ∧ Aside0 (kq ≤ k) ∧ Drawn0 w w')
 case atStart => exact ⟨(0), (by rfl), H', ⟨Nat.le_refl _⟩, by repeat (first | exact Drawn0.refl _ | apply Drawn0.step)⟩
 case round =>
  clear H'
  try clear p2
  obtain ⟨x8_1, rfl, HA, HK1, ⟨m1, rfl⟩⟩ := hrel
  cases gk with
  | zero => exact absurd HA.out (by simp [slices_Index_string_string.l0])
  | succ k1 =>
   have H := HA.out
   clear HA
   simp only [slices_Index_string_string.l0] at H
   by_cases c3 : x8_1 < (l0.length : Int)
   ·
    rw [if_pos c3] at H
    have c3b0 := decide_eq_true c3
    clear c3
    by_cases c4 : 0 ≤ x8_1
    ·
     rw [if_pos c4] at H
     have c4b0 := decide_eq_true c4
     clear c4
     by_cases c5 : x8_1 < (l0.length : Int)
     ·
      rw [if_pos c5] at H
      have c5b0 := decide_eq_true c5
      clear c5
      by_cases c6 : a1.toList = (rdOf eB_ l0 x8_1).toList
      ·
       rw [if_pos c6] at H
       have c6b0 : (a1.toList == (rdOf eB_ l0 x8_1).toList) = true := beq_iff_eq.mpr c6
       have c6b1 : (a1.toList != (rdOf eB_ l0 x8_1).toList) = false := bne_eq_false_iff_eq.mpr c6
       clear c6
       obtain rfl := Option.some.inj H
       have p450 : 0 ≤ (x8_1 : Int) := of_decide_eq_true (by (with_reducible assumption))
       have q450 : x8_1 < (l0.length : Int) := of_decide_eq_true (by (with_reducible assumption))
       obtain ⟨ad450, e450, hx450_0⟩ := Kd.at_string HR0.out x8_1 p450 q450
       cases e450
       replace p450 := eq_true p450
       replace q450 := eq_true q450
       go_wp2
       go_ret
       exact ⟨by rfl, by repeat (first | exact Drawn0.refl _ | apply Drawn0.step)⟩
      ·
       rw [if_neg c6] at H
       have c6b0 : (a1.toList == (rdOf eB_ l0 x8_1).toList) = false := beq_eq_false_iff_ne.mpr c6
       have c6b1 : (a1.toList != (rdOf eB_ l0 x8_1).toList) = true := bne_iff_ne.mpr c6
       have H' := aM_ H
       clear H
       have p450 : 0 ≤ (x8_1 : Int) := of_decide_eq_true (by (with_reducible assumption))
       have q450 : x8_1 < (l0.length : Int) := of_decide_eq_true (by (with_reducible assumption))
       obtain ⟨ad450, e450, hx450_0⟩ := Kd.at_string HR0.out x8_1 p450 q450
       cases e450
       replace p450 := eq_true p450
       replace q450 := eq_true q450
       go_wp2
       go_roundg k1
       case measure => have := HK1.out; omega
       case rel => exact ⟨(wrap64 (x8_1 + 1)), (by rfl), H', ⟨by have := HK1.out; omega⟩, by repeat (first | exact Drawn0.refl _ | apply Drawn0.step)⟩
     ·
      rw [if_neg c5] at H
      exact absurd H (by simp)
    ·
     rw [if_neg c4] at H
     exact absurd H (by simp)
   ·
    rw [if_neg c3] at H
    have c3b0 := decide_eq_false c3
    clear c3
    obtain rfl := Option.some.inj H
    go_wp2
    go_ret
    exact ⟨by rfl, by repeat (first | exact Drawn0.refl _ | apply Drawn0.step)⟩
def slices_Contains_string_string.f (k : Nat) (l0 : List ByteArray) (a1 : ByteArray) : Option (Bool) := (slices_Index_string_string.f k l0 a1).bind fun t451 => (some (decide (t451 ≥ 0)))
theorem slices_Contains_string_string.mono : ∀ a0 a1 k, LeO (slices_Contains_string_string.f k a0 a1) (slices_Contains_string_string.f (k + 1) a0 a1) := by
 intro a0 a1 k
 unfold slices_Contains_string_string.f
 repeat' first
   | (with_reducible exact slices_Index_string_string.mono _ _ _)
   | (with_reducible exact l3_ _)
   | (with_reducible exact l0_ _)
   | (with_reducible refine l2_ ?_ ?_)
   | (with_reducible refine l1_ ?_ (fun _ => ?_))
   | exact slices_Index_string_string.mono _ _ _
   | exact l0_ _
   | refine l2_ ?_ ?_
   | refine l1_ ?_ (fun _ => ?_)
theorem slices_Contains_string_string.calls (k : Nat) (A0 : Option Addr) (c0 : Nat) (l0 : List ByteArray) (a1 : ByteArray) (r : Bool) (w : World) (hr0 : Kd.C Kd.string w A0 l0.length l0) (hc0 : l0.length ≤ c0) (h : slices_Contains_string_string.f k l0 a1 = some r) :
  Calls Tryz.prog 65 #[.slice A0 l0.length c0, .string a1] w fun e w' => e = .returned (.bool r) ∧ Drawn0 w w' := by
 have HR0 := aM_ hr0
 have HC0 := aM_ hc0
 clear hr0 hc0
 have H : ((slices_Index_string_string.f k l0 a1).bind fun t451 => (some (decide (t451 ≥ 0)))) = some r := h
 clear h
 replace H := oB_.mp H
 obtain ⟨t451, A30, H⟩ := H
 try dsimp only at H
 have A3 := aM_ A30
 clear A30
 obtain rfl := Option.some.inj H
 go_enter Tryz.func65, Tryz.ntmps65
 go_wp2_with (first | ((with_reducible refine gC_ (f := 37) rfl ?_); refine goesL_ (some 7) rfl rfl Tryz.func37 (by kernel_rfl) rfl #[.slice A0 l0.length c0, .string a1] rfl (by (try simp only [sD_, sE_, sF_]); rfl) ?_; (with_reducible refine (slices_Index_string_string.calls k _ _ l0 a1 t451 _ ?side1 ?side2 A3.out).mono ?_); (case side1 => repeat (first | exact HR0.out | (with_reducible refine Kd.C_alloc ?_ _) | (with_reducible refine Kd.C_drewN ?_ _) | (with_reducible refine Kd.C_drew ?_))); (case side2 => exact HC0.out); rintro e w' ⟨rfl, ⟨nd, rfl⟩⟩; refine ⟨_, rfl, ?_⟩))
 go_ret
 exact ⟨by rfl, by repeat (first | exact Drawn0.refl _ | apply Drawn0.step)⟩
def impl_Trie_words.l0 : Nat → List ByteArray → List ByteArray → List (S76) → Int → Int → Option (List ByteArray)
 | 0, _, _, _, _, _ => none
 | k + 1, x3, x5, x15, x16, x17 => if x17 < x16 then (if 0 ≤ x17 then (if x17 < (x15.length : Int) then (if (rd_T76 x15 x17).f2 = true then (if x17 < (x3.length : Int) then (if x5.length < 8796093022208 then (impl_Trie_words.l0 k x3 (x5 ++ [rdOf eB_ x3 x17]) x15 x16 (wrap64 (x17 + 1))) else (none)) else (none)) else (impl_Trie_words.l0 k x3 x5 x15 x16 (wrap64 (x17 + 1)))) else (none)) else (none)) else (some x5)
def impl_Trie_words.f (k : Nat) (l0_0 : List (S76)) : Option (List ByteArray) := (impl_Trie_prefixes.f k l0_0).bind fun bt453 => (impl_Trie_words.l0 k bt453.1 (([] : List ByteArray)) l0_0 (l0_0.length : Int) 0)
theorem impl_Trie_words.mono_l : ∀ k, (∀ y0 y1 y2 y3 y4, LeO (impl_Trie_words.l0 k y0 y1 y2 y3 y4) (impl_Trie_words.l0 (k + 1) y0 y1 y2 y3 y4))
 | 0 => fun _ _ _ _ _ r h => by simp [impl_Trie_words.l0] at h
 | k + 1 => by
  have ih0 := impl_Trie_words.mono_l k
  ·
   intro y0 y1 y2 y3 y4
   unfold impl_Trie_words.l0
   repeat' first
   | (with_reducible exact ih0 _ _ _ _ _)
   | (with_reducible exact impl_Trie_prefixes.mono _ _)
   | (with_reducible exact l3_ _)
   | (with_reducible exact l0_ _)
   | (with_reducible refine l2_ ?_ ?_)
   | (with_reducible refine l1_ ?_ (fun _ => ?_))
   | exact ih0 _ _ _ _ _
   | exact impl_Trie_prefixes.mono _ _
   | exact l0_ _
   | refine l2_ ?_ ?_
   | refine l1_ ?_ (fun _ => ?_)
theorem impl_Trie_words.mono : ∀ a0 k, LeO (impl_Trie_words.f k a0) (impl_Trie_words.f (k + 1) a0) := by
 intro a0 k
 have ih0 := impl_Trie_words.mono_l k
 unfold impl_Trie_words.f
 repeat' first
   | (with_reducible exact ih0 _ _ _ _ _)
   | (with_reducible exact impl_Trie_prefixes.mono _ _)
   | (with_reducible exact l3_ _)
   | (with_reducible exact l0_ _)
   | (with_reducible refine l2_ ?_ ?_)
   | (with_reducible refine l1_ ?_ (fun _ => ?_))
   | exact ih0 _ _ _ _ _
   | exact impl_Trie_prefixes.mono _ _
   | exact l0_ _
   | refine l2_ ?_ ?_
   | refine l1_ ?_ (fun _ => ?_)
theorem impl_Trie_words.calls (k : Nat) (A0_0 : Option Addr) (c0_0 : Nat) (l0_0 : List (S76)) (r : List ByteArray) (w : World) (hr0_0 : Kd.C k76 w A0_0 l0_0.length l0_0) (hc0_0 : l0_0.length ≤ c0_0) (h : impl_Trie_words.f k l0_0 = some r) :
  Calls Tryz.prog 66 #[.agg #[.slice A0_0 l0_0.length c0_0]] w fun e w' => ∃ v0_ : Value, e = .returned (v0_) ∧ Kd.R Kd.string 9 w' w.heap.size (fun _ => True) v0_ r ∧ Below w.heap.size w w' := by
 have hu36 := Tryz.underlying36
 have hu76 := Tryz.underlying76
 have HR0_0 := aM_ hr0_0
 have HC0_0 := aM_ hc0_0
 clear hr0_0 hc0_0
 have HB := aM_ (Below.refl w.heap.size w)
 have H : ((impl_Trie_prefixes.f k l0_0).bind fun bt453 => (impl_Trie_words.l0 k bt453.1 (([] : List ByteArray)) l0_0 (l0_0.length : Int) 0)) = some r := h
 clear h
 replace H := oB_.mp H
 obtain ⟨⟨t453, t456⟩, A20, H⟩ := H
 try dsimp only at H
 have A2 := aM_ A20
 clear A20
 obtain ⟨y457, hy457⟩ : ∃ y_ : List ByteArray, y_ = (([] : List ByteArray)) := ⟨_, rfl⟩
 replace H : (impl_Trie_words.l0 k t453 y457 l0_0 (l0_0.length : Int) 0) = some r := by first | (rw [hy457]; with_reducible exact H) | (have H2_ := (Option.bind_some _ _).symm.trans H; rw [hy457]; with_reducible exact H2_) | (have H2_ := (Option.bind_some _ _).symm.trans H; with_reducible exact H2_) | with_reducible exact H | (rw [hy457]; exact H) | exact H
 have Ny457 := aM_ hy457
 clear hy457
 have H' := aM_ H
 clear H
 go_enter Tryz.func66, Tryz.ntmps66
 go_wp2_with (first | ((with_reducible refine gD_ (N := 1) rfl ?_); refine bE_ ?hg (N := 1) ?hd (cs := #[.slice A0_0 l0_0.length c0_0]) (t := 36) ?hr ?_; (case hd => rfl); (case hg => rfl); (case hr => (go_simp; done)); intro gb452 hg w3 hbox hb; have BK452 := aM_ (hbox); have GW452 := aM_ ((by rw [hg]; exact (bZ_ HB.out) : w.heap.size ≤ gb452)); have GE452 := GW452; replace HB := aM_ (bT_ HB.out hb); clear hb hbox hg; have hcz4_0 : w3.cell? ⟨gb452, 0, none⟩ = some (.slice A0_0 l0_0.length c0_0) := (bC_ BK452.out 0).trans rfl; have hfz4_0 := bF_ BK452.out 0) | ((with_reducible refine gC_ (f := 83) rfl ?_); refine goesL_ (some 10) rfl rfl Tryz.func83 (by kernel_rfl) rfl #[.agg #[.slice A0_0 l0_0.length c0_0]] rfl (by (try simp only [sD_, sE_, sF_]); rfl) ?_; (with_reducible refine (impl_Trie_prefixes.calls k _ _ l0_0 t453 t456 _ ?side1 ?side2 A2.out).mono ?_); (case side1 => repeat (first | exact (k4_ HR0_0.out HB.out) | (with_reducible refine Kd.C_alloc ?_ _) | (with_reducible refine Kd.C_drewN ?_ _) | (with_reducible refine Kd.C_drew ?_))); (case side2 => exact HC0_0.out); rintro e w5 ⟨v454, rfl, ho0, hb⟩; refine ⟨_, rfl, ?_⟩; have HO455 := aM_ (k5_ ho0 (bZ_ HB.out)); replace BK452 := aM_ (bB_ BK452.out hb); replace HB := aM_ (bT_ HB.out hb); (try clear hb); (try clear ho0)) | ((with_reducible refine gD_ (N := 13) rfl ?_); refine Kd.R_lit Kd.string _ 9 ?hg (N := 13) ?hd (xs := ([] : List ByteArray)) (inner := []) (ok := fun _ => True) (okp := fun _ => True) ?hr ?hp (fun _ hk => hk) trivial (Below.refl _ _) (Nat.le_refl _) (by simp) ?_; (case hd => rfl); (case hg => rfl); (case hr => (go_simp; done)); (case hp => exact (Reps.none _ _)); intro v458 w6 ho7 hb hg_ hnew_; clear hg_ hnew_; (rw [← Ny457.out] at ho7); have HO459 := aM_ (k5_ (Kd.R_new' ho7 (Kd.R_lt HO455.out)) (bZ_ HB.out)); replace HO455 := aM_ (Kd.R_elder' HO455.out (Kd.R_base ho7) hb); replace BK452 := aM_ (bB_ BK452.out hb); replace HB := aM_ (bT_ HB.out hb); clear hb ho7; have hcz8_0 : w6.cell? ⟨gb452, 0, none⟩ = some (.slice A0_0 l0_0.length c0_0) := (bC_ BK452.out 0).trans rfl; have hfz8_0 := bF_ BK452.out 0))
 go_loopg [5, 17] k (fun kq v5 v17 w' => ∃ (x5_1 : List ByteArray) (x17_1 : Int), v17 = .int .i64 x17_1 ∧ Aside0 (impl_Trie_words.l0 kq t453 x5_1 l0_0 (l0_0.length : Int) x17_1 = some r) ∧ Aside0 (kq ≤ k) ∧ Aside0 (Kd.R Kd.string 9 w' w.heap.size (fun k_ => some k_ ≠ (v5 : Value).ownBlock) v454 t453) ∧ Aside0 (Kd.R Kd.string 9 w' w.heap.size (fun k_ => some k_ ≠ (v454 : Value).ownBlock) v5 x5_1) ∧ Aside0 (w'.heap[gb452]? = some (.cells #[(.slice A0_0 l0_0.length c0_0)] 36 (0, 0))) ∧ Aside0 (Below w.heap.size w w'))
 case atStart => exact ⟨(y457), (0), (by rfl), H', ⟨Nat.le_refl _⟩, ⟨by exact kM_ HO455.out (fun _ hk => hk.2)⟩, ⟨by exact kM_ HO459.out (fun _ hk => hk.2)⟩, ⟨BK452.out⟩, ⟨HB.out⟩⟩
 case round =>
  clear H'
  try clear p2
  try clear hcz4_0
  try clear hcz8_0
  try clear hfz4_0
  try clear hfz8_0
  obtain ⟨x5_1, x17_1, rfl, HA, HK1, HO_3, HO_5, BK452, HB⟩ := hrel
  cases gk with
  | zero => exact absurd HA.out (by simp [impl_Trie_words.l0])
  | succ k1 =>
   have H := HA.out
   clear HA
   simp only [impl_Trie_words.l0] at H
   by_cases c9 : x17_1 < (l0_0.length : Int)
   ·
    rw [if_pos c9] at H
    have c9b0 := decide_eq_true c9
    clear c9
    by_cases c10 : 0 ≤ x17_1
    ·
     rw [if_pos c10] at H
     have c10b0 := decide_eq_true c10
     clear c10
     by_cases c11 : x17_1 < (l0_0.length : Int)
     ·
      rw [if_pos c11] at H
      have c11b0 := decide_eq_true c11
      clear c11
      obtain ⟨bq12, hbq12⟩ : ∃ b_ : Bool, b_ = ((rd_T76 l0_0 x17_1).f2) := ⟨_, rfl⟩
      replace H : (if bq12 = true then (if x17_1 < (t453.length : Int) then (if x5_1.length < 8796093022208 then (impl_Trie_words.l0 k1 t453 (x5_1 ++ [rdOf eB_ t453 x17_1]) l0_0 (l0_0.length : Int) (wrap64 (x17_1 + 1))) else (none)) else (none)) else (impl_Trie_words.l0 k1 t453 x5_1 l0_0 (l0_0.length : Int) (wrap64 (x17_1 + 1)))) = some r := by rw [← hbq12] at H; exact H
      have Nbq12 := aM_ hbq12
      clear hbq12
      by_cases c13 : bq12 = true
      ·
       subst c13
       rw [if_pos rfl] at H
       by_cases c14 : x17_1 < (t453.length : Int)
       ·
        rw [if_pos c14] at H
        have c14b0 := decide_eq_true c14
        clear c14
        by_cases c15 : x5_1.length < 8796093022208
        ·
         rw [if_pos c15] at H
         have LMc15 := aM_ c15
         clear c15
         obtain ⟨y463, hy463⟩ : ∃ y_ : List ByteArray, y_ = (x5_1 ++ [rdOf eB_ t453 x17_1]) := ⟨_, rfl⟩
         replace H : (impl_Trie_words.l0 k1 t453 y463 l0_0 (l0_0.length : Int) (wrap64 (x17_1 + 1))) = some r := by first | (rw [hy463]; with_reducible exact H) | (have H2_ := (Option.bind_some _ _).symm.trans H; rw [hy463]; with_reducible exact H2_) | (have H2_ := (Option.bind_some _ _).symm.trans H; with_reducible exact H2_) | with_reducible exact H | (rw [hy463]; exact H) | exact H
         have Ny463 := aM_ hy463
         clear hy463
         have H' := aM_ H
         clear H
         have p460 : 0 ≤ (x17_1 : Int) := of_decide_eq_true (by (with_reducible assumption))
         have q460 : x17_1 < (l0_0.length : Int) := of_decide_eq_true (by (with_reducible assumption))
         obtain ⟨ad460, e460, hx460_0, hx460_1, hx460_2⟩ := at_T76 HR0_0.out x17_1 p460 q460
         (try rw [← Nbq12.out] at hx460_2)
         cases e460
         replace hx460_0 := (HB.out.cell (wB_ w _ hx460_0)).trans hx460_0
         replace hx460_1 := (HB.out.cell (wB_ w _ hx460_1)).trans hx460_1
         replace hx460_2 := (HB.out.cell (wB_ w _ hx460_2)).trans hx460_2
         replace p460 := eq_true p460
         replace q460 := eq_true q460
         go_wp2_with (first | ((with_reducible refine gD_ (N := 7) rfl ?_); refine bE_ ?hg (N := 7) ?hd (cs := #[.int .i64 0, .int .i64 0, .bool false]) (t := 76) ?hr ?_; (case hd => rfl); (case hg => rfl); (case hr => (go_simp; done)); intro gb461 hg w16 hbox hb; replace HO_3 := aM_ (kB_ HO_3.out hb); replace HO_5 := aM_ (kB_ HO_5.out hb); have BK461 := aM_ (hbox); have GW461 := aM_ ((by rw [hg]; exact (bZ_ HB.out) : w.heap.size ≤ gb461)); have GE461 := GW461; replace HB := aM_ (bT_ HB.out hb); have NB452_461 := aM_ ((by rw [hg]; exact Nat.ne_of_lt (bL_ BK452.out) : gb452 ≠ gb461)); have NB461_452 := aM_ NB452_461.out.symm; replace BK452 := aM_ (bB_ BK452.out hb); clear hb hbox hg; have hnb17 := NB461_452.out; have hnc17 := NB452_461.out; have hcz18_0 : w16.cell? ⟨gb461, 0, none⟩ = some (.int .i64 0) := (bC_ BK461.out 0).trans rfl; have hcz18_1 : w16.cell? ⟨gb461, 1, none⟩ = some (.int .i64 0) := (bC_ BK461.out 1).trans rfl; have hcz18_2 : w16.cell? ⟨gb461, 2, none⟩ = some (.bool false) := (bC_ BK461.out 2).trans rfl; have hfz18_0 := bF_ BK461.out 0; have hfz18_1 := bF_ BK461.out 1; have hfz18_2 := bF_ BK461.out 2; obtain ⟨Ao19, co19, eo19⟩ := kS_ HO_3.out; subst eo19; have p462 : 0 ≤ (x17_1 : Int) := of_decide_eq_true (by (with_reducible assumption)); have q462 : x17_1 < (t453.length : Int) := of_decide_eq_true (by (with_reducible assumption)); obtain ⟨ad462, e462, hx462_0⟩ := Kd.at_string (kR_ HO_3.out).2.2 x17_1 p462 q462; cases e462; have hn462_0 : ad462.block ≠ gb461 := k7_ (k6_ HO_3.out BK461.out (by decide)); have hn462_1 : ad462.block ≠ gb461 := k7_ (k6_ HO_3.out BK461.out (by decide)); have hn462_2 : ad462.block ≠ gb461 := k7_ (k6_ HO_3.out BK461.out (by decide)); replace hx462_0 := (cF_ (p := ⟨gb461, 0, none⟩) (by (rw [add_block]; exact hn462_0)) (.int .i64 ((rd_T76 l0_0 x17_1).f0))).trans hx462_0; replace hx462_0 := (cF_ (p := ⟨gb461, 1, none⟩) (by (rw [add_block]; exact hn462_1)) (.int .i64 ((rd_T76 l0_0 x17_1).f1))).trans hx462_0; replace hx462_0 := (cF_ (p := ⟨gb461, 2, none⟩) (by (rw [add_block]; exact hn462_2)) (.bool true)).trans hx462_0; clear hn462_0; clear hn462_1; clear hn462_2; replace p462 := eq_true p462; replace q462 := eq_true q462) | ((with_reducible refine gate_builtin (b := .append) (xs := #[.tmp 24, .tmp 29]) rfl ?_); at_builtin; refine Kd.R_append Kd.string (w0 := w) w.heap.size rfl (.tmp 24) (.tmp 29) 49 9 (.string ⟨#[]⟩) 16 rfl Tryz.underlying49 info9 rfl (by decide) (by omega) u5 x5_1 (rdOf eB_ t453 x17_1) [.string (rdOf eB_ t453 x17_1)] (fun k_ => some k_ ≠ (.slice (some ad462) t453.length co19 : Value).ownBlock) (fun _ => False) rfl (by (go_simp; done)) ?aP (fun _ hk => hk.elim) ?aF ?aO ?aB ?aS ?aL ?_; (case aP => exact rfl); (case aB => exact (by repeat (first | (with_reducible first | exact HB.out | apply bA_ | apply bN_ | apply bD_ | refine bS_ ?_ GE452.out | refine bS_ ?_ GE461.out) | exact HB.out))); (case aF => exact (fun k_ hk => Kd.fresh' (Kd.R_lt (by exact (kM_ (kF_ (p := ⟨gb461, 2, none⟩) (kF_ (p := ⟨gb461, 1, none⟩) (kF_ (p := ⟨gb461, 0, none⟩) (kT_ HO_3.out BK461.out (by decide)) (fun _ hk => hk.2) (.int .i64 ((rd_T76 l0_0 x17_1).f0))) (fun _ hk => hk.2) (.int .i64 ((rd_T76 l0_0 x17_1).f1))) (fun _ hk => hk.2) (.bool true)) (fun _ h_ => h_.1)))) k_ hk)); (case aO => exact (by exact kM_ (kF_ (p := ⟨gb461, 2, none⟩) (kF_ (p := ⟨gb461, 1, none⟩) (kF_ (p := ⟨gb461, 0, none⟩) (kT_ HO_5.out BK461.out (by decide)) (fun _ hk => hk.2) (.int .i64 ((rd_T76 l0_0 x17_1).f0))) (fun _ hk => hk.2) (.int .i64 ((rd_T76 l0_0 x17_1).f1))) (fun _ hk => hk.2) (.bool true)) (fun _ hk => hk.1))); (case aS => exact (bZ_ (by repeat (first | (with_reducible first | exact HB.out | apply bA_ | apply bN_ | apply bD_ | refine bS_ ?_ GE452.out | refine bS_ ?_ GE461.out) | exact HB.out)))); (case aL => have := LMc15.out; omega); intro v464 w20 ho hb hg hat; rw [← Ny463.out] at ho; have n0_ := aM_ (Kd.R_after (ok := (fun _ => True)) (by exact kM_ (kF_ (p := ⟨gb461, 2, none⟩) (kF_ (p := ⟨gb461, 1, none⟩) (kF_ (p := ⟨gb461, 0, none⟩) (kT_ HO_3.out BK461.out (by decide)) (fun _ hk => hk.2) (.int .i64 ((rd_T76 l0_0 x17_1).f0))) (fun _ hk => hk.2) (.int .i64 ((rd_T76 l0_0 x17_1).f1))) (fun _ hk => hk.2) (.bool true)) (fun _ hk => ⟨trivial, hk.1⟩)) hg hat); have n1_ := aM_ (blk_grown (g := gb452) (o := .cells #[.slice (some ad460) l0_0.length c0_0] 36 (0, 0)) (by refine bR_ ?_ NB452_461.out _; refine bR_ ?_ NB452_461.out _; refine bR_ ?_ NB452_461.out _; exact BK452.out) hg (k6_ HO_5.out BK452.out (by decide))); have n2_ := aM_ (blk_grown (g := gb461) (o := .cells #[.int .i64 ((rd_T76 l0_0 x17_1).f0), .int .i64 ((rd_T76 l0_0 x17_1).f1), .bool true] 76 (0, 0)) (by refine bP_ (cs := #[.int .i64 ((rd_T76 l0_0 x17_1).f0), .int .i64 ((rd_T76 l0_0 x17_1).f1), .bool false]) ?_ 2 _ rfl; refine bP_ (cs := #[.int .i64 ((rd_T76 l0_0 x17_1).f0), .int .i64 0, .bool false]) ?_ 1 _ rfl; refine bP_ (cs := #[.int .i64 0, .int .i64 0, .bool false]) ?_ 0 _ rfl; exact BK461.out) hg (k6_ HO_5.out BK461.out (by decide))); have n3_ := aM_ (hb); have n4_ := aM_ (ho); clear HO_3; clear BK452; clear BK461; clear HB; clear HO_5; have HO_3 := n0_; have BK452 := n1_; have BK461 := n2_; have HB := n3_; have HO465 := n4_; clear n0_ n1_ n2_ n3_ n4_; clear ho hb hg hat))
         go_roundg k1
         case measure => have := HK1.out; omega
         case rel => exact ⟨(y463), (wrap64 (x17_1 + 1)), (by rfl), H', ⟨by have := HK1.out; omega⟩, ⟨by exact kM_ HO_3.out (fun _ hk => hk.2)⟩, ⟨HO465.out⟩, ⟨BK452.out⟩, ⟨HB.out⟩⟩
        ·
         rw [if_neg c15] at H
         exact absurd H (by simp)
       ·
        rw [if_neg c14] at H
        exact absurd H (by simp)
      ·
       replace c13 := Bool.eq_false_iff.mpr c13
       subst c13
       have H1 : (impl_Trie_words.l0 k1 t453 x5_1 l0_0 (l0_0.length : Int) (wrap64 (x17_1 + 1))) = some r := by rw [if_neg (show ¬ (false = true) by decide)] at H; exact H
       clear H
       have H := H1
       clear H1
       have H' := aM_ H
       clear H
       have p460 : 0 ≤ (x17_1 : Int) := of_decide_eq_true (by (with_reducible assumption))
       have q460 : x17_1 < (l0_0.length : Int) := of_decide_eq_true (by (with_reducible assumption))
       obtain ⟨ad460, e460, hx460_0, hx460_1, hx460_2⟩ := at_T76 HR0_0.out x17_1 p460 q460
       (try rw [← Nbq12.out] at hx460_2)
       cases e460
       replace hx460_0 := (HB.out.cell (wB_ w _ hx460_0)).trans hx460_0
       replace hx460_1 := (HB.out.cell (wB_ w _ hx460_1)).trans hx460_1
       replace hx460_2 := (HB.out.cell (wB_ w _ hx460_2)).trans hx460_2
       replace p460 := eq_true p460
       replace q460 := eq_true q460
       go_wp2_with (first | ((with_reducible refine gD_ (N := 7) rfl ?_); refine bE_ ?hg (N := 7) ?hd (cs := #[.int .i64 0, .int .i64 0, .bool false]) (t := 76) ?hr ?_; (case hd => rfl); (case hg => rfl); (case hr => (go_simp; done)); intro gb461 hg w21 hbox hb; replace HO_3 := aM_ (kB_ HO_3.out hb); replace HO_5 := aM_ (kB_ HO_5.out hb); have BK461 := aM_ (hbox); have GW461 := aM_ ((by rw [hg]; exact (bZ_ HB.out) : w.heap.size ≤ gb461)); have GE461 := GW461; replace HB := aM_ (bT_ HB.out hb); have NB452_461 := aM_ ((by rw [hg]; exact Nat.ne_of_lt (bL_ BK452.out) : gb452 ≠ gb461)); have NB461_452 := aM_ NB452_461.out.symm; replace BK452 := aM_ (bB_ BK452.out hb); clear hb hbox hg; have hnb22 := NB461_452.out; have hnc22 := NB452_461.out; have hcz23_0 : w21.cell? ⟨gb461, 0, none⟩ = some (.int .i64 0) := (bC_ BK461.out 0).trans rfl; have hcz23_1 : w21.cell? ⟨gb461, 1, none⟩ = some (.int .i64 0) := (bC_ BK461.out 1).trans rfl; have hcz23_2 : w21.cell? ⟨gb461, 2, none⟩ = some (.bool false) := (bC_ BK461.out 2).trans rfl; have hfz23_0 := bF_ BK461.out 0; have hfz23_1 := bF_ BK461.out 1; have hfz23_2 := bF_ BK461.out 2))
       go_roundg k1
       case measure => have := HK1.out; omega
       case rel => exact ⟨(x5_1), (wrap64 (x17_1 + 1)), (by rfl), H', ⟨by have := HK1.out; omega⟩, ⟨by exact kM_ (kF_ (p := ⟨gb461, 2, none⟩) (kF_ (p := ⟨gb461, 1, none⟩) (kF_ (p := ⟨gb461, 0, none⟩) (kT_ HO_3.out BK461.out (by decide)) (fun _ hk => hk.2) (.int .i64 ((rd_T76 l0_0 x17_1).f0))) (fun _ hk => hk.2) (.int .i64 ((rd_T76 l0_0 x17_1).f1))) (fun _ hk => hk.2) (.bool false)) (fun _ hk => hk.1)⟩, ⟨by exact kM_ (kF_ (p := ⟨gb461, 2, none⟩) (kF_ (p := ⟨gb461, 1, none⟩) (kF_ (p := ⟨gb461, 0, none⟩) (kT_ HO_5.out BK461.out (by decide)) (fun _ hk => hk.2) (.int .i64 ((rd_T76 l0_0 x17_1).f0))) (fun _ hk => hk.2) (.int .i64 ((rd_T76 l0_0 x17_1).f1))) (fun _ hk => hk.2) (.bool false)) (fun _ hk => hk.1)⟩, ⟨by refine bR_ ?_ NB452_461.out _; refine bR_ ?_ NB452_461.out _; refine bR_ ?_ NB452_461.out _; exact BK452.out⟩, ⟨by repeat (first | (with_reducible first | exact HB.out | apply bA_ | apply bN_ | apply bD_ | refine bS_ ?_ GE452.out | refine bS_ ?_ GE461.out) | exact HB.out)⟩⟩
     ·
      rw [if_neg c11] at H
      exact absurd H (by simp)
    ·
     rw [if_neg c10] at H
     exact absurd H (by simp)
   ·
    rw [if_neg c9] at H
    have c9b0 := decide_eq_false c9
    clear c9
    obtain rfl := Option.some.inj H
    go_wp2
    go_ret
    exact ⟨_, by rfl, by exact kM_ HO_5.out (fun _ hk => trivial), by exact HB.out⟩
def impl_Trie_has.f (k : Nat) (l0_0 : List (S76)) (a1 : ByteArray) : Option (Bool) := (impl_Trie_words.f k l0_0).bind fun t467 => ((slices_Contains_string_string.f k t467 a1).bind fun t470 => (some t470))
theorem impl_Trie_has.mono : ∀ a0 a1 k, LeO (impl_Trie_has.f k a0 a1) (impl_Trie_has.f (k + 1) a0 a1) := by
 intro a0 a1 k
 unfold impl_Trie_has.f
 repeat' first
   | (with_reducible exact impl_Trie_words.mono _ _)
   | (with_reducible exact slices_Contains_string_string.mono _ _ _)
   | (with_reducible exact l3_ _)
   | (with_reducible exact l0_ _)
   | (with_reducible refine l2_ ?_ ?_)
   | (with_reducible refine l1_ ?_ (fun _ => ?_))
   | exact impl_Trie_words.mono _ _
   | exact slices_Contains_string_string.mono _ _ _
   | exact l0_ _
   | refine l2_ ?_ ?_
   | refine l1_ ?_ (fun _ => ?_)
theorem impl_Trie_has.calls (k : Nat) (A0_0 : Option Addr) (c0_0 : Nat) (l0_0 : List (S76)) (a1 : ByteArray) (r : Bool) (w : World) (hr0_0 : Kd.C k76 w A0_0 l0_0.length l0_0) (hc0_0 : l0_0.length ≤ c0_0) (h : impl_Trie_has.f k l0_0 a1 = some r) :
  Calls Tryz.prog 35 #[.agg #[.slice A0_0 l0_0.length c0_0], .string a1] w fun e w' => e = .returned (.bool r) ∧ Below w.heap.size w w' := by
 have hu36 := Tryz.underlying36
 have HR0_0 := aM_ hr0_0
 have HC0_0 := aM_ hc0_0
 clear hr0_0 hc0_0
 have HB := aM_ (Below.refl w.heap.size w)
 have H : ((impl_Trie_words.f k l0_0).bind fun t467 => ((slices_Contains_string_string.f k t467 a1).bind fun t470 => (some t470))) = some r := h
 clear h
 replace H := oB_.mp H
 obtain ⟨t467, A30, H⟩ := H
 try dsimp only at H
 have A3 := aM_ A30
 clear A30
 replace H := oB_.mp H
 obtain ⟨t470, A40, H⟩ := H
 try dsimp only at H
 have A4 := aM_ A40
 clear A40
 obtain rfl := Option.some.inj H
 go_enter Tryz.func35, Tryz.ntmps35
 go_wp2_with (first | ((with_reducible refine gD_ (N := 2) rfl ?_); refine bE_ ?hg (N := 2) ?hd (cs := #[.slice A0_0 l0_0.length c0_0]) (t := 36) ?hr ?_; (case hd => rfl); (case hg => rfl); (case hr => (go_simp; done)); intro gb466 hg w5 hbox hb; have BK466 := aM_ (hbox); have GW466 := aM_ ((by rw [hg]; exact (bZ_ HB.out) : w.heap.size ≤ gb466)); have GE466 := GW466; replace HB := aM_ (bT_ HB.out hb); clear hb hbox hg; have hcz6_0 : w5.cell? ⟨gb466, 0, none⟩ = some (.slice A0_0 l0_0.length c0_0) := (bC_ BK466.out 0).trans rfl; have hfz6_0 := bF_ BK466.out 0) | ((with_reducible refine gC_ (f := 66) rfl ?_); refine goesL_ (some 6) rfl rfl Tryz.func66 (by kernel_rfl) rfl #[.agg #[.slice A0_0 l0_0.length c0_0]] rfl (by (try simp only [sD_, sE_, sF_]); rfl) ?_; (with_reducible refine (impl_Trie_words.calls k _ _ l0_0 t467 _ ?side1 ?side2 A3.out).mono ?_); (case side1 => repeat (first | exact (k4_ HR0_0.out HB.out) | (with_reducible refine Kd.C_alloc ?_ _) | (with_reducible refine Kd.C_drewN ?_ _) | (with_reducible refine Kd.C_drew ?_))); (case side2 => exact HC0_0.out); rintro e w7 ⟨v468, rfl, ho0, hb⟩; refine ⟨_, rfl, ?_⟩; have HO469 := aM_ (k5_ ho0 (bZ_ HB.out)); replace BK466 := aM_ (bB_ BK466.out hb); replace HB := aM_ (bT_ HB.out hb); (try clear hb); (try clear ho0); obtain ⟨Ao8, co8, eo8⟩ := kS_ HO469.out; subst eo8) | ((with_reducible refine gC_ (f := 65) rfl ?_); refine goesL_ (some 8) rfl rfl Tryz.func65 (by kernel_rfl) rfl #[.slice Ao8 t467.length co8, .string a1] rfl (by (try simp only [sD_, sE_, sF_]); rfl) ?_; (with_reducible refine (slices_Contains_string_string.calls k _ _ t467 a1 t470 _ ?side1 ?side2 A4.out).mono ?_); (case side1 => repeat (first | exact (kR_ HO469.out).2.2 | (with_reducible refine Kd.C_alloc ?_ _) | (with_reducible refine Kd.C_drewN ?_ _) | (with_reducible refine Kd.C_drew ?_))); (case side2 => exact (kR_ HO469.out).2.1); rintro e w' ⟨rfl, ⟨nd, rfl⟩⟩; refine ⟨_, rfl, ?_⟩))
 go_ret
 exact ⟨by rfl, by repeat (first | (with_reducible first | exact HB.out | apply bA_ | apply bN_ | apply bD_ | refine bS_ ?_ GE466.out) | exact HB.out)⟩
mutual
def impl_StepsTo.j0 : Nat → ByteArray → Bool → List (S60) → Option (Int × Bool)
 | 0, _, _, _ => none
 | k + 1, x1, x29, x472000 => if x29 = true then (some (0, false)) else ((impl_Pressed_prefixes.f k x472000).bind fun bt479 => ((slices_Index_string_string.f k bt479.1 x1).bind fun t483 => (impl_StepsTo.l0 k 0 t483 x472000)))
def impl_StepsTo.l0 : Nat → Int → Int → List (S60) → Option (Int × Bool)
 | 0, _, _, _ => none
 | k + 1, x10, x11, x472000 => if x11 > 0 then (if 0 ≤ x11 then (if x11 < (x472000.length : Int) then (impl_StepsTo.l0 k (wrap64 (x10 + 1)) ((rd_T60 x472000 x11).f1) x472000) else (none)) else (none)) else (some (x10, true))
end
def impl_StepsTo.f (k : Nat) (l0_0 : List (S60)) (a1 : ByteArray) : Option (Int × Bool) := (impl_Pressed_open.f k l0_0).bind fun bt472 => (if bt472.2 = true then ((impl_isWord.f a1).bind fun t477 => (if t477 = true then ((impl_Trie_has.f k bt472.1 a1).bind fun t478 => (impl_StepsTo.j0 k a1 (!t478) l0_0)) else (impl_StepsTo.j0 k a1 true l0_0))) else (impl_StepsTo.j0 k a1 true l0_0))
theorem impl_StepsTo.mono_l : ∀ k, (∀ y0 y1 y2, LeO (impl_StepsTo.j0 k y0 y1 y2) (impl_StepsTo.j0 (k + 1) y0 y1 y2)) ∧ (∀ y0 y1 y2, LeO (impl_StepsTo.l0 k y0 y1 y2) (impl_StepsTo.l0 (k + 1) y0 y1 y2))
 | 0 => ⟨fun _ _ _ r h => by simp [impl_StepsTo.j0] at h, fun _ _ _ r h => by simp [impl_StepsTo.l0] at h⟩
 | k + 1 => by
  obtain ⟨ih0, ih1⟩ := impl_StepsTo.mono_l k
  refine ⟨?_, ?_⟩
  ·
   intro y0 y1 y2
   unfold impl_StepsTo.j0
   repeat' first
   | (with_reducible exact ih0 _ _ _)
   | (with_reducible exact ih1 _ _ _)
   | (with_reducible exact impl_Pressed_open.mono _ _)
   | (with_reducible exact impl_Pressed_prefixes.mono _ _)
   | (with_reducible exact impl_Trie_has.mono _ _ _)
   | (with_reducible exact slices_Index_string_string.mono _ _ _)
   | (with_reducible exact l3_ _)
   | (with_reducible exact l0_ _)
   | (with_reducible refine l2_ ?_ ?_)
   | (with_reducible refine l1_ ?_ (fun _ => ?_))
   | exact ih0 _ _ _
   | exact ih1 _ _ _
   | exact impl_Pressed_open.mono _ _
   | exact impl_Pressed_prefixes.mono _ _
   | exact impl_Trie_has.mono _ _ _
   | exact slices_Index_string_string.mono _ _ _
   | exact l0_ _
   | refine l2_ ?_ ?_
   | refine l1_ ?_ (fun _ => ?_)
  ·
   intro y0 y1 y2
   unfold impl_StepsTo.l0
   repeat' first
   | (with_reducible exact ih0 _ _ _)
   | (with_reducible exact ih1 _ _ _)
   | (with_reducible exact impl_Pressed_open.mono _ _)
   | (with_reducible exact impl_Pressed_prefixes.mono _ _)
   | (with_reducible exact impl_Trie_has.mono _ _ _)
   | (with_reducible exact slices_Index_string_string.mono _ _ _)
   | (with_reducible exact l3_ _)
   | (with_reducible exact l0_ _)
   | (with_reducible refine l2_ ?_ ?_)
   | (with_reducible refine l1_ ?_ (fun _ => ?_))
   | exact ih0 _ _ _
   | exact ih1 _ _ _
   | exact impl_Pressed_open.mono _ _
   | exact impl_Pressed_prefixes.mono _ _
   | exact impl_Trie_has.mono _ _ _
   | exact slices_Index_string_string.mono _ _ _
   | exact l0_ _
   | refine l2_ ?_ ?_
   | refine l1_ ?_ (fun _ => ?_)
theorem impl_StepsTo.mono : ∀ a0 a1 k, LeO (impl_StepsTo.f k a0 a1) (impl_StepsTo.f (k + 1) a0 a1) := by
 intro a0 a1 k
 obtain ⟨ih0, ih1⟩ := impl_StepsTo.mono_l k
 unfold impl_StepsTo.f
 repeat' first
   | (with_reducible exact ih0 _ _ _)
   | (with_reducible exact ih1 _ _ _)
   | (with_reducible exact impl_Pressed_open.mono _ _)
   | (with_reducible exact impl_Pressed_prefixes.mono _ _)
   | (with_reducible exact impl_Trie_has.mono _ _ _)
   | (with_reducible exact slices_Index_string_string.mono _ _ _)
   | (with_reducible exact l3_ _)
   | (with_reducible exact l0_ _)
   | (with_reducible refine l2_ ?_ ?_)
   | (with_reducible refine l1_ ?_ (fun _ => ?_))
   | exact ih0 _ _ _
   | exact ih1 _ _ _
   | exact impl_Pressed_open.mono _ _
   | exact impl_Pressed_prefixes.mono _ _
   | exact impl_Trie_has.mono _ _ _
   | exact slices_Index_string_string.mono _ _ _
   | exact l0_ _
   | refine l2_ ?_ ?_
   | refine l1_ ?_ (fun _ => ?_)
theorem impl_StepsTo.calls (k : Nat) (A0_0 : Option Addr) (c0_0 : Nat) (l0_0 : List (S60)) (a1 : ByteArray) (r1 : Int) (r2 : Bool) (w : World) (hr0_0 : Kd.C k60 w A0_0 l0_0.length l0_0) (hc0_0 : l0_0.length ≤ c0_0) (h : impl_StepsTo.f k l0_0 a1 = some (r1, r2)) :
  Calls Tryz.prog 11 #[.agg #[.slice A0_0 l0_0.length c0_0], .string a1] w fun e w' => e = .returned (.tuple #[.int .i64 r1, .bool r2]) ∧ Below w.heap.size w w' := by
 have hu30 := Tryz.underlying30
 have hu36 := Tryz.underlying36
 have HR0_0 := aM_ hr0_0
 have HC0_0 := aM_ hc0_0
 clear hr0_0 hc0_0
 have HB := aM_ (Below.refl w.heap.size w)
 have H : ((impl_Pressed_open.f k l0_0).bind fun bt472 => (if bt472.2 = true then ((impl_isWord.f a1).bind fun t477 => (if t477 = true then ((impl_Trie_has.f k bt472.1 a1).bind fun t478 => (impl_StepsTo.j0 k a1 (!t478) l0_0)) else (impl_StepsTo.j0 k a1 true l0_0))) else (impl_StepsTo.j0 k a1 true l0_0))) = some (r1, r2) := h
 clear h
 replace H := oB_.mp H
 obtain ⟨⟨t472, t475⟩, A30, H⟩ := H
 try dsimp only at H
 have A3 := aM_ A30
 clear A30
 have HC4 := aM_ H
 clear H
 go_enter Tryz.func11, Tryz.ntmps11
 go_upto_region 2 with (first | ((with_reducible refine gD_ (N := 2) rfl ?_); refine bE_ ?hg (N := 2) ?hd (cs := #[.slice A0_0 l0_0.length c0_0]) (t := 30) ?hr ?_; (case hd => rfl); (case hg => rfl); (case hr => (go_simp; done)); intro gb471 hg w5 hbox hb; have BK471 := aM_ (hbox); have GW471 := aM_ ((by rw [hg]; exact (bZ_ HB.out) : w.heap.size ≤ gb471)); have GE471 := GW471; replace HB := aM_ (bT_ HB.out hb); clear hb hbox hg; have hcz6_0 : w5.cell? ⟨gb471, 0, none⟩ = some (.slice A0_0 l0_0.length c0_0) := (bC_ BK471.out 0).trans rfl; have hfz6_0 := bF_ BK471.out 0) | ((with_reducible refine gC_ (f := 33) rfl ?_); refine goesL_ (some 14) rfl rfl Tryz.func33 (by kernel_rfl) rfl #[.agg #[.slice A0_0 l0_0.length c0_0]] rfl (by (try simp only [sD_, sE_, sF_]); rfl) ?_; (with_reducible refine (impl_Pressed_open.calls k _ _ l0_0 t472 t475 _ ?side1 ?side2 A3.out).mono ?_); (case side1 => repeat (first | exact (k4_ HR0_0.out HB.out) | (with_reducible refine Kd.C_alloc ?_ _) | (with_reducible refine Kd.C_drewN ?_ _) | (with_reducible refine Kd.C_drew ?_))); (case side2 => exact HC0_0.out); rintro e w7 ⟨v473, rfl, ho0, hb⟩; refine ⟨_, rfl, ?_⟩; have HO474 := aM_ (k5_ ho0 (bZ_ HB.out)); replace BK471 := aM_ (bB_ BK471.out hb); replace HB := aM_ (bT_ HB.out hb); (try clear hb); (try clear ho0)) | ((with_reducible refine gD_ (N := 6) rfl ?_); refine bE_ ?hg (N := 6) ?hd (cs := #[.slice none 0 0]) (t := 36) ?hr ?_; (case hd => rfl); (case hg => rfl); (case hr => (go_simp; done)); intro gb476 hg w8 hbox hb; replace HO474 := aM_ (kB_ HO474.out hb); have BK476 := aM_ (hbox); have GW476 := aM_ ((by rw [hg]; exact (bZ_ HB.out) : w.heap.size ≤ gb476)); have GE476 := GW476; replace HB := aM_ (bT_ HB.out hb); have NB471_476 := aM_ ((by rw [hg]; exact Nat.ne_of_lt (bL_ BK471.out) : gb471 ≠ gb476)); have NB476_471 := aM_ NB471_476.out.symm; replace BK471 := aM_ (bB_ BK471.out hb); clear hb hbox hg; obtain ⟨Ao9, co9, eo9⟩ := kS_ HO474.out; subst eo9; have hnb10 := NB476_471.out; have hnc10 := NB471_476.out; have hcz11_0 : w8.cell? ⟨gb476, 0, none⟩ = some (.slice none 0 0) := (bC_ BK476.out 0).trans rfl; have hfz11_0 := bF_ BK476.out 0))
 (try simp only [Act.put, sA_, sB_, sC_])
 go_cut [29] (fun v29 wc => ∃ (kq : Nat) (x29_3 : Bool), v29 = .bool x29_3 ∧ Aside0 (impl_StepsTo.j0 kq a1 x29_3 l0_0 = some (r1, r2)) ∧ Aside0 (kq ≤ k) ∧ Aside0 (Kd.R k76 76 wc w.heap.size (fun _ => True) (.slice Ao9 t472.length co9) t472) ∧ Aside0 (wc.heap[gb471]? = some (.cells #[(.slice A0_0 l0_0.length c0_0)] 30 (0, 0))) ∧ Aside0 (wc.heap[gb476]? = some (.cells #[(.slice Ao9 t472.length co9)] 36 (0, 0))) ∧ Aside0 (Below w.heap.size w wc))
 case first =>
  have H := HC4.out
  clear HC4
  by_cases c12 : t475 = true
  ·
   subst c12
   rw [if_pos rfl] at H
   replace H := oB_.mp H
   obtain ⟨t477, A130, H⟩ := H
   try dsimp only at H
   have A13 := aM_ A130
   clear A130
   by_cases c14 : t477 = true
   ·
    subst c14
    rw [if_pos rfl] at H
    replace H := oB_.mp H
    obtain ⟨t478, A150, H⟩ := H
    try dsimp only at H
    have A15 := aM_ A150
    clear A150
    have H' := aM_ H
    clear H
    go_wp2_with (first | (go_at_call 34; (with_reducible refine (impl_isWord.calls a1 true _ A13.out).mono ?_); rintro e w16 ⟨rfl, hb⟩; replace HO474 := aM_ (kB_ (by exact (kM_ (kF_ (p := ⟨gb476, 0, none⟩) (kT_ HO474.out BK476.out (by decide)) (fun _ hk => hk.2) (.slice Ao9 t472.length co9)) (fun _ h_ => h_.1))) hb); replace BK471 := aM_ (bB_ (g := gb471) (o := .cells #[.slice A0_0 l0_0.length c0_0] 30 (0, 0)) (by refine bR_ ?_ NB471_476.out _; exact BK471.out) hb); replace BK476 := aM_ (bB_ (g := gb476) (o := .cells #[.slice Ao9 t472.length co9] 36 (0, 0)) (by refine bP_ (cs := #[.slice none 0 0]) ?_ 0 _ rfl; exact BK476.out) hb); replace HB := aM_ (bT_ (by repeat (first | (with_reducible first | exact HB.out | apply bA_ | apply bN_ | apply bD_ | refine bS_ ?_ GE471.out | refine bS_ ?_ GE476.out) | exact HB.out)) hb); (try clear hb); have hnb17 := NB476_471.out; have hnc17 := NB471_476.out; have hcz18_0 : w16.cell? ⟨gb476, 0, none⟩ = some (.slice Ao9 t472.length co9) := (bC_ BK476.out 0).trans rfl; have hfz18_0 := bF_ BK476.out 0) | (go_at_call 35; (with_reducible refine (impl_Trie_has.calls k _ _ t472 a1 t478 _ ?side1 ?side2 A15.out).mono ?_); (case side1 => repeat (first | exact (kR_ HO474.out).2.2 | (with_reducible refine Kd.C_alloc ?_ _) | (with_reducible refine Kd.C_drewN ?_ _) | (with_reducible refine Kd.C_drew ?_))); (case side2 => exact (kR_ HO474.out).2.1); rintro e w19 ⟨rfl, hb⟩; replace HO474 := aM_ (kB_ HO474.out hb); replace BK471 := aM_ (bB_ BK471.out hb); replace BK476 := aM_ (bB_ BK476.out hb); replace HB := aM_ (bT_ HB.out hb); (try clear hb)))
    go_meet
    case rel => exact ⟨_, (!t478), (by rfl), H', ⟨by omega⟩, ⟨HO474.out⟩, ⟨BK471.out⟩, ⟨BK476.out⟩, ⟨HB.out⟩⟩
   ·
    replace c14 := Bool.eq_false_iff.mpr c14
    subst c14
    have H1 : (impl_StepsTo.j0 k a1 true l0_0) = some (r1, r2) := by rw [if_neg (show ¬ (false = true) by decide)] at H; exact H
    clear H
    have H := H1
    clear H1
    have H' := aM_ H
    clear H
    go_wp2_with (first | (go_at_call 34; (with_reducible refine (impl_isWord.calls a1 false _ A13.out).mono ?_); rintro e w20 ⟨rfl, hb⟩; replace HO474 := aM_ (kB_ (by exact (kM_ (kF_ (p := ⟨gb476, 0, none⟩) (kT_ HO474.out BK476.out (by decide)) (fun _ hk => hk.2) (.slice Ao9 t472.length co9)) (fun _ h_ => h_.1))) hb); replace BK471 := aM_ (bB_ (g := gb471) (o := .cells #[.slice A0_0 l0_0.length c0_0] 30 (0, 0)) (by refine bR_ ?_ NB471_476.out _; exact BK471.out) hb); replace BK476 := aM_ (bB_ (g := gb476) (o := .cells #[.slice Ao9 t472.length co9] 36 (0, 0)) (by refine bP_ (cs := #[.slice none 0 0]) ?_ 0 _ rfl; exact BK476.out) hb); replace HB := aM_ (bT_ (by repeat (first | (with_reducible first | exact HB.out | apply bA_ | apply bN_ | apply bD_ | refine bS_ ?_ GE471.out | refine bS_ ?_ GE476.out) | exact HB.out)) hb); (try clear hb)))
    go_meet
    case rel => exact ⟨_, (true), (by rfl), H', ⟨by omega⟩, ⟨HO474.out⟩, ⟨BK471.out⟩, ⟨BK476.out⟩, ⟨HB.out⟩⟩
  ·
   replace c12 := Bool.eq_false_iff.mpr c12
   subst c12
   have H1 : (impl_StepsTo.j0 k a1 true l0_0) = some (r1, r2) := by rw [if_neg (show ¬ (false = true) by decide)] at H; exact H
   clear H
   have H := H1
   clear H1
   have H' := aM_ H
   clear H
   go_wp2
   go_meet
   case rel => exact ⟨_, (true), (by rfl), H', ⟨by omega⟩, ⟨by exact kM_ (kF_ (p := ⟨gb476, 0, none⟩) (kT_ HO474.out BK476.out (by decide)) (fun _ hk => hk.2) (.slice Ao9 t472.length co9)) (fun _ hk => trivial)⟩, ⟨by refine bR_ ?_ NB471_476.out _; exact BK471.out⟩, ⟨by refine bP_ (cs := #[.slice none 0 0]) ?_ 0 _ rfl; exact BK476.out⟩, ⟨by repeat (first | (with_reducible first | exact HB.out | apply bA_ | apply bN_ | apply bD_ | refine bS_ ?_ GE471.out | refine bS_ ?_ GE476.out) | exact HB.out)⟩⟩
 case rest =>
  clear HC4
  try clear p2
  try clear hcz11_0
  try clear hcz18_0
  try clear hcz6_0
  try clear hfz11_0
  try clear hfz18_0
  try clear hfz6_0
  obtain ⟨kq, x29_3, rfl, HA, HJ3, HO_477000, BK471, BK476, HB⟩ := hcut
  cases kq with
  | zero => exact absurd HA.out (by simp [impl_StepsTo.j0])
  | succ kj3 =>
   have H := HA.out
   clear HA
   simp only [impl_StepsTo.j0] at H
   by_cases c21 : x29_3 = true
   ·
    subst c21
    rw [if_pos rfl] at H
    simp only [Option.some.injEq, Prod.mk.injEq] at H
    obtain ⟨rfl, rfl⟩ := H
    go_wp2
    go_ret2
    exact ⟨by rfl, by exact HB.out⟩
   ·
    replace c21 := Bool.eq_false_iff.mpr c21
    subst c21
    have H1 : ((impl_Pressed_prefixes.f kj3 l0_0).bind fun bt479 => ((slices_Index_string_string.f kj3 bt479.1 a1).bind fun t483 => (impl_StepsTo.l0 kj3 0 t483 l0_0))) = some (r1, r2) := by rw [if_neg (show ¬ (false = true) by decide)] at H; exact H
    clear H
    have H := H1
    clear H1
    replace H := oB_.mp H
    obtain ⟨⟨t479, t482⟩, A220, H⟩ := H
    try dsimp only at H
    have A22 := aM_ A220
    clear A220
    replace H := oB_.mp H
    obtain ⟨t483, A230, H⟩ := H
    try dsimp only at H
    have A23 := aM_ A230
    clear A230
    have H' := aM_ H
    clear H
    have hnb24 := NB471_476.out
    have hnc24 := NB476_471.out
    have hcz25_0 : wc.cell? ⟨gb471, 0, none⟩ = some (.slice A0_0 l0_0.length c0_0) := (bC_ BK471.out 0).trans rfl
    have hfz25_0 := bF_ BK471.out 0
    go_wp2_with (first | ((with_reducible refine gC_ (f := 36) rfl ?_); refine goesL_ (some 32) rfl rfl Tryz.func36 (by kernel_rfl) rfl #[.agg #[.slice A0_0 l0_0.length c0_0]] rfl (by (try simp only [sD_, sE_, sF_]); rfl) ?_; (with_reducible refine (impl_Pressed_prefixes.calls kj3 _ _ l0_0 t479 t482 _ ?side1 ?side2 A22.out).mono ?_); (case side1 => repeat (first | exact (k4_ HR0_0.out HB.out) | (with_reducible refine Kd.C_alloc ?_ _) | (with_reducible refine Kd.C_drewN ?_ _) | (with_reducible refine Kd.C_drew ?_))); (case side2 => exact HC0_0.out); rintro e w26 ⟨v480, rfl, ho0, hb⟩; refine ⟨_, rfl, ?_⟩; replace HO_477000 := aM_ (kB_ HO_477000.out hb); have HO481 := aM_ (k5_ ho0 (bZ_ HB.out)); replace BK471 := aM_ (bB_ BK471.out hb); replace BK476 := aM_ (bB_ BK476.out hb); replace HB := aM_ (bT_ HB.out hb); (try clear hb); (try clear ho0); obtain ⟨Ao27, co27, eo27⟩ := kS_ HO481.out; subst eo27) | ((with_reducible refine gC_ (f := 37) rfl ?_); refine goesL_ (some 37) rfl rfl Tryz.func37 (by kernel_rfl) rfl #[.slice Ao27 t479.length co27, .string a1] rfl (by (try simp only [sD_, sE_, sF_]); rfl) ?_; (with_reducible refine (slices_Index_string_string.calls kj3 _ _ t479 a1 t483 _ ?side1 ?side2 A23.out).mono ?_); (case side1 => repeat (first | exact (kR_ HO481.out).2.2 | (with_reducible refine Kd.C_alloc ?_ _) | (with_reducible refine Kd.C_drewN ?_ _) | (with_reducible refine Kd.C_drew ?_))); (case side2 => exact (kR_ HO481.out).2.1); rintro e w' ⟨rfl, ⟨nd, rfl⟩⟩; refine ⟨_, rfl, ?_⟩))
    go_loopg [10, 11] kj3 (fun kq v10 v11 w' => ∃ (x10_2 : Int) (x11_2 : Int), v10 = .int .i64 x10_2 ∧ v11 = .int .i64 x11_2 ∧ Aside0 (impl_StepsTo.l0 kq x10_2 x11_2 l0_0 = some (r1, r2)) ∧ Aside0 (kq ≤ kj3) ∧ Aside0 (Kd.R k76 76 w' w.heap.size (fun _ => True) (.slice Ao9 t472.length co9) t472) ∧ Aside0 (w'.heap[gb471]? = some (.cells #[(.slice A0_0 l0_0.length c0_0)] 30 (0, 0))) ∧ Aside0 (w'.heap[gb476]? = some (.cells #[(.slice Ao9 t472.length co9)] 36 (0, 0))) ∧ Aside0 (Below w.heap.size w w'))
    case atStart => exact ⟨(0), (t483), (by rfl), (by rfl), H', ⟨Nat.le_refl _⟩, ⟨by (with_reducible repeat (first | apply k1_ | apply k2_ | apply k3_)); exact HO_477000.out⟩, ⟨by (with_reducible repeat (first | refine b2_ ?_ _ | refine b1_ ?_ | refine b3_ ?_ _)); exact BK471.out⟩, ⟨by (with_reducible repeat (first | refine b2_ ?_ _ | refine b1_ ?_ | refine b3_ ?_ _)); exact BK476.out⟩, ⟨by repeat (first | (with_reducible first | exact HB.out | apply bA_ | apply bN_ | apply bD_ | refine bS_ ?_ GE471.out | refine bS_ ?_ GE476.out) | exact HB.out)⟩⟩
    case round =>
     clear H'
     try clear p2
     try clear hcz11_0
     try clear hcz18_0
     try clear hcz25_0
     try clear hcz6_0
     try clear hfz11_0
     try clear hfz18_0
     try clear hfz25_0
     try clear hfz6_0
     try clear p2
     obtain ⟨x10_2, x11_2, rfl, rfl, HA, HK2, HO_477000, BK471, BK476, HB⟩ := hrel
     cases gk with
     | zero => exact absurd HA.out (by simp [impl_StepsTo.l0])
     | succ k2 =>
      have H := HA.out
      clear HA
      simp only [impl_StepsTo.l0] at H
      by_cases c28 : x11_2 > 0
      ·
       rw [if_pos c28] at H
       have c28b0 := decide_eq_true c28
       clear c28
       by_cases c29 : 0 ≤ x11_2
       ·
        rw [if_pos c29] at H
        have c29b0 := decide_eq_true c29
        clear c29
        by_cases c30 : x11_2 < (l0_0.length : Int)
        ·
         rw [if_pos c30] at H
         have c30b0 := decide_eq_true c30
         clear c30
         have H' := aM_ H
         clear H
         have hnb31 := NB471_476.out
         have hnc31 := NB476_471.out
         have hcz32_0 : wr.cell? ⟨gb471, 0, none⟩ = some (.slice A0_0 l0_0.length c0_0) := (bC_ BK471.out 0).trans rfl
         have hfz32_0 := bF_ BK471.out 0
         have p484 : 0 ≤ (x11_2 : Int) := of_decide_eq_true (by (with_reducible assumption))
         have q484 : x11_2 < (l0_0.length : Int) := of_decide_eq_true (by (with_reducible assumption))
         obtain ⟨ad484, e484, hx484_0, hx484_1, hx484_2⟩ := at_T60 HR0_0.out x11_2 p484 q484
         cases e484
         replace hx484_0 := (HB.out.cell (wB_ w _ hx484_0)).trans hx484_0
         replace hx484_1 := (HB.out.cell (wB_ w _ hx484_1)).trans hx484_1
         replace hx484_2 := (HB.out.cell (wB_ w _ hx484_2)).trans hx484_2
         replace p484 := eq_true p484
         replace q484 := eq_true q484
         go_wp2
         go_roundg k2
         case measure => have := HJ3.out; have := HK2.out; omega
         case rel => exact ⟨(wrap64 (x10_2 + 1)), ((rd_T60 l0_0 x11_2).f1), (by rfl), (by rfl), H', ⟨by have := HJ3.out; have := HK2.out; omega⟩, ⟨HO_477000.out⟩, ⟨BK471.out⟩, ⟨BK476.out⟩, ⟨HB.out⟩⟩
        ·
         rw [if_neg c30] at H
         exact absurd H (by simp)
       ·
        rw [if_neg c29] at H
        exact absurd H (by simp)
      ·
       rw [if_neg c28] at H
       have c28b0 := decide_eq_false c28
       clear c28
       simp only [Option.some.injEq, Prod.mk.injEq] at H
       obtain ⟨rfl, rfl⟩ := H
       go_wp2
       go_ret2
       exact ⟨by rfl, by exact HB.out⟩
def spec_l2Words.l0 : Nat → List ByteArray → Int → List (S76) → Option (List ByteArray)
 | 0, _, _, _ => none
 | k + 1, x3, x4, x269000 => if x4 < (x269000.length : Int) then (if 0 ≤ x4 then (if (rd_T76 x269000 x4).f2 = true then ((spec_l2Prefix.f k x269000 x4).bind fun t273 => (if x3.length < 8796093022208 then (spec_l2Words.l0 k (x3 ++ [t273]) (wrap64 (x4 + 1)) x269000) else (none))) else (spec_l2Words.l0 k x3 (wrap64 (x4 + 1)) x269000)) else (none)) else (some x3)
def spec_l2Words.f (k : Nat) (l0_0 : List (S76)) : Option (List ByteArray) := spec_l2Words.l0 k (([] : List ByteArray)) 0 l0_0
theorem spec_l2Words.mono_l : ∀ k, (∀ y0 y1 y2, LeO (spec_l2Words.l0 k y0 y1 y2) (spec_l2Words.l0 (k + 1) y0 y1 y2))
 | 0 => fun _ _ _ r h => by simp [spec_l2Words.l0] at h
 | k + 1 => by
  have ih0 := spec_l2Words.mono_l k
  ·
   intro y0 y1 y2
   unfold spec_l2Words.l0
   repeat' first
   | (with_reducible exact ih0 _ _ _)
   | (with_reducible exact spec_l2Prefix.mono _ _ _)
   | (with_reducible exact l3_ _)
   | (with_reducible exact l0_ _)
   | (with_reducible refine l2_ ?_ ?_)
   | (with_reducible refine l1_ ?_ (fun _ => ?_))
   | exact ih0 _ _ _
   | exact spec_l2Prefix.mono _ _ _
   | exact l0_ _
   | refine l2_ ?_ ?_
   | refine l1_ ?_ (fun _ => ?_)
theorem spec_l2Words.mono : ∀ a0 k, LeO (spec_l2Words.f k a0) (spec_l2Words.f (k + 1) a0) := by
 intro a0 k
 have ih0 := spec_l2Words.mono_l k
 unfold spec_l2Words.f
 repeat' first
   | (with_reducible exact ih0 _ _ _)
   | (with_reducible exact spec_l2Prefix.mono _ _ _)
   | (with_reducible exact l3_ _)
   | (with_reducible exact l0_ _)
   | (with_reducible refine l2_ ?_ ?_)
   | (with_reducible refine l1_ ?_ (fun _ => ?_))
   | exact ih0 _ _ _
   | exact spec_l2Prefix.mono _ _ _
   | exact l0_ _
   | refine l2_ ?_ ?_
   | refine l1_ ?_ (fun _ => ?_)
theorem spec_l2Words.calls (k : Nat) (A0_0 : Option Addr) (c0_0 : Nat) (l0_0 : List (S76)) (r : List ByteArray) (w : World) (hr0_0 : Kd.C k76 w A0_0 l0_0.length l0_0) (hc0_0 : l0_0.length ≤ c0_0) (h : spec_l2Words.f k l0_0 = some r) :
  Calls Tryz.prog 29 #[.agg #[.slice A0_0 l0_0.length c0_0]] w fun e w' => ∃ v0_ : Value, e = .returned (v0_) ∧ Kd.R Kd.string 9 w' w.heap.size (fun _ => True) v0_ r ∧ Below w.heap.size w w' := by
 have hu36 := Tryz.underlying36
 have HR0_0 := aM_ hr0_0
 have HC0_0 := aM_ hc0_0
 clear hr0_0 hc0_0
 have HB := aM_ (Below.refl w.heap.size w)
 have H : (spec_l2Words.l0 k (([] : List ByteArray)) 0 l0_0) = some r := h
 clear h
 obtain ⟨y269, hy269⟩ : ∃ y_ : List ByteArray, y_ = (([] : List ByteArray)) := ⟨_, rfl⟩
 replace H : (spec_l2Words.l0 k y269 0 l0_0) = some r := by first | (rw [hy269]; with_reducible exact H) | (have H2_ := (Option.bind_some _ _).symm.trans H; rw [hy269]; with_reducible exact H2_) | (have H2_ := (Option.bind_some _ _).symm.trans H; with_reducible exact H2_) | with_reducible exact H | (rw [hy269]; exact H) | exact H
 have Ny269 := aM_ hy269
 clear hy269
 have H' := aM_ H
 clear H
 go_enter Tryz.func29, Tryz.ntmps29
 go_wp2_with (first | ((with_reducible refine gD_ (N := 1) rfl ?_); refine bE_ ?hg (N := 1) ?hd (cs := #[.slice A0_0 l0_0.length c0_0]) (t := 36) ?hr ?_; (case hd => rfl); (case hg => rfl); (case hr => (go_simp; done)); intro gb268 hg w2 hbox hb; have BK268 := aM_ (hbox); have GW268 := aM_ ((by rw [hg]; exact (bZ_ HB.out) : w.heap.size ≤ gb268)); have GE268 := GW268; replace HB := aM_ (bT_ HB.out hb); clear hb hbox hg) | ((with_reducible refine gD_ (N := 5) rfl ?_); refine Kd.R_lit Kd.string _ 9 ?hg (N := 5) ?hd (xs := ([] : List ByteArray)) (inner := []) (ok := fun _ => True) (okp := fun _ => True) ?hr ?hp (fun _ hk => hk) trivial (Below.refl _ _) (Nat.le_refl _) (by simp) ?_; (case hd => rfl); (case hg => rfl); (case hr => (go_simp; done)); (case hp => exact (Reps.none _ _)); intro v270 w3 ho4 hb hg_ hnew_; clear hg_ hnew_; (rw [← Ny269.out] at ho4); have HO271 := aM_ (k5_ ho4 (bZ_ HB.out)); replace BK268 := aM_ (bB_ BK268.out hb); replace HB := aM_ (bT_ HB.out hb); clear hb ho4))
 go_loopg [3, 4] k (fun kq v3 v4 w' => ∃ (x3_1 : List ByteArray) (x4_1 : Int), v4 = .int .i64 x4_1 ∧ Aside0 (spec_l2Words.l0 kq x3_1 x4_1 l0_0 = some r) ∧ Aside0 (kq ≤ k) ∧ Aside0 (Kd.R Kd.string 9 w' w.heap.size (fun _ => True) v3 x3_1) ∧ Aside0 (w'.heap[gb268]? = some (.cells #[(.slice A0_0 l0_0.length c0_0)] 36 (0, 0))) ∧ Aside0 (Below w.heap.size w w'))
 case atStart => exact ⟨(y269), (0), (by rfl), H', ⟨Nat.le_refl _⟩, ⟨HO271.out⟩, ⟨BK268.out⟩, ⟨HB.out⟩⟩
 case round =>
  clear H'
  try clear p2
  obtain ⟨x3_1, x4_1, rfl, HA, HK1, HO_3, BK268, HB⟩ := hrel
  cases gk with
  | zero => exact absurd HA.out (by simp [spec_l2Words.l0])
  | succ k1 =>
   have H := HA.out
   clear HA
   simp only [spec_l2Words.l0] at H
   by_cases c5 : x4_1 < (l0_0.length : Int)
   ·
    rw [if_pos c5] at H
    have c5b0 := decide_eq_true c5
    clear c5
    by_cases c6 : 0 ≤ x4_1
    ·
     rw [if_pos c6] at H
     have c6b0 := decide_eq_true c6
     clear c6
     obtain ⟨bq7, hbq7⟩ : ∃ b_ : Bool, b_ = ((rd_T76 l0_0 x4_1).f2) := ⟨_, rfl⟩
     replace H : (if bq7 = true then ((spec_l2Prefix.f k1 l0_0 x4_1).bind fun t273 => (if x3_1.length < 8796093022208 then (spec_l2Words.l0 k1 (x3_1 ++ [t273]) (wrap64 (x4_1 + 1)) l0_0) else (none))) else (spec_l2Words.l0 k1 x3_1 (wrap64 (x4_1 + 1)) l0_0)) = some r := by rw [← hbq7] at H; exact H
     have Nbq7 := aM_ hbq7
     clear hbq7
     by_cases c8 : bq7 = true
     ·
      subst c8
      rw [if_pos rfl] at H
      replace H := oB_.mp H
      obtain ⟨t273, A90, H⟩ := H
      try dsimp only at H
      have A9 := aM_ A90
      clear A90
      by_cases c10 : x3_1.length < 8796093022208
      ·
       rw [if_pos c10] at H
       have LMc10 := aM_ c10
       clear c10
       obtain ⟨y274, hy274⟩ : ∃ y_ : List ByteArray, y_ = (x3_1 ++ [t273]) := ⟨_, rfl⟩
       replace H : (spec_l2Words.l0 k1 y274 (wrap64 (x4_1 + 1)) l0_0) = some r := by first | (rw [hy274]; with_reducible exact H) | (have H2_ := (Option.bind_some _ _).symm.trans H; rw [hy274]; with_reducible exact H2_) | (have H2_ := (Option.bind_some _ _).symm.trans H; with_reducible exact H2_) | with_reducible exact H | (rw [hy274]; exact H) | exact H
       have Ny274 := aM_ hy274
       clear hy274
       have H' := aM_ H
       clear H
       have hcz11_0 : wr.cell? ⟨gb268, 0, none⟩ = some (.slice A0_0 l0_0.length c0_0) := (bC_ BK268.out 0).trans rfl
       have hfz11_0 := bF_ BK268.out 0
       have p272 : 0 ≤ (x4_1 : Int) := of_decide_eq_true (by (with_reducible assumption))
       have q272 : x4_1 < (l0_0.length : Int) := of_decide_eq_true (by (with_reducible assumption))
       obtain ⟨ad272, e272, hx272_0, hx272_1, hx272_2⟩ := at_T76 HR0_0.out x4_1 p272 q272
       (try rw [← Nbq7.out] at hx272_2)
       cases e272
       replace hx272_0 := (HB.out.cell (wB_ w _ hx272_0)).trans hx272_0
       replace hx272_1 := (HB.out.cell (wB_ w _ hx272_1)).trans hx272_1
       replace hx272_2 := (HB.out.cell (wB_ w _ hx272_2)).trans hx272_2
       replace p272 := eq_true p272
       replace q272 := eq_true q272
       go_wp2_with (first | ((with_reducible refine gC_ (f := 58) rfl ?_); refine goesL_ (some 22) rfl rfl Tryz.func58 (by kernel_rfl) rfl #[.agg #[.slice (some ad272) l0_0.length c0_0], .int .i64 x4_1] rfl (by (try simp only [sD_, sE_, sF_]); rfl) ?_; (with_reducible refine (spec_l2Prefix.calls k1 _ _ l0_0 x4_1 t273 _ ?side1 ?side2 A9.out).mono ?_); (case side1 => repeat (first | exact (k4_ HR0_0.out HB.out) | (with_reducible refine Kd.C_alloc ?_ _) | (with_reducible refine Kd.C_drewN ?_ _) | (with_reducible refine Kd.C_drew ?_))); (case side2 => exact HC0_0.out); rintro e w12 ⟨rfl, hb⟩; refine ⟨_, rfl, ?_⟩; replace HO_3 := aM_ (kB_ HO_3.out hb); replace BK268 := aM_ (bB_ BK268.out hb); replace HB := aM_ (bT_ HB.out hb); (try clear hb)) | ((with_reducible refine gate_builtin (b := .append) (xs := #[.tmp 19, .tmp 23]) rfl ?_); at_builtin; refine Kd.R_append Kd.string (w0 := w) w.heap.size rfl (.tmp 19) (.tmp 23) 49 9 (.string ⟨#[]⟩) 16 rfl Tryz.underlying49 info9 rfl (by decide) (by omega) u3 x3_1 t273 [.string t273] (fun _ => True) (fun _ => False) rfl rfl ?aP (fun _ hk => hk.elim) ?aF ?aO ?aB ?aS ?aL ?_; (case aP => exact rfl); (case aB => exact HB.out); (case aF => exact (fun _ _ => trivial)); (case aO => exact HO_3.out); (case aS => exact (bZ_ HB.out)); (case aL => have := LMc10.out; omega); intro v275 w13 ho hb hg hat; rw [← Ny274.out] at ho; have n0_ := aM_ (blk_grown (g := gb268) (o := .cells #[.slice (some ad272) l0_0.length c0_0] 36 (0, 0)) BK268.out hg (k6_ HO_3.out BK268.out (by decide))); have n1_ := aM_ (hb); have n2_ := aM_ (ho); clear BK268; clear HB; clear HO_3; have BK268 := n0_; have HB := n1_; have HO276 := n2_; clear n0_ n1_ n2_; clear ho hb hg hat))
       go_roundg k1
       case measure => have := HK1.out; omega
       case rel => exact ⟨(y274), (wrap64 (x4_1 + 1)), (by rfl), H', ⟨by have := HK1.out; omega⟩, ⟨HO276.out⟩, ⟨BK268.out⟩, ⟨HB.out⟩⟩
      ·
       rw [if_neg c10] at H
       exact absurd H (by simp)
     ·
      replace c8 := Bool.eq_false_iff.mpr c8
      subst c8
      have H1 : (spec_l2Words.l0 k1 x3_1 (wrap64 (x4_1 + 1)) l0_0) = some r := by rw [if_neg (show ¬ (false = true) by decide)] at H; exact H
      clear H
      have H := H1
      clear H1
      have H' := aM_ H
      clear H
      have hcz14_0 : wr.cell? ⟨gb268, 0, none⟩ = some (.slice A0_0 l0_0.length c0_0) := (bC_ BK268.out 0).trans rfl
      have hfz14_0 := bF_ BK268.out 0
      have p272 : 0 ≤ (x4_1 : Int) := of_decide_eq_true (by (with_reducible assumption))
      have q272 : x4_1 < (l0_0.length : Int) := of_decide_eq_true (by (with_reducible assumption))
      obtain ⟨ad272, e272, hx272_0, hx272_1, hx272_2⟩ := at_T76 HR0_0.out x4_1 p272 q272
      (try rw [← Nbq7.out] at hx272_2)
      cases e272
      replace hx272_0 := (HB.out.cell (wB_ w _ hx272_0)).trans hx272_0
      replace hx272_1 := (HB.out.cell (wB_ w _ hx272_1)).trans hx272_1
      replace hx272_2 := (HB.out.cell (wB_ w _ hx272_2)).trans hx272_2
      replace p272 := eq_true p272
      replace q272 := eq_true q272
      go_wp2
      go_roundg k1
      case measure => have := HK1.out; omega
      case rel => exact ⟨(x3_1), (wrap64 (x4_1 + 1)), (by rfl), H', ⟨by have := HK1.out; omega⟩, ⟨HO_3.out⟩, ⟨BK268.out⟩, ⟨HB.out⟩⟩
    ·
     rw [if_neg c6] at H
     exact absurd H (by simp)
   ·
    rw [if_neg c5] at H
    have c5b0 := decide_eq_false c5
    clear c5
    obtain rfl := Option.some.inj H
    have hcz15_0 : wr.cell? ⟨gb268, 0, none⟩ = some (.slice A0_0 l0_0.length c0_0) := (bC_ BK268.out 0).trans rfl
    have hfz15_0 := bF_ BK268.out 0
    go_wp2
    go_ret
    exact ⟨_, by rfl, by exact HO_3.out, by exact HB.out⟩
def spec_l2Begins.f (a0 : ByteArray) (a1 : ByteArray) : Option (Bool) := if (a0.size : Int) ≥ (a1.size : Int) then (if 0 ≤ (a1.size : Int) then (if (a1.size : Int) ≤ (a0.size : Int) then (some ((a0.extract 0 ((a1.size : Int) : Int).toNat).toList == a1.toList)) else (none)) else (none)) else (some false)
theorem spec_l2Begins.calls (a0 : ByteArray) (a1 : ByteArray) (r : Bool) (w : World) (h : spec_l2Begins.f a0 a1 = some r) :
  Calls Tryz.prog 30 #[.string a0, .string a1] w fun e w' => e = .returned (.bool r) ∧ Drawn0 w w' := by
 have H : (if (a0.size : Int) ≥ (a1.size : Int) then (if 0 ≤ (a1.size : Int) then (if (a1.size : Int) ≤ (a0.size : Int) then (some ((a0.extract 0 ((a1.size : Int) : Int).toNat).toList == a1.toList)) else (none)) else (none)) else (some false)) = some r := h
 clear h
 by_cases c3 : (a0.size : Int) ≥ (a1.size : Int)
 ·
  rw [if_pos c3] at H
  have c3b0 := decide_eq_true c3
  have c3b1 : decide (a1.size ≤ a0.size) = true := decide_eq_true (Int.ofNat_le.mp c3)
  clear c3
  by_cases c4 : 0 ≤ (a1.size : Int)
  rotate_left
  ·
   rw [if_neg c4] at H
   exact absurd H (by simp)
  rw [if_pos c4] at H
  have c4b0 := eq_true c4
  have c4b1 := decide_eq_true c4
  clear c4
  by_cases c5 : (a1.size : Int) ≤ (a0.size : Int)
  rotate_left
  ·
   rw [if_neg c5] at H
   exact absurd H (by simp)
  rw [if_pos c5] at H
  have c5b0 := eq_true c5
  have c5b1 := decide_eq_true c5
  clear c5
  obtain rfl := Option.some.inj H
  go_enter Tryz.func30, Tryz.ntmps30
  go_wp2
  go_ret
  exact ⟨by rfl, by repeat (first | exact Drawn0.refl _ | apply Drawn0.step)⟩
 ·
  rw [if_neg c3] at H
  have c3b0 := decide_eq_false c3
  have c3b1 : decide (a1.size ≤ a0.size) = false := decide_eq_false (fun h => c3 (Int.ofNat_le.mpr h))
  clear c3
  obtain rfl := Option.some.inj H
  go_enter Tryz.func30, Tryz.ntmps30
  go_wp2
  go_ret
  exact ⟨by rfl, by repeat (first | exact Drawn0.refl _ | apply Drawn0.step)⟩
mutual
def spec_StepsTo.j0 : Nat → ByteArray → Bool → List (S60) → Option (Int × Bool)
 | 0, _, _, _ => none
 | k + 1, x1, x23, x278000 => if x23 = true then (some (0, false)) else (spec_StepsTo.l0 k x1 0 1 x278000)
def spec_StepsTo.l0 : Nat → ByteArray → Int → Int → List (S60) → Option (Int × Bool)
 | 0, _, _, _, _ => none
 | k + 1, x1, x8, x9, x278000 => if x9 < (x278000.length : Int) then ((spec_l4Prefix.f k x278000 x9).bind fun t287 => ((spec_l2Begins.f x1 t287).bind fun t288 => (if t288 = true then (spec_StepsTo.l0 k x1 (wrap64 (x8 + 1)) (wrap64 (x9 + 1)) x278000) else (spec_StepsTo.l0 k x1 x8 (wrap64 (x9 + 1)) x278000)))) else (some (x8, true))
end
def spec_StepsTo.f (k : Nat) (l0_0 : List (S60)) (a1 : ByteArray) : Option (Int × Bool) := (spec_l4Open.f k l0_0).bind fun bt278 => (if bt278.2 = true then ((spec_l2Words.f k bt278.1).bind fun t283 => ((spec_l2Has.f k t283 a1).bind fun t286 => (spec_StepsTo.j0 k a1 (!t286) l0_0))) else (spec_StepsTo.j0 k a1 true l0_0))
theorem spec_StepsTo.mono_l : ∀ k, (∀ y0 y1 y2, LeO (spec_StepsTo.j0 k y0 y1 y2) (spec_StepsTo.j0 (k + 1) y0 y1 y2)) ∧ (∀ y0 y1 y2 y3, LeO (spec_StepsTo.l0 k y0 y1 y2 y3) (spec_StepsTo.l0 (k + 1) y0 y1 y2 y3))
 | 0 => ⟨fun _ _ _ r h => by simp [spec_StepsTo.j0] at h, fun _ _ _ _ r h => by simp [spec_StepsTo.l0] at h⟩
 | k + 1 => by
  obtain ⟨ih0, ih1⟩ := spec_StepsTo.mono_l k
  refine ⟨?_, ?_⟩
  ·
   intro y0 y1 y2
   unfold spec_StepsTo.j0
   repeat' first
   | (with_reducible exact ih0 _ _ _)
   | (with_reducible exact ih1 _ _ _ _)
   | (with_reducible exact spec_l2Has.mono _ _ _)
   | (with_reducible exact spec_l2Words.mono _ _)
   | (with_reducible exact spec_l4Open.mono _ _)
   | (with_reducible exact spec_l4Prefix.mono _ _ _)
   | (with_reducible exact l3_ _)
   | (with_reducible exact l0_ _)
   | (with_reducible refine l2_ ?_ ?_)
   | (with_reducible refine l1_ ?_ (fun _ => ?_))
   | exact ih0 _ _ _
   | exact ih1 _ _ _ _
   | exact spec_l2Has.mono _ _ _
   | exact spec_l2Words.mono _ _
   | exact spec_l4Open.mono _ _
   | exact spec_l4Prefix.mono _ _ _
   | exact l0_ _
   | refine l2_ ?_ ?_
   | refine l1_ ?_ (fun _ => ?_)
  ·
   intro y0 y1 y2 y3
   unfold spec_StepsTo.l0
   repeat' first
   | (with_reducible exact ih0 _ _ _)
   | (with_reducible exact ih1 _ _ _ _)
   | (with_reducible exact spec_l2Has.mono _ _ _)
   | (with_reducible exact spec_l2Words.mono _ _)
   | (with_reducible exact spec_l4Open.mono _ _)
   | (with_reducible exact spec_l4Prefix.mono _ _ _)
   | (with_reducible exact l3_ _)
   | (with_reducible exact l0_ _)
   | (with_reducible refine l2_ ?_ ?_)
   | (with_reducible refine l1_ ?_ (fun _ => ?_))
   | exact ih0 _ _ _
   | exact ih1 _ _ _ _
   | exact spec_l2Has.mono _ _ _
   | exact spec_l2Words.mono _ _
   | exact spec_l4Open.mono _ _
   | exact spec_l4Prefix.mono _ _ _
   | exact l0_ _
   | refine l2_ ?_ ?_
   | refine l1_ ?_ (fun _ => ?_)
theorem spec_StepsTo.mono : ∀ a0 a1 k, LeO (spec_StepsTo.f k a0 a1) (spec_StepsTo.f (k + 1) a0 a1) := by
 intro a0 a1 k
 obtain ⟨ih0, ih1⟩ := spec_StepsTo.mono_l k
 unfold spec_StepsTo.f
 repeat' first
   | (with_reducible exact ih0 _ _ _)
   | (with_reducible exact ih1 _ _ _ _)
   | (with_reducible exact spec_l2Has.mono _ _ _)
   | (with_reducible exact spec_l2Words.mono _ _)
   | (with_reducible exact spec_l4Open.mono _ _)
   | (with_reducible exact spec_l4Prefix.mono _ _ _)
   | (with_reducible exact l3_ _)
   | (with_reducible exact l0_ _)
   | (with_reducible refine l2_ ?_ ?_)
   | (with_reducible refine l1_ ?_ (fun _ => ?_))
   | exact ih0 _ _ _
   | exact ih1 _ _ _ _
   | exact spec_l2Has.mono _ _ _
   | exact spec_l2Words.mono _ _
   | exact spec_l4Open.mono _ _
   | exact spec_l4Prefix.mono _ _ _
   | exact l0_ _
   | refine l2_ ?_ ?_
   | refine l1_ ?_ (fun _ => ?_)
theorem spec_StepsTo.calls (k : Nat) (A0_0 : Option Addr) (c0_0 : Nat) (l0_0 : List (S60)) (a1 : ByteArray) (r1 : Int) (r2 : Bool) (w : World) (hr0_0 : Kd.C k60 w A0_0 l0_0.length l0_0) (hc0_0 : l0_0.length ≤ c0_0) (h : spec_StepsTo.f k l0_0 a1 = some (r1, r2)) :
  Calls Tryz.prog 9 #[.agg #[.slice A0_0 l0_0.length c0_0], .string a1] w fun e w' => e = .returned (.tuple #[.int .i64 r1, .bool r2]) ∧ Below w.heap.size w w' := by
 have hu30 := Tryz.underlying30
 have hu36 := Tryz.underlying36
 have HR0_0 := aM_ hr0_0
 have HC0_0 := aM_ hc0_0
 clear hr0_0 hc0_0
 have HB := aM_ (Below.refl w.heap.size w)
 have H : ((spec_l4Open.f k l0_0).bind fun bt278 => (if bt278.2 = true then ((spec_l2Words.f k bt278.1).bind fun t283 => ((spec_l2Has.f k t283 a1).bind fun t286 => (spec_StepsTo.j0 k a1 (!t286) l0_0))) else (spec_StepsTo.j0 k a1 true l0_0))) = some (r1, r2) := h
 clear h
 replace H := oB_.mp H
 obtain ⟨⟨t278, t281⟩, A30, H⟩ := H
 try dsimp only at H
 have A3 := aM_ A30
 clear A30
 have HC4 := aM_ H
 clear H
 go_enter Tryz.func9, Tryz.ntmps9
 go_upto_region 2 with (first | ((with_reducible refine gD_ (N := 2) rfl ?_); refine bE_ ?hg (N := 2) ?hd (cs := #[.slice A0_0 l0_0.length c0_0]) (t := 30) ?hr ?_; (case hd => rfl); (case hg => rfl); (case hr => (go_simp; done)); intro gb277 hg w5 hbox hb; have BK277 := aM_ (hbox); have GW277 := aM_ ((by rw [hg]; exact (bZ_ HB.out) : w.heap.size ≤ gb277)); have GE277 := GW277; replace HB := aM_ (bT_ HB.out hb); clear hb hbox hg; have hcz6_0 : w5.cell? ⟨gb277, 0, none⟩ = some (.slice A0_0 l0_0.length c0_0) := (bC_ BK277.out 0).trans rfl; have hfz6_0 := bF_ BK277.out 0) | ((with_reducible refine gC_ (f := 27) rfl ?_); refine goesL_ (some 12) rfl rfl Tryz.func27 (by kernel_rfl) rfl #[.agg #[.slice A0_0 l0_0.length c0_0]] rfl (by (try simp only [sD_, sE_, sF_]); rfl) ?_; (with_reducible refine (spec_l4Open.calls k _ _ l0_0 t278 t281 _ ?side1 ?side2 A3.out).mono ?_); (case side1 => repeat (first | exact (k4_ HR0_0.out HB.out) | (with_reducible refine Kd.C_alloc ?_ _) | (with_reducible refine Kd.C_drewN ?_ _) | (with_reducible refine Kd.C_drew ?_))); (case side2 => exact HC0_0.out); rintro e w7 ⟨v279, rfl, ho0, hb⟩; refine ⟨_, rfl, ?_⟩; have HO280 := aM_ (k5_ ho0 (bZ_ HB.out)); replace BK277 := aM_ (bB_ BK277.out hb); replace HB := aM_ (bT_ HB.out hb); (try clear hb); (try clear ho0)) | ((with_reducible refine gD_ (N := 6) rfl ?_); refine bE_ ?hg (N := 6) ?hd (cs := #[.slice none 0 0]) (t := 36) ?hr ?_; (case hd => rfl); (case hg => rfl); (case hr => (go_simp; done)); intro gb282 hg w8 hbox hb; replace HO280 := aM_ (kB_ HO280.out hb); have BK282 := aM_ (hbox); have GW282 := aM_ ((by rw [hg]; exact (bZ_ HB.out) : w.heap.size ≤ gb282)); have GE282 := GW282; replace HB := aM_ (bT_ HB.out hb); have NB277_282 := aM_ ((by rw [hg]; exact Nat.ne_of_lt (bL_ BK277.out) : gb277 ≠ gb282)); have NB282_277 := aM_ NB277_282.out.symm; replace BK277 := aM_ (bB_ BK277.out hb); clear hb hbox hg; obtain ⟨Ao9, co9, eo9⟩ := kS_ HO280.out; subst eo9; have hnb10 := NB282_277.out; have hnc10 := NB277_282.out; have hcz11_0 : w8.cell? ⟨gb282, 0, none⟩ = some (.slice none 0 0) := (bC_ BK282.out 0).trans rfl; have hfz11_0 := bF_ BK282.out 0))
 (try simp only [Act.put, sA_, sB_, sC_])
 go_cut [23] (fun v23 wc => ∃ (kq : Nat) (x23_3 : Bool), v23 = .bool x23_3 ∧ Aside0 (spec_StepsTo.j0 kq a1 x23_3 l0_0 = some (r1, r2)) ∧ Aside0 (kq ≤ k) ∧ Aside0 (Kd.R k76 76 wc w.heap.size (fun _ => True) (.slice Ao9 t278.length co9) t278) ∧ Aside0 (wc.heap[gb277]? = some (.cells #[(.slice A0_0 l0_0.length c0_0)] 30 (0, 0))) ∧ Aside0 (wc.heap[gb282]? = some (.cells #[(.slice Ao9 t278.length co9)] 36 (0, 0))) ∧ Aside0 (Below w.heap.size w wc))
 case first =>
  have H := HC4.out
  clear HC4
  by_cases c12 : t281 = true
  ·
   subst c12
   rw [if_pos rfl] at H
   replace H := oB_.mp H
   obtain ⟨t283, A130, H⟩ := H
   try dsimp only at H
   have A13 := aM_ A130
   clear A130
   replace H := oB_.mp H
   obtain ⟨t286, A140, H⟩ := H
   try dsimp only at H
   have A14 := aM_ A140
   clear A140
   have H' := aM_ H
   clear H
   have hnb15 := NB282_277.out
   have hnc15 := NB277_282.out
   have hcz16_0 : w8.cell? ⟨gb282, 0, none⟩ = some (.slice none 0 0) := (bC_ BK282.out 0).trans rfl
   have hfz16_0 := bF_ BK282.out 0
   go_wp2_with (first | (go_at_call 29; (with_reducible refine (spec_l2Words.calls k _ _ t278 t283 _ ?side1 ?side2 A13.out).mono ?_); (case side1 => refine (kR_ (e := 76) (base := w.heap.size) (ok := fun k_ => True) (n := t278.length) (c := co9) ?_).2.2; exact (by exact (kM_ (kF_ (p := ⟨gb282, 0, none⟩) (kT_ HO280.out BK282.out (by decide)) (fun _ hk => hk.2) (.slice Ao9 t278.length co9)) (fun _ h_ => h_.1)))); (case side2 => exact (kR_ HO280.out).2.1); rintro e w17 ⟨v284, rfl, ho0, hb⟩; replace HO280 := aM_ (kB_ (by exact (kM_ (kF_ (p := ⟨gb282, 0, none⟩) (kT_ HO280.out BK282.out (by decide)) (fun _ hk => hk.2) (.slice Ao9 t278.length co9)) (fun _ h_ => h_.1))) hb); have HO285 := aM_ (k5_ ho0 (bZ_ (by repeat (first | (with_reducible first | exact HB.out | apply bA_ | apply bN_ | apply bD_ | refine bS_ ?_ GE277.out | refine bS_ ?_ GE282.out) | exact HB.out)))); replace BK277 := aM_ (bB_ (g := gb277) (o := .cells #[.slice A0_0 l0_0.length c0_0] 30 (0, 0)) (by refine bR_ ?_ NB277_282.out _; exact BK277.out) hb); replace BK282 := aM_ (bB_ (g := gb282) (o := .cells #[.slice Ao9 t278.length co9] 36 (0, 0)) (by refine bP_ (cs := #[.slice none 0 0]) ?_ 0 _ rfl; exact BK282.out) hb); replace HB := aM_ (bT_ (by repeat (first | (with_reducible first | exact HB.out | apply bA_ | apply bN_ | apply bD_ | refine bS_ ?_ GE277.out | refine bS_ ?_ GE282.out) | exact HB.out)) hb); (try clear hb); (try clear ho0); obtain ⟨Ao18, co18, eo18⟩ := kS_ HO285.out; subst eo18) | (go_at_call 28; (with_reducible refine (spec_l2Has.calls k _ _ t283 a1 t286 _ ?side1 ?side2 A14.out).mono ?_); (case side1 => repeat (first | exact (kR_ HO285.out).2.2 | (with_reducible refine Kd.C_alloc ?_ _) | (with_reducible refine Kd.C_drewN ?_ _) | (with_reducible refine Kd.C_drew ?_))); (case side2 => exact (kR_ HO285.out).2.1); rintro e w' ⟨rfl, ⟨nd, rfl⟩⟩))
   go_meet
   case rel => exact ⟨_, (!t286), (by rfl), H', ⟨by omega⟩, ⟨by (with_reducible repeat (first | apply k1_ | apply k2_ | apply k3_)); exact HO280.out⟩, ⟨by (with_reducible repeat (first | refine b2_ ?_ _ | refine b1_ ?_ | refine b3_ ?_ _)); exact BK277.out⟩, ⟨by (with_reducible repeat (first | refine b2_ ?_ _ | refine b1_ ?_ | refine b3_ ?_ _)); exact BK282.out⟩, ⟨by repeat (first | (with_reducible first | exact HB.out | apply bA_ | apply bN_ | apply bD_ | refine bS_ ?_ GE277.out | refine bS_ ?_ GE282.out) | exact HB.out)⟩⟩
  ·
   replace c12 := Bool.eq_false_iff.mpr c12
   subst c12
   have H1 : (spec_StepsTo.j0 k a1 true l0_0) = some (r1, r2) := by rw [if_neg (show ¬ (false = true) by decide)] at H; exact H
   clear H
   have H := H1
   clear H1
   have H' := aM_ H
   clear H
   go_wp2
   go_meet
   case rel => exact ⟨_, (true), (by rfl), H', ⟨by omega⟩, ⟨by exact kM_ (kF_ (p := ⟨gb282, 0, none⟩) (kT_ HO280.out BK282.out (by decide)) (fun _ hk => hk.2) (.slice Ao9 t278.length co9)) (fun _ hk => trivial)⟩, ⟨by refine bR_ ?_ NB277_282.out _; exact BK277.out⟩, ⟨by refine bP_ (cs := #[.slice none 0 0]) ?_ 0 _ rfl; exact BK282.out⟩, ⟨by repeat (first | (with_reducible first | exact HB.out | apply bA_ | apply bN_ | apply bD_ | refine bS_ ?_ GE277.out | refine bS_ ?_ GE282.out) | exact HB.out)⟩⟩
 case rest =>
  clear HC4
  try clear p2
  try clear hcz11_0
  try clear hcz16_0
  try clear hcz6_0
  try clear hfz11_0
  try clear hfz16_0
  try clear hfz6_0
  obtain ⟨kq, x23_3, rfl, HA, HJ3, HO_283000, BK277, BK282, HB⟩ := hcut
  cases kq with
  | zero => exact absurd HA.out (by simp [spec_StepsTo.j0])
  | succ kj3 =>
   have H := HA.out
   clear HA
   simp only [spec_StepsTo.j0] at H
   by_cases c19 : x23_3 = true
   ·
    subst c19
    rw [if_pos rfl] at H
    simp only [Option.some.injEq, Prod.mk.injEq] at H
    obtain ⟨rfl, rfl⟩ := H
    go_wp2
    go_ret2
    exact ⟨by rfl, by exact HB.out⟩
   ·
    replace c19 := Bool.eq_false_iff.mpr c19
    subst c19
    have H1 : (spec_StepsTo.l0 kj3 a1 0 1 l0_0) = some (r1, r2) := by rw [if_neg (show ¬ (false = true) by decide)] at H; exact H
    clear H
    have H := H1
    clear H1
    have H' := aM_ H
    clear H
    go_wp2
    go_loopg [8, 9] kj3 (fun kq v8 v9 w' => ∃ (x8_2 : Int) (x9_2 : Int), v8 = .int .i64 x8_2 ∧ v9 = .int .i64 x9_2 ∧ Aside0 (spec_StepsTo.l0 kq a1 x8_2 x9_2 l0_0 = some (r1, r2)) ∧ Aside0 (kq ≤ kj3) ∧ Aside0 (Kd.R k76 76 w' w.heap.size (fun _ => True) (.slice Ao9 t278.length co9) t278) ∧ Aside0 (w'.heap[gb277]? = some (.cells #[(.slice A0_0 l0_0.length c0_0)] 30 (0, 0))) ∧ Aside0 (w'.heap[gb282]? = some (.cells #[(.slice Ao9 t278.length co9)] 36 (0, 0))) ∧ Aside0 (Below w.heap.size w w'))
    case atStart => exact ⟨(0), (1), (by rfl), (by rfl), H', ⟨Nat.le_refl _⟩, ⟨HO_283000.out⟩, ⟨BK277.out⟩, ⟨BK282.out⟩, ⟨HB.out⟩⟩
    case round =>
     clear H'
     try clear p2
     try clear hcz11_0
     try clear hcz16_0
     try clear hcz6_0
     try clear hfz11_0
     try clear hfz16_0
     try clear hfz6_0
     try clear p2
     obtain ⟨x8_2, x9_2, rfl, rfl, HA, HK2, HO_283000, BK277, BK282, HB⟩ := hrel
     cases gk with
     | zero => exact absurd HA.out (by simp [spec_StepsTo.l0])
     | succ k2 =>
      have H := HA.out
      clear HA
      simp only [spec_StepsTo.l0] at H
      by_cases c20 : x9_2 < (l0_0.length : Int)
      ·
       rw [if_pos c20] at H
       have c20b0 := decide_eq_true c20
       clear c20
       replace H := oB_.mp H
       obtain ⟨t287, A210, H⟩ := H
       try dsimp only at H
       have A21 := aM_ A210
       clear A210
       replace H := oB_.mp H
       obtain ⟨t288, A220, H⟩ := H
       try dsimp only at H
       have A22 := aM_ A220
       clear A220
       by_cases c23 : t288 = true
       ·
        subst c23
        rw [if_pos rfl] at H
        have H' := aM_ H
        clear H
        have hnb24 := NB277_282.out
        have hnc24 := NB282_277.out
        have hcz25_0 : wr.cell? ⟨gb277, 0, none⟩ = some (.slice A0_0 l0_0.length c0_0) := (bC_ BK277.out 0).trans rfl
        have hfz25_0 := bF_ BK277.out 0
        go_wp2_with (first | ((with_reducible refine gC_ (f := 31) rfl ?_); refine goesL_ (some 34) rfl rfl Tryz.func31 (by kernel_rfl) rfl #[.agg #[.slice A0_0 l0_0.length c0_0], .int .i64 x9_2] rfl (by (try simp only [sD_, sE_, sF_]); rfl) ?_; (with_reducible refine (spec_l4Prefix.calls k2 _ _ l0_0 x9_2 t287 _ ?side1 ?side2 A21.out).mono ?_); (case side1 => repeat (first | exact (k4_ HR0_0.out HB.out) | (with_reducible refine Kd.C_alloc ?_ _) | (with_reducible refine Kd.C_drewN ?_ _) | (with_reducible refine Kd.C_drew ?_))); (case side2 => exact HC0_0.out); rintro e w26 ⟨rfl, hb⟩; refine ⟨_, rfl, ?_⟩; replace HO_283000 := aM_ (kB_ HO_283000.out hb); replace BK277 := aM_ (bB_ BK277.out hb); replace BK282 := aM_ (bB_ BK282.out hb); replace HB := aM_ (bT_ HB.out hb); (try clear hb)) | ((with_reducible refine gC_ (f := 30) rfl ?_); refine goesL_ (some 35) rfl rfl Tryz.func30 (by kernel_rfl) rfl #[.string a1, .string t287] rfl (by (try simp only [sD_, sE_, sF_]); rfl) ?_; (with_reducible refine (spec_l2Begins.calls a1 t287 true _ A22.out).mono ?_); rintro e w' ⟨rfl, ⟨nd, rfl⟩⟩; refine ⟨_, rfl, ?_⟩))
        go_roundg k2
        case measure => have := HJ3.out; have := HK2.out; omega
        case rel => exact ⟨(wrap64 (x8_2 + 1)), (wrap64 (x9_2 + 1)), (by rfl), (by rfl), H', ⟨by have := HJ3.out; have := HK2.out; omega⟩, ⟨by (with_reducible repeat (first | apply k1_ | apply k2_ | apply k3_)); exact HO_283000.out⟩, ⟨by (with_reducible repeat (first | refine b2_ ?_ _ | refine b1_ ?_ | refine b3_ ?_ _)); exact BK277.out⟩, ⟨by (with_reducible repeat (first | refine b2_ ?_ _ | refine b1_ ?_ | refine b3_ ?_ _)); exact BK282.out⟩, ⟨by repeat (first | (with_reducible first | exact HB.out | apply bA_ | apply bN_ | apply bD_ | refine bS_ ?_ GE277.out | refine bS_ ?_ GE282.out) | exact HB.out)⟩⟩
       ·
        replace c23 := Bool.eq_false_iff.mpr c23
        subst c23
        have H1 : (spec_StepsTo.l0 k2 a1 x8_2 (wrap64 (x9_2 + 1)) l0_0) = some (r1, r2) := by rw [if_neg (show ¬ (false = true) by decide)] at H; exact H
        clear H
        have H := H1
        clear H1
        have H' := aM_ H
        clear H
        have hnb27 := NB277_282.out
        have hnc27 := NB282_277.out
        have hcz28_0 : wr.cell? ⟨gb277, 0, none⟩ = some (.slice A0_0 l0_0.length c0_0) := (bC_ BK277.out 0).trans rfl
        have hfz28_0 := bF_ BK277.out 0
        go_wp2_with (first | ((with_reducible refine gC_ (f := 31) rfl ?_); refine goesL_ (some 34) rfl rfl Tryz.func31 (by kernel_rfl) rfl #[.agg #[.slice A0_0 l0_0.length c0_0], .int .i64 x9_2] rfl (by (try simp only [sD_, sE_, sF_]); rfl) ?_; (with_reducible refine (spec_l4Prefix.calls k2 _ _ l0_0 x9_2 t287 _ ?side1 ?side2 A21.out).mono ?_); (case side1 => repeat (first | exact (k4_ HR0_0.out HB.out) | (with_reducible refine Kd.C_alloc ?_ _) | (with_reducible refine Kd.C_drewN ?_ _) | (with_reducible refine Kd.C_drew ?_))); (case side2 => exact HC0_0.out); rintro e w29 ⟨rfl, hb⟩; refine ⟨_, rfl, ?_⟩; replace HO_283000 := aM_ (kB_ HO_283000.out hb); replace BK277 := aM_ (bB_ BK277.out hb); replace BK282 := aM_ (bB_ BK282.out hb); replace HB := aM_ (bT_ HB.out hb); (try clear hb)) | ((with_reducible refine gC_ (f := 30) rfl ?_); refine goesL_ (some 35) rfl rfl Tryz.func30 (by kernel_rfl) rfl #[.string a1, .string t287] rfl (by (try simp only [sD_, sE_, sF_]); rfl) ?_; (with_reducible refine (spec_l2Begins.calls a1 t287 false _ A22.out).mono ?_); rintro e w' ⟨rfl, ⟨nd, rfl⟩⟩; refine ⟨_, rfl, ?_⟩))
        go_roundg k2
        case measure => have := HJ3.out; have := HK2.out; omega
        case rel => exact ⟨(x8_2), (wrap64 (x9_2 + 1)), (by rfl), (by rfl), H', ⟨by have := HJ3.out; have := HK2.out; omega⟩, ⟨by (with_reducible repeat (first | apply k1_ | apply k2_ | apply k3_)); exact HO_283000.out⟩, ⟨by (with_reducible repeat (first | refine b2_ ?_ _ | refine b1_ ?_ | refine b3_ ?_ _)); exact BK277.out⟩, ⟨by (with_reducible repeat (first | refine b2_ ?_ _ | refine b1_ ?_ | refine b3_ ?_ _)); exact BK282.out⟩, ⟨by repeat (first | (with_reducible first | exact HB.out | apply bA_ | apply bN_ | apply bD_ | refine bS_ ?_ GE277.out | refine bS_ ?_ GE282.out) | exact HB.out)⟩⟩
      ·
       rw [if_neg c20] at H
       have c20b0 := decide_eq_false c20
       clear c20
       simp only [Option.some.injEq, Prod.mk.injEq] at H
       obtain ⟨rfl, rfl⟩ := H
       have hnb30 := NB277_282.out
       have hnc30 := NB282_277.out
       have hcz31_0 : wr.cell? ⟨gb277, 0, none⟩ = some (.slice A0_0 l0_0.length c0_0) := (bC_ BK277.out 0).trans rfl
       have hfz31_0 := bF_ BK277.out 0
       go_wp2
       go_ret2
       exact ⟨by rfl, by exact HB.out⟩
def laws_FnExactStepsTo.j0 : Nat → Bool → List (S71) → List (S60) → Option (Bool)
 | 0, _, _, _ => none
 | k + 1, x41, x494000, x504000 => if x41 = true then (some false) else ((laws_toPressed.f k x494000).bind fun t506 => ((laws_eqPressed.f k x504000 t506).bind fun t509 => (if t509 = true then (some true) else (some false))))
def laws_FnExactStepsTo.f (k : Nat) (l0_0 : List (S71)) (a1 : ByteArray) : Option (Bool) := if (a1.size : Int) > 1048576 then (some true) else ((laws_szPressed.f k l0_0 1048576).bind fun t494 => (if t494 < 0 then (some true) else ((laws_toPressed.f k l0_0).bind fun t495 => ((spec_StepsTo.f k t495 a1).bind fun bt498 => ((laws_toPressed.f k l0_0).bind fun t500 => ((impl_StepsTo.f k t500 a1).bind fun bt504 => (if bt504.1 = bt498.1 then (laws_FnExactStepsTo.j0 k (bt504.2 != bt498.2) l0_0 t500) else (laws_FnExactStepsTo.j0 k true l0_0 t500))))))))
theorem laws_FnExactStepsTo.mono_l : ∀ k, (∀ y0 y1 y2, LeO (laws_FnExactStepsTo.j0 k y0 y1 y2) (laws_FnExactStepsTo.j0 (k + 1) y0 y1 y2))
 | 0 => fun _ _ _ r h => by simp [laws_FnExactStepsTo.j0] at h
 | k + 1 => by
  have ih0 := laws_FnExactStepsTo.mono_l k
  ·
   intro y0 y1 y2
   unfold laws_FnExactStepsTo.j0
   repeat' first
   | (with_reducible exact ih0 _ _ _)
   | (with_reducible exact impl_StepsTo.mono _ _ _)
   | (with_reducible exact laws_eqPressed.mono _ _ _)
   | (with_reducible exact laws_szPressed.mono _ _ _)
   | (with_reducible exact laws_toPressed.mono _ _)
   | (with_reducible exact spec_StepsTo.mono _ _ _)
   | (with_reducible exact l3_ _)
   | (with_reducible exact l0_ _)
   | (with_reducible refine l2_ ?_ ?_)
   | (with_reducible refine l1_ ?_ (fun _ => ?_))
   | exact ih0 _ _ _
   | exact impl_StepsTo.mono _ _ _
   | exact laws_eqPressed.mono _ _ _
   | exact laws_szPressed.mono _ _ _
   | exact laws_toPressed.mono _ _
   | exact spec_StepsTo.mono _ _ _
   | exact l0_ _
   | refine l2_ ?_ ?_
   | refine l1_ ?_ (fun _ => ?_)
theorem laws_FnExactStepsTo.mono : ∀ a0 a1 k, LeO (laws_FnExactStepsTo.f k a0 a1) (laws_FnExactStepsTo.f (k + 1) a0 a1) := by
 intro a0 a1 k
 have ih0 := laws_FnExactStepsTo.mono_l k
 unfold laws_FnExactStepsTo.f
 repeat' first
   | (with_reducible exact ih0 _ _ _)
   | (with_reducible exact impl_StepsTo.mono _ _ _)
   | (with_reducible exact laws_eqPressed.mono _ _ _)
   | (with_reducible exact laws_szPressed.mono _ _ _)
   | (with_reducible exact laws_toPressed.mono _ _)
   | (with_reducible exact spec_StepsTo.mono _ _ _)
   | (with_reducible exact l3_ _)
   | (with_reducible exact l0_ _)
   | (with_reducible refine l2_ ?_ ?_)
   | (with_reducible refine l1_ ?_ (fun _ => ?_))
   | exact ih0 _ _ _
   | exact impl_StepsTo.mono _ _ _
   | exact laws_eqPressed.mono _ _ _
   | exact laws_szPressed.mono _ _ _
   | exact laws_toPressed.mono _ _
   | exact spec_StepsTo.mono _ _ _
   | exact l0_ _
   | refine l2_ ?_ ?_
   | refine l1_ ?_ (fun _ => ?_)
theorem laws_FnExactStepsTo.calls (k : Nat) (A0_0 : Option Addr) (c0_0 : Nat) (l0_0 : List (S71)) (a1 : ByteArray) (r : Bool) (w : World) (hr0_0 : Kd.C k71 w A0_0 l0_0.length l0_0) (hc0_0 : l0_0.length ≤ c0_0) (h : laws_FnExactStepsTo.f k l0_0 a1 = some r) :
  Calls Tryz.prog 3 #[.agg #[.slice A0_0 l0_0.length c0_0], .string a1] w fun e w' => e = .returned (.bool r) ∧ Below w.heap.size w w' := by
 have hu24 := Tryz.underlying24
 have hu30 := Tryz.underlying30
 have HR0_0 := aM_ hr0_0
 have HC0_0 := aM_ hc0_0
 clear hr0_0 hc0_0
 have HB := aM_ (Below.refl w.heap.size w)
 have H : (if (a1.size : Int) > 1048576 then (some true) else ((laws_szPressed.f k l0_0 1048576).bind fun t494 => (if t494 < 0 then (some true) else ((laws_toPressed.f k l0_0).bind fun t495 => ((spec_StepsTo.f k t495 a1).bind fun bt498 => ((laws_toPressed.f k l0_0).bind fun t500 => ((impl_StepsTo.f k t500 a1).bind fun bt504 => (if bt504.1 = bt498.1 then (laws_FnExactStepsTo.j0 k (bt504.2 != bt498.2) l0_0 t500) else (laws_FnExactStepsTo.j0 k true l0_0 t500))))))))) = some r := h
 clear h
 by_cases c3 : (a1.size : Int) > 1048576
 ·
  rw [if_pos c3] at H
  have c3b0 := decide_eq_true c3
  have c3b1 : decide (1048576 < a1.size) = true := decide_eq_true (by omega)
  clear c3
  obtain rfl := Option.some.inj H
  go_enter Tryz.func3, Tryz.ntmps3
  go_wp2_with (first | ((with_reducible refine gD_ (N := 2) rfl ?_); refine bE_ ?hg (N := 2) ?hd (cs := #[.slice A0_0 l0_0.length c0_0]) (t := 24) ?hr ?_; (case hd => rfl); (case hg => rfl); (case hr => (go_simp; done)); intro gb493 hg w4 hbox hb; have BK493 := aM_ (hbox); have GW493 := aM_ ((by rw [hg]; exact (bZ_ HB.out) : w.heap.size ≤ gb493)); have GE493 := GW493; replace HB := aM_ (bT_ HB.out hb); clear hb hbox hg))
  go_ret
  exact ⟨by rfl, by exact HB.out⟩
 ·
  rw [if_neg c3] at H
  have c3b0 := decide_eq_false c3
  have c3b1 : decide (1048576 < a1.size) = false := decide_eq_false (by omega)
  clear c3
  replace H := oB_.mp H
  obtain ⟨t494, A50, H⟩ := H
  try dsimp only at H
  have A5 := aM_ A50
  clear A50
  by_cases c6 : t494 < 0
  ·
   rw [if_pos c6] at H
   have c6b0 := decide_eq_true c6
   clear c6
   obtain rfl := Option.some.inj H
   go_enter Tryz.func3, Tryz.ntmps3
   go_wp2_with (first | ((with_reducible refine gD_ (N := 2) rfl ?_); refine bE_ ?hg (N := 2) ?hd (cs := #[.slice A0_0 l0_0.length c0_0]) (t := 24) ?hr ?_; (case hd => rfl); (case hg => rfl); (case hr => (go_simp; done)); intro gb493 hg w7 hbox hb; have BK493 := aM_ (hbox); have GW493 := aM_ ((by rw [hg]; exact (bZ_ HB.out) : w.heap.size ≤ gb493)); have GE493 := GW493; replace HB := aM_ (bT_ HB.out hb); clear hb hbox hg; have hcz8_0 : w7.cell? ⟨gb493, 0, none⟩ = some (.slice A0_0 l0_0.length c0_0) := (bC_ BK493.out 0).trans rfl; have hfz8_0 := bF_ BK493.out 0) | ((with_reducible refine gC_ (f := 8) rfl ?_); refine goesL_ (some 16) rfl rfl Tryz.func8 (by kernel_rfl) rfl #[.agg #[.slice A0_0 l0_0.length c0_0], .int .i64 1048576] rfl (by (try simp only [sD_, sE_, sF_]); rfl) ?_; (with_reducible refine (laws_szPressed.calls k _ _ l0_0 1048576 t494 _ ?side1 ?side2 A5.out).mono ?_); (case side1 => repeat (first | exact (k4_ HR0_0.out HB.out) | (with_reducible refine Kd.C_alloc ?_ _) | (with_reducible refine Kd.C_drewN ?_ _) | (with_reducible refine Kd.C_drew ?_))); (case side2 => exact HC0_0.out); rintro e w9 ⟨rfl, hb⟩; refine ⟨_, rfl, ?_⟩; replace BK493 := aM_ (bB_ BK493.out hb); replace HB := aM_ (bT_ HB.out hb); (try clear hb)))
   go_ret
   exact ⟨by rfl, by exact HB.out⟩
  ·
   rw [if_neg c6] at H
   have c6b0 := decide_eq_false c6
   clear c6
   replace H := oB_.mp H
   obtain ⟨t495, A100, H⟩ := H
   try dsimp only at H
   have A10 := aM_ A100
   clear A100
   replace H := oB_.mp H
   obtain ⟨⟨t498, t499⟩, A110, H⟩ := H
   try dsimp only at H
   have A11 := aM_ A110
   clear A110
   replace H := oB_.mp H
   obtain ⟨t500, A120, H⟩ := H
   try dsimp only at H
   have A12 := aM_ A120
   clear A120
   replace H := oB_.mp H
   obtain ⟨⟨t504, t505⟩, A130, H⟩ := H
   try dsimp only at H
   have A13 := aM_ A130
   clear A130
   have HC14 := aM_ H
   clear H
   go_enter Tryz.func3, Tryz.ntmps3
   go_upto_region 10 with (first | ((with_reducible refine gD_ (N := 2) rfl ?_); refine bE_ ?hg (N := 2) ?hd (cs := #[.slice A0_0 l0_0.length c0_0]) (t := 24) ?hr ?_; (case hd => rfl); (case hg => rfl); (case hr => (go_simp; done)); intro gb493 hg w15 hbox hb; have BK493 := aM_ (hbox); have GW493 := aM_ ((by rw [hg]; exact (bZ_ HB.out) : w.heap.size ≤ gb493)); have GE493 := GW493; replace HB := aM_ (bT_ HB.out hb); clear hb hbox hg; have hcz16_0 : w15.cell? ⟨gb493, 0, none⟩ = some (.slice A0_0 l0_0.length c0_0) := (bC_ BK493.out 0).trans rfl; have hfz16_0 := bF_ BK493.out 0) | ((with_reducible refine gC_ (f := 8) rfl ?_); refine goesL_ (some 16) rfl rfl Tryz.func8 (by kernel_rfl) rfl #[.agg #[.slice A0_0 l0_0.length c0_0], .int .i64 1048576] rfl (by (try simp only [sD_, sE_, sF_]); rfl) ?_; (with_reducible refine (laws_szPressed.calls k _ _ l0_0 1048576 t494 _ ?side1 ?side2 A5.out).mono ?_); (case side1 => repeat (first | exact (k4_ HR0_0.out HB.out) | (with_reducible refine Kd.C_alloc ?_ _) | (with_reducible refine Kd.C_drewN ?_ _) | (with_reducible refine Kd.C_drew ?_))); (case side2 => exact HC0_0.out); rintro e w17 ⟨rfl, hb⟩; refine ⟨_, rfl, ?_⟩; replace BK493 := aM_ (bB_ BK493.out hb); replace HB := aM_ (bT_ HB.out hb); (try clear hb); have hcz18_0 : w17.cell? ⟨gb493, 0, none⟩ = some (.slice A0_0 l0_0.length c0_0) := (bC_ BK493.out 0).trans rfl; have hfz18_0 := bF_ BK493.out 0) | ((with_reducible refine gC_ (f := 10) rfl ?_); refine goesL_ (some 21) rfl rfl Tryz.func10 (by kernel_rfl) rfl #[.agg #[.slice A0_0 l0_0.length c0_0]] rfl (by (try simp only [sD_, sE_, sF_]); rfl) ?_; (with_reducible refine (laws_toPressed.calls k _ _ l0_0 t495 _ ?side1 ?side2 A10.out).mono ?_); (case side1 => repeat (first | exact (k4_ HR0_0.out HB.out) | (with_reducible refine Kd.C_alloc ?_ _) | (with_reducible refine Kd.C_drewN ?_ _) | (with_reducible refine Kd.C_drew ?_))); (case side2 => exact HC0_0.out); rintro e w19 ⟨v496, rfl, ho0, hb⟩; refine ⟨_, rfl, ?_⟩; have HO497 := aM_ (k5_ ho0 (bZ_ HB.out)); replace BK493 := aM_ (bB_ BK493.out hb); replace HB := aM_ (bT_ HB.out hb); (try clear hb); (try clear ho0); obtain ⟨Ao20, co20, eo20⟩ := kS_ HO497.out; subst eo20) | ((with_reducible refine gC_ (f := 9) rfl ?_); refine goesL_ (some 23) rfl rfl Tryz.func9 (by kernel_rfl) rfl #[.agg #[.slice Ao20 t495.length co20], .string a1] rfl (by (try simp only [sD_, sE_, sF_]); rfl) ?_; (with_reducible refine (spec_StepsTo.calls k _ _ t495 a1 t498 t499 _ ?side1 ?side2 A11.out).mono ?_); (case side1 => repeat (first | exact (kR_ HO497.out).2.2 | (with_reducible refine Kd.C_alloc ?_ _) | (with_reducible refine Kd.C_drewN ?_ _) | (with_reducible refine Kd.C_drew ?_))); (case side2 => exact (kR_ HO497.out).2.1); rintro e w21 ⟨rfl, hb⟩; refine ⟨_, rfl, ?_⟩; replace HO497 := aM_ (kB_ HO497.out hb); replace BK493 := aM_ (bB_ BK493.out hb); replace HB := aM_ (bT_ HB.out hb); (try clear hb); have hcz22_0 : w21.cell? ⟨gb493, 0, none⟩ = some (.slice A0_0 l0_0.length c0_0) := (bC_ BK493.out 0).trans rfl; have hfz22_0 := bF_ BK493.out 0) | ((with_reducible refine gC_ (f := 10) rfl ?_); refine goesL_ (some 27) rfl rfl Tryz.func10 (by kernel_rfl) rfl #[.agg #[.slice A0_0 l0_0.length c0_0]] rfl (by (try simp only [sD_, sE_, sF_]); rfl) ?_; (with_reducible refine (laws_toPressed.calls k _ _ l0_0 t500 _ ?side1 ?side2 A12.out).mono ?_); (case side1 => repeat (first | exact (k4_ HR0_0.out HB.out) | (with_reducible refine Kd.C_alloc ?_ _) | (with_reducible refine Kd.C_drewN ?_ _) | (with_reducible refine Kd.C_drew ?_))); (case side2 => exact HC0_0.out); rintro e w23 ⟨v501, rfl, ho0, hb⟩; refine ⟨_, rfl, ?_⟩; have HO502 := aM_ (k5_ (Kd.R_new' ho0 (Kd.R_lt HO497.out)) (bZ_ HB.out)); replace HO497 := aM_ (Kd.R_elder' HO497.out (Kd.R_base ho0) hb); replace BK493 := aM_ (bB_ BK493.out hb); replace HB := aM_ (bT_ HB.out hb); (try clear hb); (try clear ho0)) | ((with_reducible refine gD_ (N := 8) rfl ?_); refine bE_ ?hg (N := 8) ?hd (cs := #[.slice none 0 0]) (t := 30) ?hr ?_; (case hd => rfl); (case hg => rfl); (case hr => (go_simp; done)); intro gb503 hg w24 hbox hb; replace HO497 := aM_ (kB_ HO497.out hb); replace HO502 := aM_ (kB_ HO502.out hb); have BK503 := aM_ (hbox); have GW503 := aM_ ((by rw [hg]; exact (bZ_ HB.out) : w.heap.size ≤ gb503)); have GE503 := GW503; replace HB := aM_ (bT_ HB.out hb); have NB493_503 := aM_ ((by rw [hg]; exact Nat.ne_of_lt (bL_ BK493.out) : gb493 ≠ gb503)); have NB503_493 := aM_ NB493_503.out.symm; replace BK493 := aM_ (bB_ BK493.out hb); clear hb hbox hg; obtain ⟨Ao25, co25, eo25⟩ := kS_ HO502.out; subst eo25; have hnb26 := NB503_493.out; have hnc26 := NB493_503.out; have hcz27_0 : w24.cell? ⟨gb503, 0, none⟩ = some (.slice none 0 0) := (bC_ BK503.out 0).trans rfl; have hfz27_0 := bF_ BK503.out 0) | ((with_reducible refine gC_ (f := 11) rfl ?_); refine goesL_ (some 31) rfl rfl Tryz.func11 (by kernel_rfl) rfl #[.agg #[.slice Ao25 t500.length co25], .string a1] rfl (by (try simp only [sD_, sE_, sF_]); rfl) ?_; (with_reducible refine (impl_StepsTo.calls k _ _ t500 a1 t504 t505 _ ?side1 ?side2 A13.out).mono ?_); (case side1 => refine (kR_ (e := 60) (base := w.heap.size) (ok := fun k_ => (True ∧ some k_ ≠ (.slice Ao20 t495.length co20 : Value).ownBlock)) (n := t500.length) (c := co25) ?_).2.2; exact (by exact (kM_ (kF_ (p := ⟨gb503, 0, none⟩) (kT_ HO502.out BK503.out (by decide)) (fun _ hk => hk.2) (.slice Ao25 t500.length co25)) (fun _ h_ => h_.1)))); (case side2 => exact (kR_ HO502.out).2.1); rintro e w28 ⟨rfl, hb⟩; refine ⟨_, rfl, ?_⟩; replace HO497 := aM_ (kB_ (by exact (kM_ (kF_ (p := ⟨gb503, 0, none⟩) (kT_ HO497.out BK503.out (by decide)) (fun _ hk => hk.2) (.slice Ao25 t500.length co25)) (fun _ h_ => h_.1))) hb); replace HO502 := aM_ (kB_ (by exact (kM_ (kF_ (p := ⟨gb503, 0, none⟩) (kT_ HO502.out BK503.out (by decide)) (fun _ hk => hk.2) (.slice Ao25 t500.length co25)) (fun _ h_ => h_.1))) hb); replace BK493 := aM_ (bB_ (g := gb493) (o := .cells #[.slice A0_0 l0_0.length c0_0] 24 (0, 0)) (by refine bR_ ?_ NB493_503.out _; exact BK493.out) hb); replace BK503 := aM_ (bB_ (g := gb503) (o := .cells #[.slice Ao25 t500.length co25] 30 (0, 0)) (by refine bP_ (cs := #[.slice none 0 0]) ?_ 0 _ rfl; exact BK503.out) hb); replace HB := aM_ (bT_ (by repeat (first | (with_reducible first | exact HB.out | apply bA_ | apply bN_ | apply bD_ | refine bS_ ?_ GE493.out | refine bS_ ?_ GE503.out) | exact HB.out)) hb); (try clear hb)))
   (try simp only [Act.put, sA_, sB_, sC_])
   go_cut [41] (fun v41 wc => ∃ (kq : Nat) (x41_13 : Bool), v41 = .bool x41_13 ∧ Aside0 (laws_FnExactStepsTo.j0 kq x41_13 l0_0 t500 = some r) ∧ Aside0 (kq ≤ k) ∧ Aside0 (Kd.R k60 60 wc w.heap.size (fun _ => True) (.slice Ao25 t500.length co25) t500) ∧ Aside0 (wc.heap[gb493]? = some (.cells #[(.slice A0_0 l0_0.length c0_0)] 24 (0, 0))) ∧ Aside0 (wc.heap[gb503]? = some (.cells #[(.slice Ao25 t500.length co25)] 30 (0, 0))) ∧ Aside0 (Below w.heap.size w wc))
   case first =>
    have H := HC14.out
    clear HC14
    by_cases c29 : t504 = t498
    ·
     rw [if_pos c29] at H
     have c29b0 : (t504 == t498) = true := beq_iff_eq.mpr c29
     have c29b1 : (t504 != t498) = false := bne_eq_false_iff_eq.mpr c29
     clear c29
     (skip)
     have H' := aM_ H
     clear H
     go_wp2
     go_meet
     case rel => exact ⟨_, ((t505 != t499)), (by rfl), H', ⟨by omega⟩, ⟨by exact kM_ HO502.out (fun _ hk => trivial)⟩, ⟨BK493.out⟩, ⟨BK503.out⟩, ⟨HB.out⟩⟩
    ·
     rw [if_neg c29] at H
     have c29b0 : (t504 == t498) = false := beq_eq_false_iff_ne.mpr c29
     have c29b1 : (t504 != t498) = true := bne_iff_ne.mpr c29
     (skip)
     have H' := aM_ H
     clear H
     go_wp2
     go_meet
     case rel => exact ⟨_, (true), (by rfl), H', ⟨by omega⟩, ⟨by exact kM_ HO502.out (fun _ hk => trivial)⟩, ⟨BK493.out⟩, ⟨BK503.out⟩, ⟨HB.out⟩⟩
   case rest =>
    clear HC14
    try clear p2
    try clear c3b0
    try clear c3b1
    try clear c6b0
    try clear c29b0
    try clear c29b1
    try clear hcz16_0
    try clear hcz18_0
    try clear hcz22_0
    try clear hcz27_0
    try clear hcz8_0
    try clear hfz16_0
    try clear hfz18_0
    try clear hfz22_0
    try clear hfz27_0
    try clear hfz8_0
    obtain ⟨kq, x41_13, rfl, HA, HJ13, HO_504000, BK493, BK503, HB⟩ := hcut
    cases kq with
    | zero => exact absurd HA.out (by simp [laws_FnExactStepsTo.j0])
    | succ kj13 =>
     have H := HA.out
     clear HA
     simp only [laws_FnExactStepsTo.j0] at H
     by_cases c30 : x41_13 = true
     ·
      subst c30
      rw [if_pos rfl] at H
      obtain rfl := Option.some.inj H
      go_wp2
      go_ret
      exact ⟨by rfl, by exact HB.out⟩
     ·
      replace c30 := Bool.eq_false_iff.mpr c30
      subst c30
      have H1 : ((laws_toPressed.f kj13 l0_0).bind fun t506 => ((laws_eqPressed.f kj13 t500 t506).bind fun t509 => (if t509 = true then (some true) else (some false)))) = some r := by rw [if_neg (show ¬ (false = true) by decide)] at H; exact H
      clear H
      have H := H1
      clear H1
      replace H := oB_.mp H
      obtain ⟨t506, A310, H⟩ := H
      try dsimp only at H
      have A31 := aM_ A310
      clear A310
      replace H := oB_.mp H
      obtain ⟨t509, A320, H⟩ := H
      try dsimp only at H
      have A32 := aM_ A320
      clear A320
      by_cases c33 : t509 = true
      ·
       subst c33
       rw [if_pos rfl] at H
       obtain rfl := Option.some.inj H
       try go_wp2
       have n0_ := aM_ (k3_ HO_504000.out)
       have n1_ := aM_ (b1_ BK493.out)
       have n2_ := aM_ (b1_ BK503.out)
       have n3_ := aM_ (bD_ HB.out)
       clear HO_504000
       clear BK493
       clear BK503
       clear HB
       have HO_504000 := n0_
       have BK493 := n1_
       have BK503 := n2_
       have HB := n3_
       clear n0_ n1_ n2_ n3_
       refine start_ (n := 5) (S := fun w' => w'.cell? ⟨gb503, 0, none⟩ = some (.slice Ao25 t500.length co25) ∧ w'.cell? ⟨gb493, 0, none⟩ = some (.slice A0_0 l0_0.length c0_0)) (ds := []) #[fy, fy, fy, fy, fy] (by kernel_rfl) rfl rfl ⟨(bC_ BK503.out 0).trans rfl, (bC_ BK493.out 0).trans rfl⟩ (fun hHeld => ?_)
       generalize wc.drew = w34 at HO_504000 BK493 BK503 HB hHeld ⊢
       refine take_ (i := 0) (N := some 42) (v := ?_) (a' := ?_) #[ty, fy, fy, fy, fy] rfl rfl (by kernel_rfl) (fun _ _ _ h => h) (Or.inl ⟨by rfl, ?_⟩) hHeld ?_ ?_; rotate_left; (rintro w' ⟨s0, s1⟩; go_simp; with_reducible rfl); rotate_left; (simp only [Act.put, sA_, sB_, sC_, i6_, i3_]; rfl)
       refine take_ (i := 1) (N := some 43) (v := ?_) (a' := ?_) #[ty, ty, fy, fy, fy] rfl rfl (by kernel_rfl) (fun _ _ _ h => h) (Or.inl ⟨by rfl, ?_⟩) hHeld ?_ ?_; rotate_left; (rintro w' ⟨s0, s1⟩; go_simp; with_reducible rfl); rotate_left; (simp only [Act.put, sA_, sB_, sC_, i6_, i3_]; rfl)
       refine one_ (i := 2) (N := some 44) #[ty, ty, ty, fy, fy] rfl rfl (by kernel_rfl) (by decide) (fun K hK => ?_)
       refine goes_ Tryz.func10 (by kernel_rfl) rfl #[.agg #[.slice A0_0 l0_0.length c0_0]] (by rfl) rfl rfl (by (try simp only [sD_, sE_, sF_]); rfl) ?_
       with_reducible refine (laws_toPressed.calls kj13 _ _ l0_0 t506 _ ?side1 ?side2 A31.out).mono ?_
       (case side1 => repeat (first | exact (k4_ HR0_0.out HB.out) | (with_reducible refine Kd.C_alloc ?_ _) | (with_reducible refine Kd.C_drewN ?_ _) | (with_reducible refine Kd.C_drew ?_)))
       (case side2 => exact HC0_0.out)
       rintro e w35 ⟨v507, rfl, ho0, hb⟩
       refine ⟨_, rfl, ?_⟩
       have n0_ := aM_ (Kd.R_elder' HO_504000.out (Kd.R_base ho0) hb)
       have n1_ := aM_ (k5_ (Kd.R_new' ho0 (Kd.R_lt HO_504000.out)) (bZ_ HB.out))
       have n2_ := aM_ (bB_ BK493.out hb)
       have n3_ := aM_ (bB_ BK503.out hb)
       have n4_ := aM_ (bT_ HB.out hb)
       clear HO_504000
       clear BK493
       clear BK503
       clear HB
       have HO_504000 := n0_
       have HO508 := n1_
       have BK493 := n2_
       have BK503 := n3_
       have HB := n4_
       clear n0_ n1_ n2_ n3_ n4_
       (try clear hb)
       (try clear ho0)
       obtain ⟨Ao36, co36, eo36⟩ := kS_ HO508.out
       (subst eo36)
       refine hK.out _ _ ⟨(bC_ BK503.out 0).trans rfl, (bC_ BK493.out 0).trans rfl⟩ (fun hHeld => ?_)
       clear hK K
       refine norm_ (a' := ?_) ?_ ?_; rotate_left; (show Act.put _ (some 44) _ = _; simp only [Act.put, sA_, sB_, sC_, i6_, i3_]; rfl)
       refine one_ (i := 3) (N := some 45) #[ty, ty, ty, ty, fy] rfl rfl (by kernel_rfl) (by decide) (fun K hK => ?_)
       refine goes_ Tryz.func12 (by kernel_rfl) rfl #[.agg #[.slice Ao25 t500.length co25], .agg #[.slice Ao36 t506.length co36]] (by rfl) rfl rfl (by (try simp only [sD_, sE_, sF_]); rfl) ?_
       with_reducible refine (laws_eqPressed.calls kj13 _ _ t500 _ _ t506 true _ ?side1 ?side2 ?side3 ?side4 A32.out).mono ?_
       (case side1 => repeat (first | exact (kR_ HO_504000.out).2.2 | (with_reducible refine Kd.C_alloc ?_ _) | (with_reducible refine Kd.C_drewN ?_ _) | (with_reducible refine Kd.C_drew ?_)))
       (case side2 => exact (kR_ HO_504000.out).2.1)
       (case side3 => repeat (first | exact (kR_ HO508.out).2.2 | (with_reducible refine Kd.C_alloc ?_ _) | (with_reducible refine Kd.C_drewN ?_ _) | (with_reducible refine Kd.C_drew ?_)))
       (case side4 => exact (kR_ HO508.out).2.1)
       rintro e w37 ⟨rfl, hb⟩
       refine ⟨_, rfl, ?_⟩
       have n0_ := aM_ (kB_ HO_504000.out hb)
       have n1_ := aM_ (kB_ HO508.out hb)
       have n2_ := aM_ (bB_ BK493.out hb)
       have n3_ := aM_ (bB_ BK503.out hb)
       have n4_ := aM_ (bT_ HB.out hb)
       clear HO_504000
       clear HO508
       clear BK493
       clear BK503
       clear HB
       have HO_504000 := n0_
       have HO508 := n1_
       have BK493 := n2_
       have BK503 := n3_
       have HB := n4_
       clear n0_ n1_ n2_ n3_ n4_
       (try clear hb)
       refine hK.out _ _ ⟨(bC_ BK503.out 0).trans rfl, (bC_ BK493.out 0).trans rfl⟩ (fun hHeld => ?_)
       clear hK K
       refine norm_ (a' := ?_) ?_ ?_; rotate_left; (show Act.put _ (some 45) _ = _; simp only [Act.put, sA_, sB_, sC_, i6_, i3_]; rfl)
       refine pure_ (i := 4) (N := some 46) (v := ?_) (a' := ?_) #[ty, ty, ty, ty, ty] rfl rfl (by kernel_rfl) (fun _ _ _ h => h) (Or.inl ⟨by rfl, ?_⟩) ?_ ?_; rotate_left; (intro w'; go_simp; with_reducible rfl); rotate_left; (simp only [Act.put, sA_, sB_, sC_, i6_, i3_]; rfl)
       refine done_ (by kernel_rfl) ?_
       try go_wp2
       go_ret
       exact ⟨by rfl, by exact HB.out⟩
      ·
       replace c33 := Bool.eq_false_iff.mpr c33
       subst c33
       have H1 : (some false) = some r := by rw [if_neg (show ¬ (false = true) by decide)] at H; exact H
       clear H
       have H := H1
       clear H1
       obtain rfl := Option.some.inj H
       try go_wp2
       have n0_ := aM_ (k3_ HO_504000.out)
       have n1_ := aM_ (b1_ BK493.out)
       have n2_ := aM_ (b1_ BK503.out)
       have n3_ := aM_ (bD_ HB.out)
       clear HO_504000
       clear BK493
       clear BK503
       clear HB
       have HO_504000 := n0_
       have BK493 := n1_
       have BK503 := n2_
       have HB := n3_
       clear n0_ n1_ n2_ n3_
       refine start_ (n := 5) (S := fun w' => w'.cell? ⟨gb503, 0, none⟩ = some (.slice Ao25 t500.length co25) ∧ w'.cell? ⟨gb493, 0, none⟩ = some (.slice A0_0 l0_0.length c0_0)) (ds := []) #[fy, fy, fy, fy, fy] (by kernel_rfl) rfl rfl ⟨(bC_ BK503.out 0).trans rfl, (bC_ BK493.out 0).trans rfl⟩ (fun hHeld => ?_)
       generalize wc.drew = w38 at HO_504000 BK493 BK503 HB hHeld ⊢
       refine take_ (i := 0) (N := some 42) (v := ?_) (a' := ?_) #[ty, fy, fy, fy, fy] rfl rfl (by kernel_rfl) (fun _ _ _ h => h) (Or.inl ⟨by rfl, ?_⟩) hHeld ?_ ?_; rotate_left; (rintro w' ⟨s0, s1⟩; go_simp; with_reducible rfl); rotate_left; (simp only [Act.put, sA_, sB_, sC_, i6_, i3_]; rfl)
       refine take_ (i := 1) (N := some 43) (v := ?_) (a' := ?_) #[ty, ty, fy, fy, fy] rfl rfl (by kernel_rfl) (fun _ _ _ h => h) (Or.inl ⟨by rfl, ?_⟩) hHeld ?_ ?_; rotate_left; (rintro w' ⟨s0, s1⟩; go_simp; with_reducible rfl); rotate_left; (simp only [Act.put, sA_, sB_, sC_, i6_, i3_]; rfl)
       refine one_ (i := 2) (N := some 44) #[ty, ty, ty, fy, fy] rfl rfl (by kernel_rfl) (by decide) (fun K hK => ?_)
       refine goes_ Tryz.func10 (by kernel_rfl) rfl #[.agg #[.slice A0_0 l0_0.length c0_0]] (by rfl) rfl rfl (by (try simp only [sD_, sE_, sF_]); rfl) ?_
       with_reducible refine (laws_toPressed.calls kj13 _ _ l0_0 t506 _ ?side1 ?side2 A31.out).mono ?_
       (case side1 => repeat (first | exact (k4_ HR0_0.out HB.out) | (with_reducible refine Kd.C_alloc ?_ _) | (with_reducible refine Kd.C_drewN ?_ _) | (with_reducible refine Kd.C_drew ?_)))
       (case side2 => exact HC0_0.out)
       rintro e w39 ⟨v507, rfl, ho0, hb⟩
       refine ⟨_, rfl, ?_⟩
       have n0_ := aM_ (Kd.R_elder' HO_504000.out (Kd.R_base ho0) hb)
       have n1_ := aM_ (k5_ (Kd.R_new' ho0 (Kd.R_lt HO_504000.out)) (bZ_ HB.out))
       have n2_ := aM_ (bB_ BK493.out hb)
       have n3_ := aM_ (bB_ BK503.out hb)
       have n4_ := aM_ (bT_ HB.out hb)
       clear HO_504000
       clear BK493
       clear BK503
       clear HB
       have HO_504000 := n0_
       have HO508 := n1_
       have BK493 := n2_
       have BK503 := n3_
       have HB := n4_
       clear n0_ n1_ n2_ n3_ n4_
       (try clear hb)
       (try clear ho0)
       obtain ⟨Ao40, co40, eo40⟩ := kS_ HO508.out
       (subst eo40)
       refine hK.out _ _ ⟨(bC_ BK503.out 0).trans rfl, (bC_ BK493.out 0).trans rfl⟩ (fun hHeld => ?_)
       clear hK K
       refine norm_ (a' := ?_) ?_ ?_; rotate_left; (show Act.put _ (some 44) _ = _; simp only [Act.put, sA_, sB_, sC_, i6_, i3_]; rfl)
       refine one_ (i := 3) (N := some 45) #[ty, ty, ty, ty, fy] rfl rfl (by kernel_rfl) (by decide) (fun K hK => ?_)
       refine goes_ Tryz.func12 (by kernel_rfl) rfl #[.agg #[.slice Ao25 t500.length co25], .agg #[.slice Ao40 t506.length co40]] (by rfl) rfl rfl (by (try simp only [sD_, sE_, sF_]); rfl) ?_
       with_reducible refine (laws_eqPressed.calls kj13 _ _ t500 _ _ t506 false _ ?side1 ?side2 ?side3 ?side4 A32.out).mono ?_
       (case side1 => repeat (first | exact (kR_ HO_504000.out).2.2 | (with_reducible refine Kd.C_alloc ?_ _) | (with_reducible refine Kd.C_drewN ?_ _) | (with_reducible refine Kd.C_drew ?_)))
       (case side2 => exact (kR_ HO_504000.out).2.1)
       (case side3 => repeat (first | exact (kR_ HO508.out).2.2 | (with_reducible refine Kd.C_alloc ?_ _) | (with_reducible refine Kd.C_drewN ?_ _) | (with_reducible refine Kd.C_drew ?_)))
       (case side4 => exact (kR_ HO508.out).2.1)
       rintro e w41 ⟨rfl, hb⟩
       refine ⟨_, rfl, ?_⟩
       have n0_ := aM_ (kB_ HO_504000.out hb)
       have n1_ := aM_ (kB_ HO508.out hb)
       have n2_ := aM_ (bB_ BK493.out hb)
       have n3_ := aM_ (bB_ BK503.out hb)
       have n4_ := aM_ (bT_ HB.out hb)
       clear HO_504000
       clear HO508
       clear BK493
       clear BK503
       clear HB
       have HO_504000 := n0_
       have HO508 := n1_
       have BK493 := n2_
       have BK503 := n3_
       have HB := n4_
       clear n0_ n1_ n2_ n3_ n4_
       (try clear hb)
       refine hK.out _ _ ⟨(bC_ BK503.out 0).trans rfl, (bC_ BK493.out 0).trans rfl⟩ (fun hHeld => ?_)
       clear hK K
       refine norm_ (a' := ?_) ?_ ?_; rotate_left; (show Act.put _ (some 45) _ = _; simp only [Act.put, sA_, sB_, sC_, i6_, i3_]; rfl)
       refine pure_ (i := 4) (N := some 46) (v := ?_) (a' := ?_) #[ty, ty, ty, ty, ty] rfl rfl (by kernel_rfl) (fun _ _ _ h => h) (Or.inl ⟨by rfl, ?_⟩) ?_ ?_; rotate_left; (intro w'; go_simp; with_reducible rfl); rotate_left; (simp only [Act.put, sA_, sB_, sC_, i6_, i3_]; rfl)
       refine done_ (by kernel_rfl) ?_
       try go_wp2
       go_ret
       exact ⟨by rfl, by exact HB.out⟩
def laws_FnExactStepsTo.Pure : Prop := ∀ (l0_0 : List S71) (a1 : ByteArray), l0_0.length ≤ 9223372036854775807 → (∀ x ∈ l0_0, x.f0.size ≤ 9223372036854775807) → a1.size ≤ 140737488351232 → ∃ k, laws_FnExactStepsTo.f k l0_0 a1 = some true
theorem laws_FnExactStepsTo.walk (P : laws_FnExactStepsTo.Pure) (w : World) (A0 : Option Addr) (c0 : Nat) (l0_0 : List S71) (hr0 : Kd.C k71 w A0 l0_0.length l0_0) (hc0 : l0_0.length ≤ c0) (hs0 : ∀ x ∈ l0_0, x.f0.size ≤ 9223372036854775807) (a1 : ByteArray) (w1 : a1.size ≤ 140737488351232) :
  Calls Tryz.prog 3 #[.agg #[.slice A0 l0_0.length c0], .string a1] w fun e w' => e = .returned (.bool true) ∧ Below w.heap.size w w' := by
 obtain ⟨k, h⟩ := P l0_0 a1 hr0.2.1 hs0 w1
 refine (laws_FnExactStepsTo.calls k _ _ l0_0 a1 true w hr0 hc0 h).mono ?_
 rintro e w' ⟨rfl, hd⟩
 exact ⟨rfl, hd⟩
end Go.Proofs.YtfhffcefpnkllaaGreatDoor.P
namespace Go.Proofs.YtfhffcefpnkllaaGreatDoor.M
def hasPre (s p : List UInt8) : Bool := s.take p.length == p
end Go.Proofs.YtfhffcefpnkllaaGreatDoor.M
namespace Go.Proofs.YtfhffcefpnkllaaGreatDoor.L
open Go.RowKit Go.Proofs.YtfhffcefpnkllaaGreatDoor.P Go.Proofs.YtfhffcefpnkllaaGreatDoor.M Go.Proofs.YtfhffcefpnkllaaGreatDoorW.PrintWords Go.Proofs.YtfhffcefpnkllaaGreatDoorW.PrintLast Go.Proofs.YtfhffcefpnkllaaGreatDoorW.PrintMore
theorem begins_eq (w p : Txt) (hw : w.length ≤ 4611686018427387900) : spec_l2Begins.f (B w) (B p) = some (hasPre w p) := by
 unfold spec_l2Begins.f hasPre
 by_cases h : p.length ≤ w.length
 ·
  rw [if_pos (by simp; omega), if_pos (by omega), if_pos (by simp; omega)]; simp
 ·
  rw [if_neg (by simp; omega)]
  have : (w.take p.length == p) = false := by
   simp only [beq_eq_false_iff_ne]
   intro e
   have := congrArg List.length e
   simp at this; omega
  simp [this]
theorem l2Words_loop_ex (N : List S76) (hN : N.length ≤ 4294967296) : ∀ (d i : Nat) (acc : List Txt), i + d = N.length → acc.length ≤ i → (∀ w ∈ acc, w.length ≤ 13) →
  ∃ ws : List Txt, ws.length ≤ N.length ∧ (∀ w ∈ ws, w.length ≤ 13) ∧ Ev (fun k => spec_l2Words.l0 k (acc.map B) (i : Int) N) (ws.map B) := by
 intro d
 induction d with
 | zero => intro i acc h1 h2 h3; exact ⟨acc, by omega, h3, Ev.step (fun k => spec_l2Words.l0.eq_2 ..) (Ev.ifF (by omega) (Ev.now _))⟩
 | succ d ih =>
  intro i acc h1 h2 h3
  by_cases hf : (rd_T76 N (i : Int)).f2 = true
  ·
   obtain ⟨r, hr, he⟩ := l2Prefix_ex N i (i : Int) [] (by omega) (by omega) (by simp)
   obtain ⟨ws, w1, w2, w3⟩ := ih (i + 1) (acc ++ [r]) (by omega) (by simp; omega) (fun w hw => by
    rcases List.mem_append.1 hw with hw | hw
    ·
     exact h3 w hw
    ·
     rw [List.mem_singleton.1 hw]; exact hr)
   refine ⟨ws, w1, w2, Ev.step (fun k => spec_l2Words.l0.eq_2 ..) (Ev.ifT (by omega) (Ev.ifT (by omega) (Ev.ifT hf (Ev.bind (f := fun k t => if (acc.map B).length < 8796093022208 then spec_l2Words.l0 k (acc.map B ++ [t]) (wrap64 ((i : Int) + 1)) N else none) he (Ev.ifT (by simp; omega) ?_)))))⟩
   simpa only [wrap64_succ i (by omega), List.map_append, List.map_cons, List.map_nil] using w3
  ·
   obtain ⟨ws, w1, w2, w3⟩ := ih (i + 1) acc (by omega) (by omega) h3
   refine ⟨ws, w1, w2, Ev.step (fun k => spec_l2Words.l0.eq_2 ..) (Ev.ifT (by omega) (Ev.ifT (by omega) (Ev.ifF hf ?_)))⟩
   simpa only [wrap64_succ i (by omega)] using w3
theorem l2Words_ex (N : List S76) (hN : N.length ≤ 4294967296) : ∃ ws : List Txt, ws.length ≤ N.length ∧ (∀ w ∈ ws, w.length ≤ 13) ∧ Ev (fun k => spec_l2Words.f k N) (ws.map B) :=
 l2Words_loop_ex N hN N.length 0 [] (by omega) (by simp) (by simp)
theorem l2Words_loop {P : List Txt} (ws : List Txt) (hA : Asc P) (hC : Clo P) (hW : ∀ p ∈ P, wordL p = true) (hP : P.length ≤ 4294967296) : ∀ (d i : Nat) (acc : List Txt), i + d = P.length → acc.length ≤ i →
  Ev (fun k => spec_l2Words.l0 k (acc.map B) (i : Int) (trN P ws)) ((acc ++ (P.drop i).filter (fun p => decide (p ∈ ws))).map B) := by
 intro d
 induction d with
 | zero =>
  intro i acc h1 h2
  rw [List.drop_of_length_le (by omega)]
  exact Ev.step (fun k => spec_l2Words.l0.eq_2 ..) (Ev.ifF (by rw [trN_length]; omega) (by simpa using Ev.now _))
 | succ d ih =>
  intro i acc h1 h2
  have hi : i < P.length := by omega
  have hf : (rd_T76 (trN P ws) (i : Int)).f2 = decide (P.getD i [] ∈ ws) := by rw [rdN P ws i hi]; rfl
  rw [drop_cons_getD [] hi, List.filter_cons]
  by_cases hm : P.getD i [] ∈ ws
  ·
   rw [decide_eq_true hm] at hf
   rw [decide_eq_true hm, if_pos rfl]
   refine Ev.step (fun k => spec_l2Words.l0.eq_2 ..) (Ev.ifT (by rw [trN_length]; omega) (Ev.ifT (by omega) (Ev.ifT hf (Ev.bind (f := fun k t => if (acc.map B).length < 8796093022208 then spec_l2Words.l0 k (acc.map B ++ [t]) (wrap64 ((i : Int) + 1)) (trN P ws) else none) (l2Prefix_ev ws hA hC hW i hi) (Ev.ifT (by simp; omega) ?_)))))
   have := ih (i + 1) (acc ++ [P.getD i []]) (by omega) (by simp; omega)
   simpa only [wrap64_succ i (by omega), List.map_append, List.map_cons, List.map_nil, List.append_assoc, List.singleton_append] using this
  ·
   rw [decide_eq_false hm] at hf
   rw [decide_eq_false hm, if_neg Bool.false_ne_true]
   refine Ev.step (fun k => spec_l2Words.l0.eq_2 ..) (Ev.ifT (by rw [trN_length]; omega) (Ev.ifT (by omega) (Ev.ifF (by rw [hf]; exact Bool.false_ne_true) ?_)))
   simpa only [wrap64_succ i (by omega)] using ih (i + 1) acc (by omega) (by omega)
theorem l2Words_ev {ws : List Txt} (h : OkW ws) : Ev (fun k => spec_l2Words.f k (trN (preL ws) ws)) (ws.map B) := by
 have := l2Words_loop ws (asc_preL ws) (clo_preL ws) (fun p hp => preL_word h.word hp) (by have := h.pre; omega) (preL ws).length 0 [] (by omega) (by simp)
 rw [List.drop_zero, List.nil_append, filter_preL h.asc] at this
 exact this
def wordsGo : List Nd → List Txt → List Txt
 | n :: r, p :: ps => if n.f2 = true then p :: wordsGo r ps else wordsGo r ps
 | _, _ => []
theorem wordsGo_mem : ∀ (N : List Nd) (ps : List Txt) (w : Txt), w ∈ wordsGo N ps → w ∈ ps
 | n :: r, p :: ps, w, h => by
  unfold wordsGo at h
  by_cases hf : n.f2 = true
  ·
   rw [if_pos hf] at h
   rcases List.mem_cons.1 h with e | h
   ·
    rw [e]; exact List.mem_cons_self
   ·
    exact List.mem_cons_of_mem _ (wordsGo_mem r ps w h)
  ·
   rw [if_neg hf] at h
   exact List.mem_cons_of_mem _ (wordsGo_mem r ps w h)
 | [], _, _, h => by simp [wordsGo] at h
 | _ :: _, [], _, h => by simp [wordsGo] at h
theorem wordsGo_len : ∀ (N : List Nd) (ps : List Txt), (wordsGo N ps).length ≤ N.length
 | n :: r, p :: ps => by
  have := wordsGo_len r ps
  unfold wordsGo
  by_cases hf : n.f2 = true
  ·
   rw [if_pos hf, List.length_cons, List.length_cons]; omega
  ·
   rw [if_neg hf, List.length_cons]; omega
 | [], _ => by simp [wordsGo]
 | _ :: _, [] => by simp [wordsGo]
theorem wordsGo_tr (P ws : List Txt) : ∀ Q : List Txt, wordsGo (Q.map fun p => mkN (ndL P ws p)) Q = Q.filter fun p => decide (p ∈ ws)
 | [] => rfl
 | q :: Q => by
  rw [List.map_cons, wordsGo, wordsGo_tr P ws Q, List.filter_cons]
  rfl
theorem words_loop (N : List Nd) (ps : List Txt) (hN : N.length ≤ 1000000) (hp : ps.length = N.length) : ∀ (d i : Nat) (acc : List Txt), i + d = N.length → acc.length ≤ i →
  Ev (fun k => impl_Trie_words.l0 k (ps.map B) (acc.map B) N (N.length : Int) (i : Int)) ((acc ++ wordsGo (N.drop i) (ps.drop i)).map B) := by
 intro d
 induction d with
 | zero =>
  intro i acc h1 h2
  rw [List.drop_of_length_le (by omega)]
  exact Ev.step (fun k => impl_Trie_words.l0.eq_2 ..) (Ev.ifF (by omega) (by simpa [wordsGo] using Ev.now _))
 | succ d ih =>
  intro i acc h1 h2
  have hi : i < N.length := by omega
  rw [List.drop_eq_getElem_cons hi, drop_cons_getD [] (show i < ps.length by omega), wordsGo]
  refine Ev.step (fun k => impl_Trie_words.l0.eq_2 ..) (Ev.ifT (by omega) (Ev.ifT (by omega) (Ev.ifT (by omega) ?_)))
  rw [rd_get N i hi]
  by_cases hf : N[i].f2 = true
  ·
   rw [if_pos hf]
   refine Ev.ifT hf (Ev.ifT (by rw [List.length_map]; omega) (Ev.ifT (by rw [List.length_map]; omega) ?_))
   rw [rdB ps i (by omega), wrap64_succ i (by omega)]
   have := ih (i + 1) (acc ++ [ps.getD i []]) (by omega) (by simp; omega)
   rw [List.map_append (l₁ := acc), List.map_singleton, List.append_assoc] at this
   exact this
  ·
   rw [if_neg hf]
   refine Ev.ifF hf ?_
   rw [wrap64_succ i (by omega)]
   exact ih (i + 1) acc (by omega) (by omega)
theorem words_of {N : List Nd} {ps : List Txt} (h : prefN N = some ps) : N.length ≤ 481 ∧ ps.length = N.length ∧ (∀ p ∈ ps, ∀ c ∈ p, letterB c = true) ∧ Ev (fun k => impl_Trie_words.f k N) ((wordsGo N ps).map B) := by
 have hp := prefixes_ev N
 rw [h] at hp
 unfold prefN at h
 by_cases hn : 1 ≤ N.length ∧ N.length ≤ 481
 ·
  rw [if_pos hn] at h
  obtain ⟨h1, h2⟩ := prefGo_ok _ _ _ h (by simp)
  rw [List.length_drop, List.length_singleton] at h2
  refine ⟨hn.2, by omega, h1, ?_⟩
  unfold impl_Trie_words.f
  refine Ev.bind hp ?_
  exact words_loop N ps (by omega) (by omega) N.length 0 [] (by omega) (by simp)
 ·
  rw [if_neg hn] at h; cases h
theorem words_ev {ws : List Txt} (h : OkW ws) : Ev (fun k => impl_Trie_words.f k (trN (preL ws) ws)) (ws.map B) := by
 obtain ⟨_, _, _, h4⟩ := words_of (prefN_tr h)
 have e : wordsGo (trN (preL ws) ws) (preL ws) = ws := by
  have : trN (preL ws) ws = (preL ws).map fun p => mkN (ndL (preL ws) ws p) := by unfold trN nodesL; rw [List.map_map]; rfl
  rw [this, wordsGo_tr, filter_preL h.asc]
 rwa [e] at h4
theorem index_ev (l : List Txt) (p : Txt) (hl : l.length ≤ 1000000) (h : p ∈ l) : Ev (fun k => slices_Index_string_string.f k (l.map B) (B p)) ((placeL l p : Nat) : Int) := by
 have loop : ∀ d i, i + d = l.length → p ∈ l.drop i → Ev (fun k => slices_Index_string_string.l0 k (l.map B) (B p) (l.length : Int) (i : Int)) ((i + placeL (l.drop i) p : Nat) : Int) := by
  intro d
  induction d with
  | zero => intro i h1 h2; rw [List.drop_of_length_le (by omega)] at h2; simp at h2
  | succ d ih =>
   intro i h1 h2
   have hi : i < l.length := by omega
   rw [drop_cons_getD [] hi] at h2 ⊢
   refine Ev.step (fun k => slices_Index_string_string.l0.eq_2 ..) (Ev.ifT (by omega) (Ev.ifT (by omega) (Ev.ifT (by rw [List.length_map]; omega) ?_)))
   rw [rdB l i hi, toList_B, toList_B, placeL]
   by_cases e : l.getD i [] = p
   ·
    rw [if_pos e]
    exact Ev.ifT e.symm (Ev.now _)
   ·
    rw [if_neg e]
    refine Ev.ifF (fun q => e q.symm) ?_
    rw [wrap64_succ i (by omega), show i + (placeL (l.drop (i + 1)) p + 1) = i + 1 + placeL (l.drop (i + 1)) p from by omega]
    exact ih (i + 1) (by omega) ((List.mem_cons.1 h2).resolve_left fun q => e q.symm)
 have := loop l.length 0 (by omega) (by rw [List.drop_zero]; exact h)
 rw [List.drop_zero, Nat.zero_add] at this
 unfold slices_Index_string_string.f
 rw [List.length_map]
 exact this
theorem index_miss (l : List Txt) (p : Txt) (hl : l.length ≤ 1000000) (h : p ∉ l) : Ev (fun k => slices_Index_string_string.f k (l.map B) (B p)) (-1) := by
 have loop : ∀ d i, i + d = l.length → Ev (fun k => slices_Index_string_string.l0 k (l.map B) (B p) (l.length : Int) (i : Int)) (-1) := by
  intro d
  induction d with
  | zero => intro i h1; exact Ev.step (fun k => slices_Index_string_string.l0.eq_2 ..) (Ev.ifF (by omega) (Ev.now _))
  | succ d ih =>
   intro i h1
   have hi : i < l.length := by omega
   refine Ev.step (fun k => slices_Index_string_string.l0.eq_2 ..) (Ev.ifT (by omega) (Ev.ifT (by omega) (Ev.ifT (by rw [List.length_map]; omega) ?_)))
   rw [rdB l i hi, toList_B, toList_B, wrap64_succ i (by omega)]
   refine Ev.ifF (fun e => h ?_) (ih (i + 1) (by omega))
   rw [e]
   exact getD_mem hi
 unfold slices_Index_string_string.f
 rw [List.length_map]
 exact loop l.length 0 (by omega)
end Go.Proofs.YtfhffcefpnkllaaGreatDoor.L
namespace Go.Proofs.YtfhffcefpnkllaaGreatDoor.Pure
open Go.RowKit Go.Proofs.YtfhffcefpnkllaaGreatDoor.P Go.Proofs.YtfhffcefpnkllaaGreatDoor.M Go.Proofs.YtfhffcefpnkllaaGreatDoorW.PrintWords Go.Proofs.YtfhffcefpnkllaaGreatDoorW.PrintLast Go.Proofs.YtfhffcefpnkllaaGreatDoorW.PrintMore
open Go.Proofs.YtfhffcefpnkllaaGreatDoor.L
namespace StepsTo
theorem hasPre_iff (s p : Txt) : hasPre s p = decide (p <+: s) := by
 unfold hasPre
 by_cases h : p <+: s
 ·
  rw [decide_eq_true h]; exact beq_iff_eq.2 (List.prefix_iff_eq_take.1 h).symm
 ·
  rw [decide_eq_false h]; exact beq_eq_false_iff_ne.2 fun e => h (List.prefix_iff_eq_take.2 e.symm)
theorem words_stay {ws : List Txt} {w : Txt} (h : w ∈ ws) : w ∈ stayQ (preL ws) ws := by
 refine mem_stayQ.2 ⟨self_preL h, ?_⟩
 unfold stayL
 rw [decide_eq_true h, Bool.or_true, Bool.true_or]
theorem spec_loop {ws : List Txt} (h : OkW ws) (hl : (stayQ (preL ws) ws).length ≤ 81) (w : Txt) (hw : w.length ≤ 12) : ∀ d i, i + d = (stayQ (preL ws) ws).length → 0 < i →
  Ev (fun k => spec_StepsTo.l0 k (B w) ((((stayQ (preL ws) ws).take i).filter fun q => decide (q ≠ [] ∧ q <+: w)).length : Int) (i : Int) (brs (preL ws) ws)) ((cntL (preL ws) ws w : Int), true) := by
 intro d
 induction d with
 | zero =>
  intro i hi _
  rw [List.take_of_length_le (by omega)]
  exact Ev.step (fun k => spec_StepsTo.l0.eq_2 ..) (Ev.ifF (by rw [brs_length]; omega) (Ev.now _))
 | succ d ih =>
  intro i hi h0
  have hil : i < (stayQ (preL ws) ws).length := by omega
  have hne := stayQ_pos ws (asc_preL ws) (clo_preL ws) hil h0
  have hnext := ih (i + 1) (by omega) (by omega)
  have hle : (((stayQ (preL ws) ws).take i).filter fun q => decide (q ≠ [] ∧ q <+: w)).length ≤ 81 := Nat.le_trans (Nat.le_trans (List.length_filter_le _ _) (List.length_take_le' _ _)) hl
  rw [filter_take_succ _ hil, List.length_append] at hnext
  refine Ev.step (fun k => spec_StepsTo.l0.eq_2 ..) (Ev.ifT (by rw [brs_length]; omega) (Ev.bind (l4Prefix_ev h hil) ?_))
  rw [begins_eq _ _ (by omega), hasPre_iff, wrap64_succ i (by omega)]
  refine Ev.some_bind ?_
  by_cases c : (stayQ (preL ws) ws).getD i [] <+: w
  ·
   rw [if_pos (decide_eq_true ⟨hne, c⟩), List.length_singleton] at hnext
   rw [wrap64_succ _ (by omega)]
   exact Ev.ifT (decide_eq_true c) hnext
  ·
   rw [if_neg (by rw [decide_eq_true_eq]; exact fun h => c h.2), List.length_nil, Nat.add_zero] at hnext
   exact Ev.ifF (by rw [decide_eq_false c]; exact Bool.false_ne_true) hnext
theorem cnt_le (P ws : List Txt) (p : Txt) : cntL P ws p ≤ (stayQ P ws).length := List.length_filter_le _ _
theorem impl_loop {ws : List Txt} (h : OkW ws) (hl : (stayQ (preL ws) ws).length ≤ 81) : ∀ (n : Nat) (p : Txt) (s : Nat), p.length ≤ n → p ∈ stayQ (preL ws) ws → s + p.length ≤ 1000000 →
  Ev (fun k => impl_StepsTo.l0 k (s : Int) ((placeL (stayQ (preL ws) ws) p : Nat) : Int) (brs (preL ws) ws)) (((s + cntL (preL ws) ws p : Nat) : Int), true) := by
 have hA := asc_preL ws
 have hC := clo_preL ws
 obtain ⟨q1, q2⟩ := stayQ_zero ws hA hC
 have h00 : placeL (stayQ (preL ws) ws) [] = 0 := by have := placeL_get (asc_stayQ ws hA) q1; rwa [q2] at this
 have hnil : ∀ s : Nat, Ev (fun k => impl_StepsTo.l0 k (s : Int) ((placeL (stayQ (preL ws) ws) [] : Nat) : Int) (brs (preL ws) ws)) (((s + cntL (preL ws) ws [] : Nat) : Int), true) := by
  intro s
  rw [h00, cntL_nil]
  exact Ev.step (fun k => impl_StepsTo.l0.eq_2 ..) (Ev.ifF (by omega) (Ev.now _))
 intro n
 induction n with
 | zero =>
  intro p s h1 h2 _
  have := List.eq_nil_of_length_eq_zero (Nat.le_zero.1 h1)
  subst this
  exact hnil s
 | succ n ih =>
  intro p s h1 h2 hs
  by_cases hne : p = []
  ·
   subst hne; exact hnil s
  ·
   obtain ⟨z1, z2⟩ := placeL_mem h2
   have h0 : 0 < placeL (stayQ (preL ws) ws) p := by
    rcases Nat.eq_zero_or_pos (placeL (stayQ (preL ws) ws) p) with e | e
    ·
     rw [e, q2] at z2; exact absurd z2.symm hne
    ·
     exact e
   obtain ⟨u1, u2, u3, u4⟩ := upL_spec ws hC (mem_stayQ.1 h2).1 hne
   have hstep := cntL_step ws hA hC h2 hne
   have := ih (upL (preL ws) ws p) (s + 1) (by omega) (up_stayQ ws hC h2 hne) (by omega)
   refine Ev.step (fun k => impl_StepsTo.l0.eq_2 ..) (Ev.ifT (by omega) (Ev.ifT (by omega) (Ev.ifT (by rw [brs_length]; omega) ?_)))
   rw [rdBr _ _ _ z1, z2, wrap64_succ s (by omega)]
   unfold brN brL
   rw [if_neg hne, if_neg hne]
   rw [show s + cntL (preL ws) ws p = s + 1 + cntL (preL ws) ws (upL (preL ws) ws p) from by omega]
   exact this
theorem both (N : List Bd) (hb : ∀ b ∈ N, b.f0.size ≤ 1000000000) (w : Txt) (hw : w.length ≤ 1000000000) : ∃ r : Int × Bool, Ev (fun k => spec_StepsTo.f k N (B w)) r ∧ Ev (fun k => impl_StepsTo.f k N (B w)) r := by
 unfold spec_StepsTo.f impl_StepsTo.f
 have s0 : ∀ N, Ev (fun k => spec_StepsTo.j0 k (B w) true N) (0, false) := fun N => Ev.step (fun k => spec_StepsTo.j0.eq_2 ..) (Ev.ifT rfl (Ev.now _))
 have i0 : ∀ N, Ev (fun k => impl_StepsTo.j0 k (B w) true N) (0, false) := fun N => Ev.step (fun k => impl_StepsTo.j0.eq_2 ..) (Ev.ifT rfl (Ev.now _))
 rcases open_both N hb with ⟨ws, h, rfl, hl, e1, e2⟩ | ⟨e1, e2⟩
 ·
  have h40 := h.len
  have hp := bprefixes_ev (brs (preL ws) ws)
  rw [bpN_tr h hl] at hp
  have hhas := l2Has_ev ws w (by omega)
  by_cases hm : w ∈ ws
  ·
   have h12 := h.le w hm
   obtain ⟨z1, z2⟩ := placeL_mem hm
   rw [decide_eq_true hm] at hhas
   have hi : Ev (fun k => impl_Trie_has.f k (trN (preL ws) ws) (B w)) true := by
    unfold impl_Trie_has.f slices_Contains_string_string.f
    refine Ev.bind (words_ev h) (Ev.bind (Ev.bind (index_ev ws w (by omega) hm) (Ev.now _)) ?_)
    rw [decide_eq_true (by omega)]
    exact Ev.now _
   have hs := spec_loop h hl w h12 ((stayQ (preL ws) ws).length - 1) 1 (by have := (stayQ_zero ws (asc_preL ws) (clo_preL ws)).1; omega) (by omega)
   have e : (stayQ (preL ws) ws).take 1 = [[]] := by
    obtain ⟨q1, q2⟩ := stayQ_zero ws (asc_preL ws) (clo_preL ws)
    rw [take_succ_getD [] q1, q2]; rfl
   rw [e] at hs
   have hil := impl_loop h hl _ w 0 (Nat.le_refl _) (words_stay hm) (by omega)
   rw [Nat.zero_add] at hil
   refine ⟨((cntL (preL ws) ws w : Int), true), Ev.bind e1 (Ev.ifT rfl (Ev.bind (l2Words_ev h) (Ev.bind hhas (Ev.step (fun k => spec_StepsTo.j0.eq_2 ..) (Ev.ifF (by simp) ?_))))), Ev.bind e2 (Ev.ifT rfl ?_)⟩
   ·
    exact hs
   ·
    rw [isWord_eq, h.word w hm]
    exact Ev.some_bind (Ev.ifT rfl (Ev.bind hi (Ev.step (fun k => impl_StepsTo.j0.eq_2 ..) (Ev.ifF (by simp) (Ev.bind hp (Ev.bind (index_ev (stayQ (preL ws) ws) w (by omega) (words_stay hm)) hil))))))
  ·
   rw [decide_eq_false hm] at hhas
   have hi : Ev (fun k => impl_Trie_has.f k (trN (preL ws) ws) (B w)) false := by
    unfold impl_Trie_has.f slices_Contains_string_string.f
    refine Ev.bind (words_ev h) (Ev.bind (Ev.bind (index_miss ws w (by omega) hm) (Ev.now _)) ?_)
    exact Ev.now _
   refine ⟨(0, false), Ev.bind e1 (Ev.ifT rfl (Ev.bind (l2Words_ev h) (Ev.bind hhas (s0 _)))), Ev.bind e2 (Ev.ifT rfl ?_)⟩
   rw [isWord_eq]
   refine Ev.some_bind ?_
   by_cases hwd : wordL w = true
   ·
    exact Ev.ifT hwd (Ev.bind hi (i0 _))
   ·
    exact Ev.ifF hwd (i0 _)
 ·
  exact ⟨(0, false), Ev.bind e1 (Ev.ifF Bool.false_ne_true (s0 _)), Ev.bind e2 (Ev.ifF Bool.false_ne_true (i0 _))⟩
end StepsTo
theorem FnExactStepsTo : laws_FnExactStepsTo.Pure := by
 intro l a hl hs _
 obtain ⟨w, rfl⟩ := exB a
 by_cases hb : ((B w).size : Int) > 1048576
 ·
  exact ⟨0, by unfold laws_FnExactStepsTo.f; rw [if_pos hb]⟩
 rw [size_B] at hb
 obtain ⟨v, v1, v2⟩ := szP_ev l hl hs
 refine Ev.rounds ?_
 unfold laws_FnExactStepsTo.f
 refine Ev.ifF (by rw [size_B]; exact hb) (Ev.bind v1 ?_)
 by_cases h0 : v < 0
 ·
  exact Ev.ifT h0 (Ev.now _)
 ·
  obtain ⟨hlen, hsm⟩ := v2 (by omega)
  obtain ⟨r, h1, h2⟩ := StepsTo.both (toB l) (toB_small hsm) w (by omega)
  have he := eqPressed_ev (toB l) (by rw [toB_length]; omega)
  refine Ev.ifF h0 (Ev.bind (toPressed_ev l hlen) (Ev.bind h1 (Ev.bind (toPressed_ev l hlen) (Ev.bind h2 ?_))))
  exact Ev.ifT rfl (Ev.step (fun k => laws_FnExactStepsTo.j0.eq_2 ..) (Ev.ifF (by simp) (Ev.bind (toPressed_ev l hlen) (Ev.bind he (Ev.ifT rfl (Ev.now _))))))
end Go.Proofs.YtfhffcefpnkllaaGreatDoor.Pure
namespace Go.Proofs.YtfhffcefpnkllaaGreatDoor.fnExactStepsTo
open Go.ChangeShapes Go.WideShapes Go.ChangeAt Go.RowKit Go.Proofs.YtfhffcefpnkllaaGreatDoor.P
open Go.ChangeMaps (open_string shut_string)
def laidL : List (String × DataW Unit) := [("unicode/utf8.acceptRanges", Rows.laid_unicode_utf8_acceptRanges), ("unicode/utf8.first", Rows.laid_unicode_utf8_first)]
theorem own : ownKnob Tryz.prog.godebug = none := by kernel_rfl
theorem laidOut : laidOutB Tryz.prog = true := by kernel_rfl
theorem lifted (os : Os) (started : os.Started) (H : Type) (enc : TypeId × Value → H) :
    ReturnsInHanded {} Tryz.checked os 3 .any (fun w args => (Rows.fnExactStepsToSpec.pre enc Tryz.prog Tryz.f3 [] false w args ∧ laidMetH Tryz.prog laidL w) ∧ sizedMet enc Tryz.prog Tryz.f3 (OpenSpec.ofChange Rows.fnExactStepsToSpec) false w args) (Rows.fnExactStepsToSpec.post enc Tryz.prog Tryz.f3 false true false false) := by
  refine returnsInHanded_of_change_and (C := Tryz.checked) (X := fun w _ => laidMetH Tryz.prog laidL w) (fun _ _ _ hh h => h.of_heap hh) own started (by kernel_rfl) Tryz.func3
    (ChangeSpec.witness_shaped (enc := enc) (C := Tryz.checked) (os := os) (X := fun w _ => laidMetH Tryz.prog laidL w) false (World.laidAll Tryz.prog os laidL) #[.agg #[.slice none 0 0], .string ByteArray.empty] 8 (World.laidAll_os _ _ _) (World.shaped_of_ZipB (by kernel_rfl) (by kernel_rfl)) (by kernel_rfl) (by kernel_rfl) (by kernel_rfl)
      (by rw [MakeChecks.laidMetH_plain _ _ _ (by kernel_rfl)]; exact laidMet_laidAll _ (by kernel_rfl) (by kernel_rfl))) ?_
  intro W base args ds gs before hval0 hW hcnd hsz0 hL_ _
  have hsz : (DataW.weightsEach Tryz.prog (Tryz.f3.params.toList ++ Rows.fnExactStepsToSpec.plain.varTypes Tryz.prog) (ds ++ gs)).all (· ≤ reachBytes) = true := hsz0
  have hval : ∀ (j : Nat) t v, Tryz.f3.params[j]? = some t → args[j]? = some v → Value.okWide Tryz.prog W .any base t v := hval0
  have hW' := hW
  obtain ⟨p, q, hA0, hV, rfl, hfz, hnd⟩ := hW
  have hA : DataW.TrodAll enc Tryz.prog W 0 (fun _ => true) true Tryz.f3.params.toList args.toList ds p := hA0
  rw [Tryz.params3] at hA hval hsz
  obtain ⟨v0, vs0, d0, ds0, p0, q0, hargs, rfl, rfl, h0, r0⟩ := trodAll_cons hA
  obtain ⟨v1, vs1, d1, ds1, p1, q1, rfl, rfl, rfl, h1, r1⟩ := trodAll_cons r0
  obtain ⟨rfl, rfl, rfl⟩ := trodAll_nil r1
  obtain rfl : args = #[v0, v1] := by cases args; simp_all
  obtain ⟨rfl, rfl⟩ := trodVars_none hV
  have k0 := h0
  have lt0 : ∀ x ∈ p0, x.block < W.heap.size := by obtain ⟨m, hm⟩ := k0; exact DataW.trod_lt m _ _ _ hm
  obtain ⟨A0, c0, l0, ev0, hc0, hr0, hs0⟩ := OPr.pressed (hval 0 24 v0 rfl rfl) h0
  subst ev0
  obtain ⟨a1, rfl, rfl, rfl, y1⟩ := open_string Tryz.underlying9 (hval 1 9 v1 rfl rfl) h1
  have w1 : a1.size ≤ 140737488351232 := by
    have z := sized_string hsz (j := 1) (t := 9) rfl rfl
    rw [Array.length_toList] at z
    exact z
  clear hA0 hval0 hsz0 hsz
  refine (laws_FnExactStepsTo.walk Pure.FnExactStepsTo W A0 c0 l0 hr0 hc0 hs0 a1 w1).mono fun e W' ⟨he, bel⟩ => ?_
  subst he
  exact ⟨_, rfl, _, _, _, [], _, [], hW', trodAll_mk1 (shut_bool Tryz.underlying4 _), (trodAll_cons_mk (Below.trod laidOut (by kernel_rfl) (of_decide_eq_true (by kernel_rfl)) k0 bel lt0) (trodAll_cons_mk (shut_string Tryz.underlying9 y1) trodAll_mk0)), rfl, bel.frame _, fun h => by cases h⟩
theorem over : Rows.fnExactStepsToRow.holds Tryz.pinned (OpenSpec.ofChange Rows.fnExactStepsToSpec) :=
  OpenClaim.holds_of_wide 3 Tryz.f3 rfl rfl rfl rfl rfl rfl rfl ⟨rfl, rfl, rfl, rfl, rfl⟩ rfl rfl rfl rfl rfl (by kernel_rfl) Tryz.func3 (by kernel_rfl)
    (of_decide_eq_true (by kernel_rfl)) (by unfold Func.isWrapper; first | (rw [if_pos (by decide +kernel)]; kernel_rfl) | (rw [if_neg (by decide +kernel)]; exact ⟨rfl, rfl⟩))
    (fun os started H enc _ => lifted os started H enc)
theorem proved : Rows.FnExactStepsToSaid := over
end Go.Proofs.YtfhffcefpnkllaaGreatDoor.fnExactStepsTo
namespace Go.Proofs.YtfhffcefpnkllaaGreatDoor
theorem fnExactStepsTo_holds : Rows.FnExactStepsToSaid := fnExactStepsTo.proved
theorem fnExactStepsTo_card : Rows.FnExactStepsToCardSaid :=
  Claim7.holds_tied_plain_at .later [] [.data, .pinned] true (true, "89e9aeddae24cd2275e11d4f31cafb8a5f0d0d61960544b8b9d0c6dec95f84d4") false
    fnExactStepsTo_holds (fun _ h => by cases h) (by kernel_rfl) (fun _ h => by cases h) fnExactStepsTo_row_tie rfl ⟨rfl, rfl⟩ (by kernel_rfl) rfl
    (fun f fn hf hfn => by
      obtain rfl : f = 3 := Option.some.inj ((show Tryz.prog.funcNamed "loop.example/g01243/laws.FnExactStepsTo" = some 3 by kernel_rfl).symm.trans hf) |>.symm
      obtain rfl : fn = Tryz.f3 := (Option.some.inj (Tryz.func3.symm.trans hfn)).symm
      exact ⟨by kernel_rfl, fun j t ht => by
        rw [Tryz.params3] at ht
        have hm : t ∈ [24, 9] := by simpa using Array.mem_of_getElem? ht
        have hall : ([24, 9].all fun u => !Tryz.prog.wantsStandIn u) = true := by kernel_rfl
        exact (show Tryz.prog.wantsStandIn t = false by simpa using List.all_eq_true.1 hall t hm)⟩)
    (by kernel_rfl)
end Go.Proofs.YtfhffcefpnkllaaGreatDoor
