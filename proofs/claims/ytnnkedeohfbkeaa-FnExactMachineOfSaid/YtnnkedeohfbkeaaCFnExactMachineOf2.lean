/-
  Part 3 of the proof that FnExactMachineOf returns true for every input: the functions that it reaches, each with its contract, and the law.
  Conditions: those of the given statement, no others.
-/
import Derived.Test.YtnnkedeohfbkeaaCFnExactMachineOfW0
import Derived.Lib.SliceRun
import Derived.Shelf.Abstract
import Derived.StillTailTactics
import Derived.Deep.RegionHeld3
import Derived.Deep.DrawnRows
import Derived.Deep.QuietTactic
import Derived.BigQuiet
import Derived.Test.YtnnkedeohfbkeaaCFnExactMachineOf0
import Derived.Test.YtnnkedeohfbkeaaCFnExactMachineOf1
set_option linter.unusedVariables false
set_option linter.unusedSimpArgs false
set_option maxHeartbeats 8000000
set_option maxRecDepth 100000
namespace Go.Proofs.Ytnnkedeohfbkeaa.P
open Go.RowKit Go.Proofs.YtnnkedeohfbkeaaW.PrintWords Go.Proofs.YtnnkedeohfbkeaaW.PrintLast Go.Proofs.YtnnkedeohfbkeaaW.PrintMore
open Go.Proofs.YtnnkedeohfbkeaaW.PrintWords renaming blk_frozen → bF_, blk_cell → bC_, below_set → bS_, blk_below → bB_, below_step → bT_, pw_below_drewN → bN_, below_size → bZ_, below_drew1 → bD_, below_alloc → bA_, blk_far → bR_, gate_callee → gC_, gate_dst → gD_, box_event → bE_, blk_drew → b1_, blk_put → bP_, blk_drewN → b2_, blk_alloc → b3_, blk_lt → bL_, cell_far → cF_
open Go.Proofs.YtnnkedeohfbkeaaW.PrintLast renaming any_of → aO_, i64_w → i6_, i32_w → i3_, take_ofW → tW_
open Go.Proofs.YtnnkedeohfbkeaaW.PrintWords.Kd renaming R_below → kB_, R_mono → kM_, R_far → kF_, R_reads' → kR_, R_types → kT_, R_slice → kS_, R_celln → kC_, R_alloc → k1_, R_drewN → k2_, R_drew → k3_, C_below → k4_, R_lower → k5_, R_ne → k6_, own_blk → k7_
open Go.Proofs.YtnnkedeohfbkeaaW.PrintWords.LeO renaming none → l0_, bind → l1_, ite → l2_, refl → l3_
open World renaming block_lt_of_cell? → wB_
open _root_.Option renaming bind_eq_some_iff → oB_
open _root_.ByteArray renaming empty → eB_
open List renaming setIfInBounds_toArray → sA_, set_cons_zero → sB_, set_cons_succ → sC_, map_toArray → sD_, map_cons → sE_, map_nil → sF_, length_drop → sG_, length_take → sH_
open Bool renaming true → ty, false → fy
open Aside0 renaming mk → aM_
attribute [local go_sem] max2_int min2_int max_two min_two max_three min_three max_four min_four
mutual
def impl_trieOf.l0 : Nat → List ByteArray → List ByteArray → List ByteArray → Int → Int → Option ((List (S65)))
 | 0, _, _, _, _, _ => none
 | k + 1, x0, x3, x15, x16, x17 => if x17 < x16 then (if 0 ≤ x17 then (if x17 < (x15.length : Int) then (impl_trieOf.l1 k x0 x3 (rdOf eB_ x15 x17) x15 x16 x17 ((rdOf eB_ x15 x17).size : Int) 0) else (none)) else (none)) else ((impl_set.f x3).bind fun t332 => (if SM.okL t332 = true then (impl_trieOf.l2 k x0 t332 (t332.length : Int) 0 ([] : List (S65))) else none))
def impl_trieOf.l1 : Nat → List ByteArray → List ByteArray → ByteArray → List ByteArray → Int → Int → Int → Int → Option ((List (S65)))
 | 0, _, _, _, _, _, _, _, _ => none
 | k + 1, x0, x3, x5, x15, x16, x17, x22, x23 => if x23 < x22 then (if 0 ≤ (wrap64 (x23 + 1)) then (if (wrap64 (x23 + 1)) ≤ (x5.size : Int) then (if x3.length < 8796093022208 then (impl_trieOf.l1 k x0 (x3 ++ [x5.extract 0 ((wrap64 (x23 + 1)) : Int).toNat]) x5 x15 x16 x17 x22 (wrap64 (x23 + 1))) else (none)) else (none)) else (none)) else (impl_trieOf.l0 k x0 x3 x15 x16 (wrap64 (x17 + 1)))
def impl_trieOf.l2 : Nat → List ByteArray → List ByteArray → Int → Int → List (S65) → Option ((List (S65)))
 | 0, _, _, _, _, _ => none
 | k + 1, x0, x39, x40, x41, x336000 => if x41 < x40 then (if 0 ≤ x41 then (if x41 < (x39.length : Int) then ((slices_BinarySearch_string_string.f k x0 (rdOf eB_ x39 x41)).bind fun bt337 => (if (rdOf eB_ x39 x41).toList = ([] : List UInt8) then (if x336000.length < 5864062014805 then (impl_trieOf.l2 k x0 x39 x40 (wrap64 (x41 + 1)) (x336000 ++ [(⟨(-1), (-1), bt337.2⟩ : S65)])) else (none)) else (if 0 ≤ (wrap64 (((rdOf eB_ x39 x41).size : Int) - 1)) then (if (wrap64 (((rdOf eB_ x39 x41).size : Int) - 1)) < ((rdOf eB_ x39 x41).size : Int) then (if (wrap64 (((rdOf eB_ x39 x41).size : Int) - 1)) ≤ ((rdOf eB_ x39 x41).size : Int) then (if x336000.length < 5864062014805 then (impl_trieOf.l2 k x0 x39 x40 (wrap64 (x41 + 1)) (x336000 ++ [(⟨((bt (rdOf eB_ x39 x41) (wrap64 (((rdOf eB_ x39 x41).size : Int) - 1))) - 97) % 256, SM.at_ (List.take ((x41 : Int).toNat + 1) x39) ((rdOf eB_ x39 x41).extract 0 ((wrap64 (((rdOf eB_ x39 x41).size : Int) - 1)) : Int).toNat), bt337.2⟩ : S65)])) else (none)) else (none)) else (none)) else (none)))) else (none)) else (none)) else (some x336000)
end
def impl_trieOf.f (k : Nat) (l0 : List ByteArray) : Option ((List (S65))) := impl_trieOf.l0 k l0 (([(⟨#[]⟩ : ByteArray)] : List ByteArray)) l0 (l0.length : Int) 0
theorem impl_trieOf.mono_l : ∀ k, (∀ y0 y1 y2 y3 y4, LeO (impl_trieOf.l0 k y0 y1 y2 y3 y4) (impl_trieOf.l0 (k + 1) y0 y1 y2 y3 y4)) ∧ (∀ y0 y1 y2 y3 y4 y5 y6 y7, LeO (impl_trieOf.l1 k y0 y1 y2 y3 y4 y5 y6 y7) (impl_trieOf.l1 (k + 1) y0 y1 y2 y3 y4 y5 y6 y7)) ∧ (∀ y0 y1 y2 y3 y4, LeO (impl_trieOf.l2 k y0 y1 y2 y3 y4) (impl_trieOf.l2 (k + 1) y0 y1 y2 y3 y4))
 | 0 => ⟨fun _ _ _ _ _ r h => by simp [impl_trieOf.l0] at h, fun _ _ _ _ _ _ _ _ r h => by simp [impl_trieOf.l1] at h, fun _ _ _ _ _ r h => by simp [impl_trieOf.l2] at h⟩
 | k + 1 => by
  obtain ⟨ih0, ih1, ih2⟩ := impl_trieOf.mono_l k
  refine ⟨?_, ?_, ?_⟩
  ·
   intro y0 y1 y2 y3 y4
   unfold impl_trieOf.l0
   repeat' first
   | (with_reducible exact ih0 _ _ _ _ _)
   | (with_reducible exact ih1 _ _ _ _ _ _ _ _)
   | (with_reducible exact ih2 _ _ _ _ _)
   | (with_reducible exact slices_BinarySearch_string_string.mono _ _ _)
   | (with_reducible exact l3_ _)
   | (with_reducible exact l0_ _)
   | (with_reducible refine l2_ ?_ ?_)
   | (with_reducible refine l1_ ?_ (fun _ => ?_))
   | exact ih0 _ _ _ _ _
   | exact ih1 _ _ _ _ _ _ _ _
   | exact ih2 _ _ _ _ _
   | exact slices_BinarySearch_string_string.mono _ _ _
   | exact l0_ _
   | refine l2_ ?_ ?_
   | refine l1_ ?_ (fun _ => ?_)
  ·
   intro y0 y1 y2 y3 y4 y5 y6 y7
   unfold impl_trieOf.l1
   repeat' first
   | (with_reducible exact ih0 _ _ _ _ _)
   | (with_reducible exact ih1 _ _ _ _ _ _ _ _)
   | (with_reducible exact ih2 _ _ _ _ _)
   | (with_reducible exact slices_BinarySearch_string_string.mono _ _ _)
   | (with_reducible exact l3_ _)
   | (with_reducible exact l0_ _)
   | (with_reducible refine l2_ ?_ ?_)
   | (with_reducible refine l1_ ?_ (fun _ => ?_))
   | exact ih0 _ _ _ _ _
   | exact ih1 _ _ _ _ _ _ _ _
   | exact ih2 _ _ _ _ _
   | exact slices_BinarySearch_string_string.mono _ _ _
   | exact l0_ _
   | refine l2_ ?_ ?_
   | refine l1_ ?_ (fun _ => ?_)
  ·
   intro y0 y1 y2 y3 y4
   unfold impl_trieOf.l2
   repeat' first
   | (with_reducible exact ih0 _ _ _ _ _)
   | (with_reducible exact ih1 _ _ _ _ _ _ _ _)
   | (with_reducible exact ih2 _ _ _ _ _)
   | (with_reducible exact slices_BinarySearch_string_string.mono _ _ _)
   | (with_reducible exact l3_ _)
   | (with_reducible exact l0_ _)
   | (with_reducible refine l2_ ?_ ?_)
   | (with_reducible refine l1_ ?_ (fun _ => ?_))
   | exact ih0 _ _ _ _ _
   | exact ih1 _ _ _ _ _ _ _ _
   | exact ih2 _ _ _ _ _
   | exact slices_BinarySearch_string_string.mono _ _ _
   | exact l0_ _
   | refine l2_ ?_ ?_
   | refine l1_ ?_ (fun _ => ?_)
theorem impl_trieOf.mono : ∀ a0 k, LeO (impl_trieOf.f k a0) (impl_trieOf.f (k + 1) a0) := by
 intro a0 k
 obtain ⟨ih0, ih1, ih2⟩ := impl_trieOf.mono_l k
 unfold impl_trieOf.f
 repeat' first
   | (with_reducible exact ih0 _ _ _ _ _)
   | (with_reducible exact ih1 _ _ _ _ _ _ _ _)
   | (with_reducible exact ih2 _ _ _ _ _)
   | (with_reducible exact slices_BinarySearch_string_string.mono _ _ _)
   | (with_reducible exact l3_ _)
   | (with_reducible exact l0_ _)
   | (with_reducible refine l2_ ?_ ?_)
   | (with_reducible refine l1_ ?_ (fun _ => ?_))
   | exact ih0 _ _ _ _ _
   | exact ih1 _ _ _ _ _ _ _ _
   | exact ih2 _ _ _ _ _
   | exact slices_BinarySearch_string_string.mono _ _ _
   | exact l0_ _
   | refine l2_ ?_ ?_
   | refine l1_ ?_ (fun _ => ?_)
def impl_trieOf.T20 : Bool × List (List Nat × List Nat) := (true, [([], []), ([], []), ([1], [1]), ([2], [2]), ([0, 3], [0, 3]), ([4], [4]), ([5], [5]), ([], []), ([], []), ([], []), ([9], [9]), ([10], [10]), ([8, 11], [8, 11]), ([7, 12], [7, 12]), ([0, 1, 2, 3, 4, 5, 6], []), ([14, 6, 0, 1, 2, 3, 4, 5, 6], [6, 14]), ([0, 1, 2, 3, 4, 5, 6, 7, 8, 9, 10, 11, 12, 13, 14, 15], []), ([16, 13, 15, 0, 1, 2, 3, 4, 5, 6, 7, 8, 9, 10, 11, 12, 13, 14, 15], [13, 16])])
def impl_trieOf.B20 : List Nat := [0, 0, 2, 6, 15, 31, 63, 0, 0, 0, 512, 1536, 3840, 8064, 127, 16511, 65535, 131071]
theorem impl_trieOf.tab20 : rtab .any (opsOf Try.f51 20) = impl_trieOf.T20 := by kernel_rfl
theorem impl_trieOf.bits20 : waitsOk impl_trieOf.T20.2 impl_trieOf.B20 = true := by kernel_rfl
set_option maxHeartbeats 60000000 in
theorem impl_trieOf.calls (k : Nat) (A0 : Option Addr) (c0 : Nat) (l0 : List ByteArray) (r : List (S65)) (w : World) (hr0 : Kd.C Kd.string w A0 l0.length l0) (hc0 : l0.length ≤ c0) (h : impl_trieOf.f k l0 = some r) :
  Calls Try.prog 51 #[.slice A0 l0.length c0] w fun e w' => ∃ v0_ : Value, e = .returned (.agg #[v0_]) ∧ Kd.R k65 65 w' w.heap.size (fun _ => True) v0_ r ∧ Below w.heap.size w w' := by
 have hu30 := Try.underlying30
 have hu65 := Try.underlying65
 have HR0 := aM_ hr0
 have HC0 := aM_ hc0
 clear hr0 hc0
 have HB := aM_ (Below.refl w.heap.size w)
 have H : (impl_trieOf.l0 k l0 (([(⟨#[]⟩ : ByteArray)] : List ByteArray)) l0 (l0.length : Int) 0) = some r := h
 clear h
 obtain ⟨y325, hy325⟩ : ∃ y_ : List ByteArray, y_ = (([(⟨#[]⟩ : ByteArray)] : List ByteArray)) := ⟨_, rfl⟩
 replace H : (impl_trieOf.l0 k l0 y325 l0 (l0.length : Int) 0) = some r := by first | (rw [hy325]; with_reducible exact H) | (have H2_ := (Option.bind_some _ _).symm.trans H; rw [hy325]; with_reducible exact H2_) | (have H2_ := (Option.bind_some _ _).symm.trans H; with_reducible exact H2_) | with_reducible exact H | (rw [hy325]; exact H) | exact H
 have Ny325 := aM_ hy325
 clear hy325
 have H' := aM_ H
 clear H
 go_enter Try.func51, Try.ntmps51
 go_wp2_with (first | ((with_reducible refine gD_ (N := 2) rfl ?_); refine bE_ ?hg (N := 2) ?hd (cs := #[.slice none 0 0]) (t := 30) ?hr ?_; (case hd => rfl); (case hg => rfl); (case hr => (go_simp; done)); intro gb324 hg w2 hbox hb; have BK324 := aM_ (hbox); have GW324 := aM_ ((by rw [hg]; exact (bZ_ HB.out) : w.heap.size ≤ gb324)); have GE324 := GW324; replace HB := aM_ (bT_ HB.out hb); clear hb hbox hg) | ((with_reducible refine gD_ (N := 14) rfl ?_); refine Kd.R_lit Kd.string _ 9 ?hg (N := 14) ?hd (xs := ([(⟨#[]⟩ : ByteArray)] : List ByteArray)) (inner := [.string (⟨#[]⟩ : ByteArray)]) (ok := fun _ => True) (okp := fun _ => True) ?hr ?hp (fun _ hk => hk) trivial (Below.refl _ _) (Nat.le_refl _) (by simp) ?_; (case hd => rfl); (case hg => rfl); (case hr => (go_simp; done)); (case hp => exact (Reps.one (show Kd.M Kd.string _ _ _ (⟨#[]⟩ : ByteArray) [.string (⟨#[]⟩ : ByteArray)] from rfl) (Reps.none _ _))); intro v326 w3 ho4 hb hg_ hnew_; clear hg_ hnew_; (rw [← Ny325.out] at ho4); have HO327 := aM_ (k5_ ho4 (bZ_ HB.out)); replace BK324 := aM_ (bB_ BK324.out hb); replace HB := aM_ (bT_ HB.out hb); clear hb ho4))
 go_loopg [3, 17] k (fun kq v3 v17 w' => ∃ (x3_1 : List ByteArray) (x17_1 : Int), v17 = .int .i64 x17_1 ∧ Aside0 (impl_trieOf.l0 kq l0 x3_1 l0 (l0.length : Int) x17_1 = some r) ∧ Aside0 (kq ≤ k) ∧ Aside0 (Kd.R Kd.string 9 w' w.heap.size (fun _ => True) v3 x3_1) ∧ Aside0 (w'.heap[gb324]? = some (.cells #[(.slice none 0 0)] 30 (0, 0))) ∧ Aside0 (Below w.heap.size w w'))
 case atStart => exact ⟨(y325), (0), (by rfl), H', ⟨Nat.le_refl _⟩, ⟨HO327.out⟩, ⟨BK324.out⟩, ⟨HB.out⟩⟩
 case round =>
  clear H'
  try clear p2
  obtain ⟨x3_1, x17_1, rfl, HA, HK1, HO_3, BK324, HB⟩ := hrel
  cases gk with
  | zero => exact absurd HA.out (by simp [impl_trieOf.l0])
  | succ k1 =>
   have H := HA.out
   clear HA
   simp only [impl_trieOf.l0] at H
   by_cases c5 : x17_1 < (l0.length : Int)
   ·
    rw [if_pos c5] at H
    have c5b0 := decide_eq_true c5
    clear c5
    by_cases c6 : 0 ≤ x17_1
    ·
     rw [if_pos c6] at H
     have c6b0 := decide_eq_true c6
     clear c6
     by_cases c7 : x17_1 < (l0.length : Int)
     ·
      rw [if_pos c7] at H
      have c7b0 := decide_eq_true c7
      clear c7
      have H' := aM_ H
      clear H
      have p328 : 0 ≤ (x17_1 : Int) := of_decide_eq_true (by (with_reducible assumption))
      have q328 : x17_1 < (l0.length : Int) := of_decide_eq_true (by (with_reducible assumption))
      obtain ⟨ad328, e328, hx328_0⟩ := Kd.at_string HR0.out x17_1 p328 q328
      cases e328
      replace hx328_0 := (HB.out.cell (wB_ w _ hx328_0)).trans hx328_0
      replace p328 := eq_true p328
      replace q328 := eq_true q328
      go_wp2
      go_loopg [3, 23] k1 (fun kq v3 v23 w' => ∃ (x3_2 : List ByteArray) (x23_2 : Int), v23 = .int .i64 x23_2 ∧ Aside0 (impl_trieOf.l1 kq l0 x3_2 (rdOf eB_ l0 x17_1) l0 (l0.length : Int) x17_1 ((rdOf eB_ l0 x17_1).size : Int) x23_2 = some r) ∧ Aside0 (kq ≤ k1) ∧ Aside0 (Kd.R Kd.string 9 w' w.heap.size (fun _ => True) v3 x3_2) ∧ Aside0 (w'.heap[gb324]? = some (.cells #[(.slice none 0 0)] 30 (0, 0))) ∧ Aside0 (Below w.heap.size w w'))
      case atStart => exact ⟨(x3_1), (0), (by rfl), H', ⟨Nat.le_refl _⟩, ⟨HO_3.out⟩, ⟨BK324.out⟩, ⟨HB.out⟩⟩
      case round =>
       clear H'
       try clear p2
       try clear p3
       try clear q3
       try clear hx3
       try clear c5b0
       try clear c6b0
       try clear c7b0
       try clear hx328_0
       try clear p2
       try clear p328
       try clear q328
       obtain ⟨x3_2, x23_2, rfl, HA, HK2, HO_3, BK324, HB⟩ := hrel
       cases gk with
       | zero => exact absurd HA.out (by simp [impl_trieOf.l1])
       | succ k2 =>
        have H := HA.out
        clear HA
        simp only [impl_trieOf.l1] at H
        by_cases c8 : x23_2 < ((rdOf eB_ l0 x17_1).size : Int)
        ·
         rw [if_pos c8] at H
         have c8b0 := decide_eq_true c8
         clear c8
         obtain ⟨ji9, hji9⟩ : ∃ j_ : Int, (wrap64 (x23_2 + 1)) = j_ := ⟨_, rfl⟩
         replace H : (if 0 ≤ (ji9) then (if (ji9) ≤ ((rdOf eB_ l0 x17_1).size : Int) then (if x3_2.length < 8796093022208 then (impl_trieOf.l1 k2 l0 (x3_2 ++ [(rdOf eB_ l0 x17_1).extract 0 ((ji9) : Int).toNat]) (rdOf eB_ l0 x17_1) l0 (l0.length : Int) x17_1 ((rdOf eB_ l0 x17_1).size : Int) ji9) else (none)) else (none)) else (none)) = some r := by first | (rw [hji9] at H; exact H) | (simp only [hji9] at H ⊢; exact H)
         have hji9w : (IntKind.i64.wrap (x23_2 + 1)) = ji9 := (i6_ _).trans hji9
         by_cases c10 : 0 ≤ (ji9)
         ·
          rw [if_pos c10] at H
          have c10b0 := eq_true c10
          have c10b1 := decide_eq_true c10
          clear c10
          by_cases c11 : (ji9) ≤ ((rdOf eB_ l0 x17_1).size : Int)
          ·
           rw [if_pos c11] at H
           have c11b0 := eq_true c11
           have c11b1 := decide_eq_true c11
           clear c11
           by_cases c12 : x3_2.length < 8796093022208
           ·
            rw [if_pos c12] at H
            have LMc12 := aM_ c12
            clear c12
            obtain ⟨y329, hy329⟩ : ∃ y_ : List ByteArray, y_ = (x3_2 ++ [(rdOf eB_ l0 x17_1).extract 0 ((ji9) : Int).toNat]) := ⟨_, rfl⟩
            replace H : (impl_trieOf.l1 k2 l0 y329 (rdOf eB_ l0 x17_1) l0 (l0.length : Int) x17_1 ((rdOf eB_ l0 x17_1).size : Int) ji9) = some r := by first | (rw [hy329]; with_reducible exact H) | (have H2_ := (Option.bind_some _ _).symm.trans H; rw [hy329]; with_reducible exact H2_) | (have H2_ := (Option.bind_some _ _).symm.trans H; with_reducible exact H2_) | with_reducible exact H | (rw [hy329]; exact H) | exact H
            have Ny329 := aM_ hy329
            clear hy329
            have H' := aM_ H
            clear H
            go_wp2_with (first | ((with_reducible refine gate_builtin (b := .append) (xs := #[.tmp 26, .tmp 31]) rfl ?_); at_builtin; refine Kd.R_append Kd.string (w0 := w) w.heap.size rfl (.tmp 26) (.tmp 31) 50 9 (.string ⟨#[]⟩) 16 rfl Try.underlying50 info9 rfl (by decide) (by omega) u3 x3_2 ((rdOf eB_ l0 x17_1).extract 0 ((ji9) : Int).toNat) [.string ((rdOf eB_ l0 x17_1).extract 0 ((ji9) : Int).toNat)] (fun _ => True) (fun _ => False) rfl rfl ?aP (fun _ hk => hk.elim) ?aF ?aO ?aB ?aS ?aL ?_; (case aP => exact rfl); (case aB => exact HB.out); (case aF => exact (fun _ _ => trivial)); (case aO => exact HO_3.out); (case aS => exact (bZ_ HB.out)); (case aL => have := LMc12.out; omega); intro v330 w13 ho hb hg hat; rw [← Ny329.out] at ho; have n0_ := aM_ (blk_grown (g := gb324) (o := .cells #[.slice none 0 0] 30 (0, 0)) BK324.out hg (k6_ HO_3.out BK324.out (by decide))); have n1_ := aM_ (hb); have n2_ := aM_ (ho); clear BK324; clear HB; clear HO_3; have BK324 := n0_; have HB := n1_; have HO331 := n2_; clear n0_ n1_ n2_; clear ho hb hg hat))
            go_roundg k2
            case measure => have := HK1.out; have := HK2.out; omega
            case rel => exact ⟨(y329), (ji9), (by rfl), H', ⟨by have := HK1.out; have := HK2.out; omega⟩, ⟨HO331.out⟩, ⟨BK324.out⟩, ⟨HB.out⟩⟩
           ·
            rw [if_neg c12] at H
            exact absurd H (by simp)
          ·
           rw [if_neg c11] at H
           exact absurd H (by simp)
         ·
          rw [if_neg c10] at H
          exact absurd H (by simp)
        ·
         rw [if_neg c8] at H
         have c8b0 := decide_eq_false c8
         clear c8
         have H' := aM_ H
         clear H
         go_wp2
         go_roundg k2
         case measure => have := HK1.out; have := HK2.out; omega
         case rel => exact ⟨(x3_2), (wrap64 (x17_1 + 1)), (by rfl), H', ⟨by have := HK1.out; have := HK2.out; omega⟩, ⟨HO_3.out⟩, ⟨BK324.out⟩, ⟨HB.out⟩⟩
     ·
      rw [if_neg c7] at H
      exact absurd H (by simp)
    ·
     rw [if_neg c6] at H
     exact absurd H (by simp)
   ·
    rw [if_neg c5] at H
    have c5b0 := decide_eq_false c5
    clear c5
    replace H := oB_.mp H
    obtain ⟨t332, A140, H⟩ := H
    try dsimp only at H
    have hsz_ : SM.okL t332 = true := by
     by_cases h_ : SM.okL t332 = true
     ·
      exact h_
     ·
      rw [if_neg h_] at H; cases H
    rw [if_pos hsz_] at H
    have HSZ := aM_ hsz_
    clear hsz_
    have A14 := aM_ A140
    clear A140
    have H' := aM_ H
    clear H
    obtain ⟨Ao15, co15, eo15⟩ := kS_ HO_3.out
    subst eo15
    go_wp2_with (first | ((with_reducible refine gC_ (f := 65) rfl ?_); refine goesL_ (some 36) rfl rfl Try.func65 (by kernel_rfl) rfl #[.slice Ao15 x3_1.length co15] rfl (by (try simp only [sD_, sE_, sF_]); rfl) ?_; (with_reducible refine (impl_set.calls _ _ x3_1 t332 _ ?side1 ?side2 A14.out).mono ?_); (case side1 => repeat (first | exact (kR_ HO_3.out).2.2 | (with_reducible refine Kd.C_alloc ?_ _) | (with_reducible refine Kd.C_drewN ?_ _) | (with_reducible refine Kd.C_drew ?_))); (case side2 => exact (kR_ HO_3.out).2.1); rintro e w16 ⟨v333, rfl, ho0, hb⟩; refine ⟨_, rfl, ?_⟩; have HO334 := aM_ (k5_ (Kd.R_new' ho0 (Kd.R_lt HO_3.out)) (bZ_ HB.out)); replace HO_3 := aM_ (Kd.R_elder' HO_3.out (Kd.R_base ho0) hb); replace BK324 := aM_ (bB_ BK324.out hb); replace HB := aM_ (bT_ HB.out hb); (try clear hb); (try clear ho0)) | ((with_reducible refine gD_ (N := 38) rfl ?_); refine SM.made ?hg (N := 38) ?hd ?hr ?_; (case hd => rfl); (case hg => rfl); (case hr => (go_simp; rfl)); intro gbM hg wMade hbox hb; replace HO_3 := aM_ (kB_ HO_3.out hb); replace HO334 := aM_ (kB_ HO334.out hb); have BKM := aM_ (hbox); have GWM := aM_ ((by rw [hg]; exact (bZ_ HB.out) : w.heap.size ≤ gbM)); have GEM := aM_ ((by rw [hg]; exact (bZ_ HB.out) : w.heap.size ≤ gbM)); replace HB := aM_ (bT_ HB.out hb); have NB324_M := aM_ ((by rw [hg]; exact Nat.ne_of_lt (bL_ BK324.out) : gb324 ≠ gbM)); have NBM_324 := aM_ NB324_M.out.symm; replace BK324 := aM_ (bB_ BK324.out hb); clear hb hbox hg) | ((with_reducible refine gD_ (N := 7) rfl ?_); refine bE_ ?hg (N := 7) ?hd (cs := #[.slice none 0 0]) (t := 30) ?hr ?_; (case hd => rfl); (case hg => rfl); (case hr => (go_simp; done)); intro gb335 hg w17 hbox hb; have n0_ := aM_ (kB_ HO_3.out hb); have n1_ := aM_ (kB_ HO334.out hb); have n2_ := aM_ (bB_ BK324.out hb); have n29_ := aM_ (SM.Is.below (l := []) (by (with_reducible repeat (first | refine SM.Is.drewN ?_ _ | refine SM.Is.drew ?_ | refine SM.Is.alloc ?_ _)); exact BKM.out) hb); have n3_ := aM_ (bT_ HB.out hb); have n4_ := aM_ (hbox); have n5_ := aM_ ((by rw [hg]; exact (bZ_ HB.out) : w.heap.size ≤ gb335)); have n6_ := aM_ ((by rw [hg]; exact (bZ_ HB.out) : w.heap.size ≤ gb335)); have n7_ := aM_ ((by rw [hg]; exact Nat.ne_of_lt (bL_ BK324.out) : gb324 ≠ gb335)); have n79_ := aM_ ((by rw [hg]; exact Nat.ne_of_lt (SM.Is.lt (l := []) (by (with_reducible repeat (first | refine SM.Is.drewN ?_ _ | refine SM.Is.drew ?_ | refine SM.Is.alloc ?_ _)); exact BKM.out)) : gbM ≠ gb335)); have n8_ := aM_ ((by rw [hg]; exact Nat.ne_of_gt (bL_ BK324.out) : gb335 ≠ gb324)); have n89_ := aM_ ((by rw [hg]; exact Nat.ne_of_gt (SM.Is.lt (l := []) (by (with_reducible repeat (first | refine SM.Is.drewN ?_ _ | refine SM.Is.drew ?_ | refine SM.Is.alloc ?_ _)); exact BKM.out)) : gb335 ≠ gbM)); clear HO_3; clear HO334; clear BKM; clear BK324; clear HB; have HO_3 := n0_; have HO334 := n1_; have BK324 := n2_; have BKM := n29_; have HB := n3_; have BK335 := n4_; have GW335 := n5_; have GE335 := n6_; have NB324_335 := n7_; have NBM_335 := n79_; have NB335_324 := n8_; have NB335_M := n89_; clear n0_ n1_ n2_ n3_ n4_ n5_ n6_ n7_ n8_ n29_ n79_ n89_; clear hb hbox hg; have hnb18 := NB335_324.out; have hnc18 := NB324_335.out; have hcz19_0 : w17.cell? ⟨gb335, 0, none⟩ = some (.slice none 0 0) := (bC_ BK335.out 0).trans rfl; have hfz19_0 := bF_ BK335.out 0; obtain ⟨Ao20, co20, eo20⟩ := kS_ HO334.out; subst eo20))
    go_loopg [41] k1 (fun kq v41 w' => ∃ (x41_2 : Int) (x336000_2 : List (S65)) (u336000 : Value), v41 = .int .i64 x41_2 ∧ Aside0 (impl_trieOf.l2 kq l0 t332 (t332.length : Int) x41_2 x336000_2 = some r) ∧ Aside0 (kq ≤ k1) ∧ Aside0 (Kd.R Kd.string 9 w' w.heap.size (fun _ => True) (.slice Ao20 t332.length co20) t332) ∧ Aside0 (Kd.R k65 65 w' w.heap.size (fun _ => True) u336000 x336000_2) ∧ Aside0 (w'.heap[gb324]? = some (.cells #[(.slice none 0 0)] 30 (0, 0))) ∧ Aside0 (w'.heap[gb335]? = some (.cells #[u336000] 30 (0, 0))) ∧ Aside0 (Below w.heap.size w w') ∧ Aside0 (SM.Is w' gbM (List.take ((x41_2 : Int).toNat) t332)))
    case atStart => exact ⟨(0), (([] : List (S65))), (.slice none 0 0), (by rfl), H', ⟨Nat.le_refl _⟩, ⟨by exact kM_ (kF_ (p := ⟨gb335, 0, none⟩) (kT_ HO334.out BK335.out (by decide)) (fun _ hk => hk.2) (.slice none 0 0)) (fun _ hk => trivial)⟩, ⟨by exact Kd.R_nil _ _ _ _ _⟩, ⟨by refine bR_ ?_ NB324_335.out _; exact BK324.out⟩, ⟨by refine bP_ (cs := #[.slice none 0 0]) ?_ 0 _ rfl; exact BK335.out⟩, ⟨by repeat (first | (with_reducible first | exact HB.out | apply bA_ | apply bN_ | apply bD_ | refine bS_ ?_ GE324.out | refine bS_ ?_ GE335.out) | exact HB.out)⟩, ⟨(by (with_reducible repeat (first | refine SM.Is.drewN ?_ _ | refine SM.Is.drew ?_ | refine SM.Is.alloc ?_ _)); refine SM.Is.far ?_ NBM_335.out _; (with_reducible repeat (first | refine SM.Is.drewN ?_ _ | refine SM.Is.drew ?_ | refine SM.Is.alloc ?_ _)); exact BKM.out : SM.Is _ gbM [])⟩⟩
    case round =>
     clear H'
     try clear p2
     try clear p3
     try clear q3
     try clear hx3
     try clear c5b0
     try clear c6b0
     try clear p6
     try clear c7b0
     try clear c8b0
     try clear c10b0
     try clear c10b1
     try clear c11b0
     try clear c11b1
     try clear hcz19_0
     try clear hfz19_0
     try clear hx328_0
     try clear p2
     try clear p3
     try clear p328
     try clear q3
     try clear q328
     obtain ⟨x41_2, x336000_2, u336000, rfl, HA, HK2, HO_39, HO_336000, BK324, BK335, HB, BKM0⟩ := hrel
     obtain ⟨lm, hlm⟩ : ∃ l_ : List ByteArray, l_ = List.take ((x41_2 : Int).toNat) t332 := ⟨_, rfl⟩
     have BKM : Aside0 (SM.Is wr gbM lm) := ⟨by rw [hlm]; exact BKM0.out⟩
     clear BKM0
     have HLM := aM_ hlm
     clear hlm
     cases gk with
     | zero => exact absurd HA.out (by simp [impl_trieOf.l2])
     | succ k2 =>
      have H := HA.out
      clear HA
      simp only [impl_trieOf.l2] at H
      by_cases c21 : x41_2 < (t332.length : Int)
      ·
       rw [if_pos c21] at H
       have c21b0 := decide_eq_true c21
       clear c21
       by_cases c22 : 0 ≤ x41_2
       ·
        rw [if_pos c22] at H
        have c22b0 := decide_eq_true c22
        clear c22
        by_cases c23 : x41_2 < (t332.length : Int)
        ·
         rw [if_pos c23] at H
         have c23b0 := decide_eq_true c23
         clear c23
         replace H := oB_.mp H
         obtain ⟨⟨t337, t338⟩, A240, H⟩ := H
         try dsimp only at H
         have A24 := aM_ A240
         clear A240
         by_cases c25 : (rdOf eB_ t332 x41_2).toList = ([] : List UInt8)
         ·
          rw [if_pos c25] at H
          have c25b0 : ((rdOf eB_ t332 x41_2).toList == ([] : List UInt8)) = true := beq_iff_eq.mpr c25
          have c25b1 : ((rdOf eB_ t332 x41_2).toList != ([] : List UInt8)) = false := bne_eq_false_iff_eq.mpr c25
          clear c25
          by_cases c26 : x336000_2.length < 5864062014805
          ·
           rw [if_pos c26] at H
           have LMc26 := aM_ c26
           clear c26
           obtain ⟨y340, hy340⟩ : ∃ y_ : List (S65), y_ = (x336000_2 ++ [(⟨(-1), (-1), t338⟩ : S65)]) := ⟨_, rfl⟩
           replace H : (impl_trieOf.l2 k2 l0 t332 (t332.length : Int) (wrap64 (x41_2 + 1)) y340) = some r := by first | (rw [hy340]; with_reducible exact H) | (have H2_ := (Option.bind_some _ _).symm.trans H; rw [hy340]; with_reducible exact H2_) | (have H2_ := (Option.bind_some _ _).symm.trans H; with_reducible exact H2_) | with_reducible exact H | (rw [hy340]; exact H) | exact H
           have Ny340 := aM_ hy340
           clear hy340
           have H' := aM_ H
           clear H
           have p336 : 0 ≤ (x41_2 : Int) := of_decide_eq_true (by (with_reducible assumption))
           have q336 : x41_2 < (t332.length : Int) := of_decide_eq_true (by (with_reducible assumption))
           have HLL := aM_ (show (lm.length : Int) = x41_2 from by rw [HLM.out, List.length_take]; omega)
           have HLL2 := aM_ (show lm.length < t332.length from by rw [HLM.out, List.length_take]; omega)
           have HLP := aM_ (SM.okL.size HSZ.out x41_2 p336 q336)
           have HLN := aM_ (show lm ++ [rdOf eB_ t332 x41_2] = List.take ((x41_2 : Int).toNat + 1) t332 from by rw [HLM.out]; exact SM.take_rd t332 x41_2 p336 q336)
           obtain ⟨ad336, e336, hx336_0⟩ := Kd.at_string (kR_ HO_39.out).2.2 x41_2 p336 q336
           cases e336
           replace p336 := eq_true p336
           replace q336 := eq_true q336
           go_wp2_with (first | (at_mapUpdate; refine SM.put rfl (.tmp 46) (.tmp 47) (.tmp 48) 82 Try.underlying82 rfl gbM lm rfl (by (with_reducible repeat (first | refine SM.Is.drewN ?_ _ | refine SM.Is.drew ?_ | refine SM.Is.alloc ?_ _)); exact BKM.out) ?hn (rdOf eB_ t332 x41_2) ?hp rfl ?hv ?_; (case hn => have h1_ := SM.okL.len HSZ.out; have h2_ := HLL2.out; omega); (case hp => have h1_ := HLP.out; unfold maxLen; omega); (case hv => exact (congrArg (Value.int IntKind.i64) HLL.out).symm); intro w9m h1m hgm; obtain ⟨lm2, hlm2⟩ : ∃ l_ : List ByteArray, l_ = lm ++ [rdOf eB_ t332 x41_2] := ⟨_, rfl⟩; rw [← hlm2] at h1m; have HLM2 := aM_ hlm2; clear hlm2; have nr0_ := aM_ (SM.R_over HO_39.out (by (with_reducible repeat (first | refine SM.Is.drewN ?_ _ | refine SM.Is.drew ?_ | refine SM.Is.alloc ?_ _)); exact BKM.out) hgm); have nr1_ := aM_ (SM.R_over HO_336000.out (by (with_reducible repeat (first | refine SM.Is.drewN ?_ _ | refine SM.Is.drew ?_ | refine SM.Is.alloc ?_ _)); exact BKM.out) hgm); have nb_ := aM_ (blk_grown (g := gb324) (o := .cells #[.slice none 0 0] 30 (0, 0)) BK324.out hgm (fun e_ => NBM_324.out (Option.some.inj e_).symm)); have nt_ := aM_ (blk_grown (g := gb335) BK335.out hgm (fun e_ => NBM_335.out (Option.some.inj e_).symm)); have nh_ := aM_ (RowKit.Below.grown HB.out hgm (bZ_ HB.out) (fun j hj => by cases hj; exact GEM.out)); clear HO_39 HO_336000 BK324 BK335 HB BKM; have HO_39 := nr0_; clear nr0_; have HO_336000 := nr1_; clear nr1_; have BK324 := nb_; have BK335 := nt_; have HB := nh_; have BKM := aM_ h1m; clear nb_ nt_ nh_ h1m hgm) | ((with_reducible refine gC_ (f := 66) rfl ?_); refine goesL_ (some 52) rfl rfl Try.func66 (by kernel_rfl) rfl #[.slice A0 l0.length c0, .string (rdOf eB_ t332 x41_2)] rfl (by (try simp only [sD_, sE_, sF_]); rfl) ?_; (with_reducible refine (slices_BinarySearch_string_string.calls k2 _ _ l0 (rdOf eB_ t332 x41_2) t337 t338 _ ?side1 ?side2 A24.out).mono ?_); (case side1 => repeat (first | exact (k4_ HR0.out HB.out) | (with_reducible refine Kd.C_alloc ?_ _) | (with_reducible refine Kd.C_drewN ?_ _) | (with_reducible refine Kd.C_drew ?_))); (case side2 => exact HC0.out); rintro e w' ⟨rfl, ⟨nd, rfl⟩⟩; refine ⟨_, rfl, ?_⟩; (try (rw [drewN_self wr]; generalize hq_ : World.drewN wr _ = wr; have n0_ : Aside0 (Kd.R k65 65 wr w.heap.size (fun _ => True) u336000 x336000_2) := ⟨by rw [← hq_]; exact (by (with_reducible repeat (first | apply k1_ | apply k2_ | apply k3_)); exact HO_336000.out)⟩; have n1_ : Aside0 (Kd.R Kd.string 9 wr w.heap.size (fun _ => True) (.slice (some ad336) t332.length co20) t332) := ⟨by rw [← hq_]; exact (by (with_reducible repeat (first | apply k1_ | apply k2_ | apply k3_)); exact HO_39.out)⟩; have n2_ : Aside0 (wr.heap[gb324]? = some (.cells #[.slice none 0 0] 30 (0, 0))) := ⟨by rw [← hq_]; exact (by (with_reducible repeat (first | refine b2_ ?_ _ | refine b1_ ?_ | refine b3_ ?_ _)); exact BK324.out)⟩; have n29_ : Aside0 (SM.Is wr gbM lm2) := ⟨by rw [← hq_]; exact (by (with_reducible repeat (first | refine SM.Is.drewN ?_ _ | refine SM.Is.drew ?_ | refine SM.Is.alloc ?_ _)); exact BKM.out)⟩; have n3_ : Aside0 (wr.heap[gb335]? = some (.cells #[u336000] 30 (0, 0))) := ⟨by rw [← hq_]; exact (by (with_reducible repeat (first | refine b2_ ?_ _ | refine b1_ ?_ | refine b3_ ?_ _)); exact BK335.out)⟩; have n4_ : Aside0 (Below w.heap.size w wr) := ⟨by rw [← hq_]; exact (by repeat (first | (with_reducible first | exact HB.out | apply bA_ | apply bN_ | apply bD_ | refine bS_ ?_ GE324.out | refine bS_ ?_ GE335.out) | exact HB.out))⟩; clear HO_336000 HO_39 BKM BK324 BK335 HB hq_; have HO_336000 := n0_; have HO_39 := n1_; have BK324 := n2_; have BKM := n29_; have BK335 := n3_; have HB := n4_; clear n0_ n1_ n2_ n3_ n4_ n29_))) | ((with_reducible refine gD_ (N := 13) rfl ?_); refine bE_ ?hg (N := 13) ?hd (cs := #[.int .i64 0, .int .i64 0, .bool false]) (t := 65) ?hr ?_; (case hd => rfl); (case hg => rfl); (case hr => (go_simp; done)); intro gb339 hg w27 hbox hb; have n0_ := aM_ (kB_ (by (with_reducible repeat (first | apply k1_ | apply k2_ | apply k3_)); exact HO_39.out) hb); have n1_ := aM_ (kB_ (Kd.R_elderB (by (with_reducible repeat (first | apply k1_ | apply k2_ | apply k3_)); exact HO_336000.out) gb339 (Nat.le_of_eq hg.symm)) hb); have n2_ := aM_ (bB_ (g := gb324) (o := .cells #[.slice none 0 0] 30 (0, 0)) (by (with_reducible repeat (first | refine b2_ ?_ _ | refine b1_ ?_ | refine b3_ ?_ _)); exact BK324.out) hb); have n29_ := aM_ (SM.Is.below (l := lm2) (by (with_reducible repeat (first | refine SM.Is.drewN ?_ _ | refine SM.Is.drew ?_ | refine SM.Is.alloc ?_ _)); exact BKM.out) hb); have n3_ := aM_ (bB_ (g := gb335) (o := .cells #[u336000] 30 (0, 0)) (by (with_reducible repeat (first | refine b2_ ?_ _ | refine b1_ ?_ | refine b3_ ?_ _)); exact BK335.out) hb); have n4_ := aM_ (bT_ (by repeat (first | (with_reducible first | exact HB.out | apply bA_ | apply bN_ | apply bD_ | refine bS_ ?_ GE324.out | refine bS_ ?_ GE335.out) | exact HB.out)) hb); have n5_ := aM_ (hbox); have n6_ := aM_ ((by rw [hg]; exact (bZ_ (by repeat (first | (with_reducible first | exact HB.out | apply bA_ | apply bN_ | apply bD_ | refine bS_ ?_ GE324.out | refine bS_ ?_ GE335.out) | exact HB.out))) : w.heap.size ≤ gb339)); have n7_ := aM_ ((by rw [hg]; exact (bZ_ (by repeat (first | (with_reducible first | exact HB.out | apply bA_ | apply bN_ | apply bD_ | refine bS_ ?_ GE324.out | refine bS_ ?_ GE335.out) | exact HB.out))) : w.heap.size ≤ gb339)); have n8_ := aM_ ((by rw [hg]; exact Nat.ne_of_lt (bL_ (g := gb324) (o := .cells #[.slice none 0 0] 30 (0, 0)) (by (with_reducible repeat (first | refine b2_ ?_ _ | refine b1_ ?_ | refine b3_ ?_ _)); exact BK324.out)) : gb324 ≠ gb339)); have n89_ := aM_ ((by rw [hg]; exact Nat.ne_of_lt (SM.Is.lt (l := lm2) (by (with_reducible repeat (first | refine SM.Is.drewN ?_ _ | refine SM.Is.drew ?_ | refine SM.Is.alloc ?_ _)); exact BKM.out)) : gbM ≠ gb339)); have n9_ := aM_ ((by rw [hg]; exact Nat.ne_of_gt (bL_ (g := gb324) (o := .cells #[.slice none 0 0] 30 (0, 0)) (by (with_reducible repeat (first | refine b2_ ?_ _ | refine b1_ ?_ | refine b3_ ?_ _)); exact BK324.out)) : gb339 ≠ gb324)); have n99_ := aM_ ((by rw [hg]; exact Nat.ne_of_gt (SM.Is.lt (l := lm2) (by (with_reducible repeat (first | refine SM.Is.drewN ?_ _ | refine SM.Is.drew ?_ | refine SM.Is.alloc ?_ _)); exact BKM.out)) : gb339 ≠ gbM)); have n10_ := aM_ ((by rw [hg]; exact Nat.ne_of_lt (bL_ (g := gb335) (o := .cells #[u336000] 30 (0, 0)) (by (with_reducible repeat (first | refine b2_ ?_ _ | refine b1_ ?_ | refine b3_ ?_ _)); exact BK335.out)) : gb335 ≠ gb339)); have n11_ := aM_ ((by rw [hg]; exact Nat.ne_of_gt (bL_ (g := gb335) (o := .cells #[u336000] 30 (0, 0)) (by (with_reducible repeat (first | refine b2_ ?_ _ | refine b1_ ?_ | refine b3_ ?_ _)); exact BK335.out)) : gb339 ≠ gb335)); clear HO_39; clear HO_336000; clear BKM; clear BK324; clear BK335; clear HB; have HO_39 := n0_; have HO_336000 := n1_; have BK324 := n2_; have BKM := n29_; have BK335 := n3_; have HB := n4_; have BK339 := n5_; have GW339 := n6_; have GE339 := n7_; have NB324_339 := n8_; have NBM_339 := n89_; have NB339_324 := n9_; have NB339_M := n99_; have NB335_339 := n10_; have NB339_335 := n11_; clear n0_ n1_ n2_ n3_ n4_ n5_ n6_ n7_ n8_ n9_ n10_ n11_ n29_ n89_ n99_; clear hb hbox hg; have hnb28 := NB339_324.out; have hnc28 := NB324_339.out; have hnb29 := NB339_335.out; have hnc29 := NB335_339.out; have hcz30_0 : w27.cell? ⟨gb339, 0, none⟩ = some (.int .i64 0) := (bC_ BK339.out 0).trans rfl; have hcz30_1 : w27.cell? ⟨gb339, 1, none⟩ = some (.int .i64 0) := (bC_ BK339.out 1).trans rfl; have hcz30_2 : w27.cell? ⟨gb339, 2, none⟩ = some (.bool false) := (bC_ BK339.out 2).trans rfl; have hfz30_0 := bF_ BK339.out 0; have hfz30_1 := bF_ BK339.out 1; have hfz30_2 := bF_ BK339.out 2; have hnb31 := NB335_324.out; have hnc31 := NB324_335.out; have hcz32_0 : w27.cell? ⟨gb335, 0, none⟩ = some (u336000) := (bC_ BK335.out 0).trans rfl; have hfz32_0 := bF_ BK335.out 0) | ((with_reducible refine gate_builtin (b := .append) (xs := #[.tmp 76, .tmp 78]) rfl ?_); at_builtin; refine Kd.R_append k65 (w0 := w) w.heap.size rfl (.tmp 76) (.tmp 78) 28 65 (.agg #[(.int .i64 0), (.int .i64 0), (.bool false)]) 24 rfl Try.underlying28 info65 rfl (by decide) (by omega) u336000 x336000_2 (⟨(-1), (-1), t338⟩ : S65) [.int .i64 (-1), .int .i64 (-1), .bool t338] (fun k_ => k_ ≠ gb339) (fun _ => False) rfl (by (go_simp; done)) ?aP (fun _ hk => hk.elim) ?aF ?aO ?aB ?aS ?aL ?_; (case aP => exact k65_mkM _ _ _ (⟨(-1), (-1), t338⟩ : S65)); (case aB => exact (by repeat (first | (with_reducible first | exact HB.out | apply bA_ | apply bN_ | apply bD_ | refine bS_ ?_ GE324.out | refine bS_ ?_ GE335.out | refine bS_ ?_ GE339.out) | exact HB.out))); (case aF => exact (fun k_ hk => Kd.freshB (g := gb339) (o := .cells #[.int .i64 (-1), .int .i64 (-1), .bool t338] 65 (0, 0)) (by refine bP_ (cs := #[.int .i64 (-1), .int .i64 (-1), .bool false]) ?_ 2 _ rfl; refine bP_ (cs := #[.int .i64 (-1), .int .i64 0, .bool false]) ?_ 1 _ rfl; refine bP_ (cs := #[.int .i64 0, .int .i64 0, .bool false]) ?_ 0 _ rfl; exact BK339.out) k_ hk)); (case aO => exact (by exact kM_ (kF_ (p := ⟨gb339, 2, none⟩) (kF_ (p := ⟨gb339, 1, none⟩) (kF_ (p := ⟨gb339, 0, none⟩) (kM_ HO_336000.out (fun k_ hk => (⟨hk, hk.2⟩ : _ ∧ k_ ≠ gb339))) (fun _ hk => hk.2) (.int .i64 (-1))) (fun _ hk => hk.2) (.int .i64 (-1))) (fun _ hk => hk.2) (.bool t338)) (fun _ hk => hk.1.2))); (case aS => exact (bZ_ (by repeat (first | (with_reducible first | exact HB.out | apply bA_ | apply bN_ | apply bD_ | refine bS_ ?_ GE324.out | refine bS_ ?_ GE335.out | refine bS_ ?_ GE339.out) | exact HB.out)))); (case aL => have := LMc26.out; omega); intro v341 w33 ho hb hg hat; rw [← Ny340.out] at ho; have n0_ := aM_ (Kd.R_over' (by exact (kM_ (kF_ (p := ⟨gb339, 2, none⟩) (kF_ (p := ⟨gb339, 1, none⟩) (kF_ (p := ⟨gb339, 0, none⟩) (kT_ HO_39.out BK339.out (by decide)) (fun _ hk => hk.2) (.int .i64 (-1))) (fun _ hk => hk.2) (.int .i64 (-1))) (fun _ hk => hk.2) (.bool t338)) (fun _ h_ => h_.1))) (Kd.R_typed (by exact (kM_ (kF_ (p := ⟨gb339, 2, none⟩) (kF_ (p := ⟨gb339, 1, none⟩) (kF_ (p := ⟨gb339, 0, none⟩) (kM_ HO_336000.out (fun k_ hk => (⟨hk, hk.2⟩ : _ ∧ k_ ≠ gb339))) (fun _ hk => hk.2) (.int .i64 (-1))) (fun _ hk => hk.2) (.int .i64 (-1))) (fun _ hk => hk.2) (.bool t338)) (fun _ h_ => h_.1)))) (by decide) hg); have n1_ := aM_ (blk_grown (g := gb324) (o := .cells #[.slice none 0 0] 30 (0, 0)) (by refine bR_ ?_ NB324_339.out _; refine bR_ ?_ NB324_339.out _; refine bR_ ?_ NB324_339.out _; exact BK324.out) hg (k6_ HO_336000.out BK324.out (by decide))); have n19_ := aM_ (SM.Is.grown (l := lm2) (by (with_reducible repeat (first | refine SM.Is.drewN ?_ _ | refine SM.Is.drew ?_ | refine SM.Is.alloc ?_ _)); refine SM.Is.far ?_ NBM_339.out _; (with_reducible repeat (first | refine SM.Is.drewN ?_ _ | refine SM.Is.drew ?_ | refine SM.Is.alloc ?_ _)); refine SM.Is.far ?_ NBM_339.out _; (with_reducible repeat (first | refine SM.Is.drewN ?_ _ | refine SM.Is.drew ?_ | refine SM.Is.alloc ?_ _)); refine SM.Is.far ?_ NBM_339.out _; (with_reducible repeat (first | refine SM.Is.drewN ?_ _ | refine SM.Is.drew ?_ | refine SM.Is.alloc ?_ _)); exact BKM.out) hg (SM.Is.ne BKM.out HO_336000.out)); have n2_ := aM_ (blk_grown (g := gb335) (o := .cells #[u336000] 30 (0, 0)) (by refine bR_ ?_ NB335_339.out _; refine bR_ ?_ NB335_339.out _; refine bR_ ?_ NB335_339.out _; exact BK335.out) hg (k6_ HO_336000.out BK335.out (by decide))); have n3_ := aM_ (blk_grown (g := gb339) (o := .cells #[.int .i64 (-1), .int .i64 (-1), .bool t338] 65 (0, 0)) (by refine bP_ (cs := #[.int .i64 (-1), .int .i64 (-1), .bool false]) ?_ 2 _ rfl; refine bP_ (cs := #[.int .i64 (-1), .int .i64 0, .bool false]) ?_ 1 _ rfl; refine bP_ (cs := #[.int .i64 0, .int .i64 0, .bool false]) ?_ 0 _ rfl; exact BK339.out) hg (Kd.R_away HO_336000.out (fun _ hk => hk.2))); have n4_ := aM_ (hb); have n5_ := aM_ (ho); clear HO_39; clear BKM; clear BK324; clear BK335; clear BK339; clear HB; clear HO_336000; have HO_39 := n0_; have BK324 := n1_; have BKM := n19_; have BK335 := n2_; have BK339 := n3_; have HB := n4_; have HO342 := n5_; clear n0_ n1_ n2_ n3_ n4_ n5_ n19_; clear ho hb hg hat; obtain ⟨Ao34, co34, eo34⟩ := kS_ HO342.out; subst eo34; have hcz35_0 : w33.cell? ⟨gb335, 0, none⟩ = some (u336000) := (bC_ BK335.out 0).trans rfl; have hfz35_0 := bF_ BK335.out 0))
           go_roundg k2
           case measure => have := HK1.out; have := HK2.out; omega
           case rel => exact ⟨(wrap64 (x41_2 + 1)), (y340), (.slice Ao34 y340.length co34), (by rfl), H', ⟨by have := HK1.out; have := HK2.out; omega⟩, ⟨by exact kM_ (kF_ (p := ⟨gb335, 0, none⟩) (kT_ HO_39.out BK335.out (by decide)) (fun _ hk => hk.2) (.slice Ao34 y340.length co34)) (fun _ hk => trivial)⟩, ⟨by exact kM_ (kF_ (p := ⟨gb335, 0, none⟩) (kT_ HO342.out BK335.out (by decide)) (fun _ hk => hk.2) (.slice Ao34 y340.length co34)) (fun _ hk => trivial)⟩, ⟨by refine bR_ ?_ NB324_335.out _; exact BK324.out⟩, ⟨by refine bP_ (cs := #[u336000]) ?_ 0 _ rfl; exact BK335.out⟩, ⟨by repeat (first | (with_reducible first | exact HB.out | apply bA_ | apply bN_ | apply bD_ | refine bS_ ?_ GE324.out | refine bS_ ?_ GE335.out | refine bS_ ?_ GE339.out) | exact HB.out)⟩, ⟨by rw [SM.next_rd t332 x41_2 lm2 HLM2.out HLN.out HLL.out HLL2.out HSZ.out]; (with_reducible repeat (first | refine SM.Is.drewN ?_ _ | refine SM.Is.drew ?_ | refine SM.Is.alloc ?_ _)); refine SM.Is.far ?_ NBM_335.out _; (with_reducible repeat (first | refine SM.Is.drewN ?_ _ | refine SM.Is.drew ?_ | refine SM.Is.alloc ?_ _)); exact BKM.out⟩⟩
          ·
           rw [if_neg c26] at H
           exact absurd H (by simp)
         ·
          rw [if_neg c25] at H
          have c25b0 : ((rdOf eB_ t332 x41_2).toList == ([] : List UInt8)) = false := beq_eq_false_iff_ne.mpr c25
          have c25b1 : ((rdOf eB_ t332 x41_2).toList != ([] : List UInt8)) = true := bne_iff_ne.mpr c25
          obtain ⟨ji36, hji36⟩ : ∃ j_ : Int, (wrap64 (((rdOf eB_ t332 x41_2).size : Int) - 1)) = j_ := ⟨_, rfl⟩
          replace H : (if 0 ≤ (ji36) then (if (ji36) < ((rdOf eB_ t332 x41_2).size : Int) then (if (ji36) ≤ ((rdOf eB_ t332 x41_2).size : Int) then (if x336000_2.length < 5864062014805 then (impl_trieOf.l2 k2 l0 t332 (t332.length : Int) (wrap64 (x41_2 + 1)) (x336000_2 ++ [(⟨((bt (rdOf eB_ t332 x41_2) (ji36)) - 97) % 256, SM.at_ (List.take ((x41_2 : Int).toNat + 1) t332) ((rdOf eB_ t332 x41_2).extract 0 ((ji36) : Int).toNat), t338⟩ : S65)])) else (none)) else (none)) else (none)) else (none)) = some r := by first | (rw [hji36] at H; exact H) | (simp only [hji36] at H ⊢; exact H)
          (try rw [hji36] at A24)
          have hji36w : (IntKind.i64.wrap (((rdOf eB_ t332 x41_2).size : Int) - 1)) = ji36 := (i6_ _).trans hji36
          obtain ⟨mv, hmv⟩ : ∃ m_ : Int, SM.at_ (List.take ((x41_2 : Int).toNat + 1) t332) ((rdOf eB_ t332 x41_2).extract 0 ((ji36) : Int).toNat) = m_ := ⟨_, rfl⟩
          rw [hmv] at H
          have HMV := aM_ hmv
          clear hmv
          by_cases c37 : 0 ≤ (ji36)
          ·
           rw [if_pos c37] at H
           have c37b0 := decide_eq_true c37
           clear c37
           by_cases c38 : (ji36) < ((rdOf eB_ t332 x41_2).size : Int)
           ·
            rw [if_pos c38] at H
            have c38b0 := decide_eq_true c38
            clear c38
            have c40b0 := eq_true (of_decide_eq_true (by (with_reducible assumption)) : 0 ≤ (ji36))
            by_cases c41 : (ji36) ≤ ((rdOf eB_ t332 x41_2).size : Int)
            ·
             rw [if_pos c41] at H
             have c41b0 := eq_true c41
             have c41b1 := decide_eq_true c41
             clear c41
             by_cases c42 : x336000_2.length < 5864062014805
             ·
              rw [if_pos c42] at H
              have LMc42 := aM_ c42
              clear c42
              obtain ⟨y343, hy343⟩ : ∃ y_ : List (S65), y_ = (x336000_2 ++ [(⟨((bt (rdOf eB_ t332 x41_2) (ji36)) - 97) % 256, mv, t338⟩ : S65)]) := ⟨_, rfl⟩
              replace H : (impl_trieOf.l2 k2 l0 t332 (t332.length : Int) (wrap64 (x41_2 + 1)) y343) = some r := by first | (rw [hy343]; with_reducible exact H) | (have H2_ := (Option.bind_some _ _).symm.trans H; rw [hy343]; with_reducible exact H2_) | (have H2_ := (Option.bind_some _ _).symm.trans H; with_reducible exact H2_) | with_reducible exact H | (rw [hy343]; exact H) | exact H
              have Ny343 := aM_ hy343
              clear hy343
              have H' := aM_ H
              clear H
              have p336 : 0 ≤ (x41_2 : Int) := of_decide_eq_true (by (with_reducible assumption))
              have q336 : x41_2 < (t332.length : Int) := of_decide_eq_true (by (with_reducible assumption))
              have HLL := aM_ (show (lm.length : Int) = x41_2 from by rw [HLM.out, List.length_take]; omega)
              have HLL2 := aM_ (show lm.length < t332.length from by rw [HLM.out, List.length_take]; omega)
              have HLP := aM_ (SM.okL.size HSZ.out x41_2 p336 q336)
              have HLN := aM_ (show lm ++ [rdOf eB_ t332 x41_2] = List.take ((x41_2 : Int).toNat + 1) t332 from by rw [HLM.out]; exact SM.take_rd t332 x41_2 p336 q336)
              have hwz_ : wrap64 ((bt (rdOf eB_ t332 x41_2) ji36 - 97) % 256) = (bt (rdOf eB_ t332 x41_2) ji36 - 97) % 256 := by unfold wrap64; omega
              obtain ⟨ad336, e336, hx336_0⟩ := Kd.at_string (kR_ HO_39.out).2.2 x41_2 p336 q336
              cases e336
              replace p336 := eq_true p336
              replace q336 := eq_true q336
              try go_wp2_with (first | (at_mapUpdate; refine SM.put rfl (.tmp 46) (.tmp 47) (.tmp 48) 82 Try.underlying82 rfl gbM lm rfl (by (with_reducible repeat (first | refine SM.Is.drewN ?_ _ | refine SM.Is.drew ?_ | refine SM.Is.alloc ?_ _)); exact BKM.out) ?hn (rdOf eB_ t332 x41_2) ?hp rfl ?hv ?_; (case hn => have h1_ := SM.okL.len HSZ.out; have h2_ := HLL2.out; omega); (case hp => have h1_ := HLP.out; unfold maxLen; omega); (case hv => exact (congrArg (Value.int IntKind.i64) HLL.out).symm); intro w9m h1m hgm; obtain ⟨lm2, hlm2⟩ : ∃ l_ : List ByteArray, l_ = lm ++ [rdOf eB_ t332 x41_2] := ⟨_, rfl⟩; rw [← hlm2] at h1m; have HLM2 := aM_ hlm2; clear hlm2; have nr0_ := aM_ (SM.R_over HO_39.out (by (with_reducible repeat (first | refine SM.Is.drewN ?_ _ | refine SM.Is.drew ?_ | refine SM.Is.alloc ?_ _)); exact BKM.out) hgm); have nr1_ := aM_ (SM.R_over HO_336000.out (by (with_reducible repeat (first | refine SM.Is.drewN ?_ _ | refine SM.Is.drew ?_ | refine SM.Is.alloc ?_ _)); exact BKM.out) hgm); have nb_ := aM_ (blk_grown (g := gb324) (o := .cells #[.slice none 0 0] 30 (0, 0)) BK324.out hgm (fun e_ => NBM_324.out (Option.some.inj e_).symm)); have nt_ := aM_ (blk_grown (g := gb335) BK335.out hgm (fun e_ => NBM_335.out (Option.some.inj e_).symm)); have nh_ := aM_ (RowKit.Below.grown HB.out hgm (bZ_ HB.out) (fun j hj => by cases hj; exact GEM.out)); clear HO_39 HO_336000 BK324 BK335 HB BKM; have HO_39 := nr0_; clear nr0_; have HO_336000 := nr1_; clear nr1_; have BK324 := nb_; have BK335 := nt_; have HB := nh_; have BKM := aM_ h1m; clear nb_ nt_ nh_ h1m hgm) | ((with_reducible refine gC_ (f := 66) rfl ?_); refine goesL_ (some 52) rfl rfl Try.func66 (by kernel_rfl) rfl #[.slice A0 l0.length c0, .string (rdOf eB_ t332 x41_2)] rfl (by (try simp only [sD_, sE_, sF_]); rfl) ?_; (with_reducible refine (slices_BinarySearch_string_string.calls k2 _ _ l0 (rdOf eB_ t332 x41_2) t337 t338 _ ?side1 ?side2 A24.out).mono ?_); (case side1 => repeat (first | exact (k4_ HR0.out HB.out) | (with_reducible refine Kd.C_alloc ?_ _) | (with_reducible refine Kd.C_drewN ?_ _) | (with_reducible refine Kd.C_drew ?_))); (case side2 => exact HC0.out); rintro e w' ⟨rfl, ⟨nd, rfl⟩⟩; refine ⟨_, rfl, ?_⟩; (try (rw [drewN_self wr]; generalize hq_ : World.drewN wr _ = wr; have n0_ : Aside0 (Kd.R k65 65 wr w.heap.size (fun _ => True) u336000 x336000_2) := ⟨by rw [← hq_]; exact (by (with_reducible repeat (first | apply k1_ | apply k2_ | apply k3_)); exact HO_336000.out)⟩; have n1_ : Aside0 (Kd.R Kd.string 9 wr w.heap.size (fun _ => True) (.slice (some ad336) t332.length co20) t332) := ⟨by rw [← hq_]; exact (by (with_reducible repeat (first | apply k1_ | apply k2_ | apply k3_)); exact HO_39.out)⟩; have n2_ : Aside0 (wr.heap[gb324]? = some (.cells #[.slice none 0 0] 30 (0, 0))) := ⟨by rw [← hq_]; exact (by (with_reducible repeat (first | refine b2_ ?_ _ | refine b1_ ?_ | refine b3_ ?_ _)); exact BK324.out)⟩; have n29_ : Aside0 (SM.Is wr gbM lm2) := ⟨by rw [← hq_]; exact (by (with_reducible repeat (first | refine SM.Is.drewN ?_ _ | refine SM.Is.drew ?_ | refine SM.Is.alloc ?_ _)); exact BKM.out)⟩; have n3_ : Aside0 (wr.heap[gb335]? = some (.cells #[u336000] 30 (0, 0))) := ⟨by rw [← hq_]; exact (by (with_reducible repeat (first | refine b2_ ?_ _ | refine b1_ ?_ | refine b3_ ?_ _)); exact BK335.out)⟩; have n4_ : Aside0 (Below w.heap.size w wr) := ⟨by rw [← hq_]; exact (by repeat (first | (with_reducible first | exact HB.out | apply bA_ | apply bN_ | apply bD_ | refine bS_ ?_ GE324.out | refine bS_ ?_ GE335.out) | exact HB.out))⟩; clear HO_336000 HO_39 BKM BK324 BK335 HB hq_; have HO_336000 := n0_; have HO_39 := n1_; have BK324 := n2_; have BKM := n29_; have BK335 := n3_; have HB := n4_; clear n0_ n1_ n2_ n3_ n4_ n29_))) | ((with_reducible refine gD_ (N := 13) rfl ?_); refine bE_ ?hg (N := 13) ?hd (cs := #[.int .i64 0, .int .i64 0, .bool false]) (t := 65) ?hr ?_; (case hd => rfl); (case hg => rfl); (case hr => (go_simp; done)); intro gb339 hg w43 hbox hb; have n0_ := aM_ (kB_ (by (with_reducible repeat (first | apply k1_ | apply k2_ | apply k3_)); exact HO_39.out) hb); have n1_ := aM_ (kB_ (Kd.R_elderB (by (with_reducible repeat (first | apply k1_ | apply k2_ | apply k3_)); exact HO_336000.out) gb339 (Nat.le_of_eq hg.symm)) hb); have n2_ := aM_ (bB_ (g := gb324) (o := .cells #[.slice none 0 0] 30 (0, 0)) (by (with_reducible repeat (first | refine b2_ ?_ _ | refine b1_ ?_ | refine b3_ ?_ _)); exact BK324.out) hb); have n29_ := aM_ (SM.Is.below (l := lm2) (by (with_reducible repeat (first | refine SM.Is.drewN ?_ _ | refine SM.Is.drew ?_ | refine SM.Is.alloc ?_ _)); exact BKM.out) hb); have n3_ := aM_ (bB_ (g := gb335) (o := .cells #[u336000] 30 (0, 0)) (by (with_reducible repeat (first | refine b2_ ?_ _ | refine b1_ ?_ | refine b3_ ?_ _)); exact BK335.out) hb); have n4_ := aM_ (bT_ (by repeat (first | (with_reducible first | exact HB.out | apply bA_ | apply bN_ | apply bD_ | refine bS_ ?_ GE324.out | refine bS_ ?_ GE335.out) | exact HB.out)) hb); have n5_ := aM_ (hbox); have n6_ := aM_ ((by rw [hg]; exact (bZ_ (by repeat (first | (with_reducible first | exact HB.out | apply bA_ | apply bN_ | apply bD_ | refine bS_ ?_ GE324.out | refine bS_ ?_ GE335.out) | exact HB.out))) : w.heap.size ≤ gb339)); have n7_ := aM_ ((by rw [hg]; exact (bZ_ (by repeat (first | (with_reducible first | exact HB.out | apply bA_ | apply bN_ | apply bD_ | refine bS_ ?_ GE324.out | refine bS_ ?_ GE335.out) | exact HB.out))) : w.heap.size ≤ gb339)); have n8_ := aM_ ((by rw [hg]; exact Nat.ne_of_lt (bL_ (g := gb324) (o := .cells #[.slice none 0 0] 30 (0, 0)) (by (with_reducible repeat (first | refine b2_ ?_ _ | refine b1_ ?_ | refine b3_ ?_ _)); exact BK324.out)) : gb324 ≠ gb339)); have n89_ := aM_ ((by rw [hg]; exact Nat.ne_of_lt (SM.Is.lt (l := lm2) (by (with_reducible repeat (first | refine SM.Is.drewN ?_ _ | refine SM.Is.drew ?_ | refine SM.Is.alloc ?_ _)); exact BKM.out)) : gbM ≠ gb339)); have n9_ := aM_ ((by rw [hg]; exact Nat.ne_of_gt (bL_ (g := gb324) (o := .cells #[.slice none 0 0] 30 (0, 0)) (by (with_reducible repeat (first | refine b2_ ?_ _ | refine b1_ ?_ | refine b3_ ?_ _)); exact BK324.out)) : gb339 ≠ gb324)); have n99_ := aM_ ((by rw [hg]; exact Nat.ne_of_gt (SM.Is.lt (l := lm2) (by (with_reducible repeat (first | refine SM.Is.drewN ?_ _ | refine SM.Is.drew ?_ | refine SM.Is.alloc ?_ _)); exact BKM.out)) : gb339 ≠ gbM)); have n10_ := aM_ ((by rw [hg]; exact Nat.ne_of_lt (bL_ (g := gb335) (o := .cells #[u336000] 30 (0, 0)) (by (with_reducible repeat (first | refine b2_ ?_ _ | refine b1_ ?_ | refine b3_ ?_ _)); exact BK335.out)) : gb335 ≠ gb339)); have n11_ := aM_ ((by rw [hg]; exact Nat.ne_of_gt (bL_ (g := gb335) (o := .cells #[u336000] 30 (0, 0)) (by (with_reducible repeat (first | refine b2_ ?_ _ | refine b1_ ?_ | refine b3_ ?_ _)); exact BK335.out)) : gb339 ≠ gb335)); clear HO_39; clear HO_336000; clear BKM; clear BK324; clear BK335; clear HB; have HO_39 := n0_; have HO_336000 := n1_; have BK324 := n2_; have BKM := n29_; have BK335 := n3_; have HB := n4_; have BK339 := n5_; have GW339 := n6_; have GE339 := n7_; have NB324_339 := n8_; have NBM_339 := n89_; have NB339_324 := n9_; have NB339_M := n99_; have NB335_339 := n10_; have NB339_335 := n11_; clear n0_ n1_ n2_ n3_ n4_ n5_ n6_ n7_ n8_ n9_ n10_ n11_ n29_ n89_ n99_; clear hb hbox hg; have hnb44 := NB339_324.out; have hnc44 := NB324_339.out; have hnb45 := NB339_335.out; have hnc45 := NB335_339.out; have hcz46_0 : w43.cell? ⟨gb339, 0, none⟩ = some (.int .i64 0) := (bC_ BK339.out 0).trans rfl; have hcz46_1 : w43.cell? ⟨gb339, 1, none⟩ = some (.int .i64 0) := (bC_ BK339.out 1).trans rfl; have hcz46_2 : w43.cell? ⟨gb339, 2, none⟩ = some (.bool false) := (bC_ BK339.out 2).trans rfl; have hfz46_0 := bF_ BK339.out 0; have hfz46_1 := bF_ BK339.out 1; have hfz46_2 := bF_ BK339.out 2))
              have n0_ : Aside0 (Kd.R Kd.string 9 (((w43.setCell ⟨gb339, 0, none⟩ (.int .i64 (-1))).setCell ⟨gb339, 1, none⟩ (.int .i64 (-1))).setCell ⟨gb339, 2, none⟩ (.bool t338)) w.heap.size (fun _ => True) (.slice (some ad336) t332.length co20) t332) := ⟨by exact kM_ (kF_ (p := ⟨gb339, 2, none⟩) (kF_ (p := ⟨gb339, 1, none⟩) (kF_ (p := ⟨gb339, 0, none⟩) (kT_ HO_39.out BK339.out (by decide)) (fun _ hk => hk.2) (.int .i64 (-1))) (fun _ hk => hk.2) (.int .i64 (-1))) (fun _ hk => hk.2) (.bool t338)) (fun _ hk => trivial)⟩
              have n1_ : Aside0 (Kd.R k65 65 (((w43.setCell ⟨gb339, 0, none⟩ (.int .i64 (-1))).setCell ⟨gb339, 1, none⟩ (.int .i64 (-1))).setCell ⟨gb339, 2, none⟩ (.bool t338)) w.heap.size (fun k_ => k_ ≠ gb339) u336000 x336000_2) := ⟨by exact kM_ (kF_ (p := ⟨gb339, 2, none⟩) (kF_ (p := ⟨gb339, 1, none⟩) (kF_ (p := ⟨gb339, 0, none⟩) (kM_ HO_336000.out (fun k_ hk => (⟨hk, hk.2⟩ : _ ∧ k_ ≠ gb339))) (fun _ hk => hk.2) (.int .i64 (-1))) (fun _ hk => hk.2) (.int .i64 (-1))) (fun _ hk => hk.2) (.bool t338)) (fun _ hk => hk.1.2)⟩
              have n2_ : Aside0 ((((w43.setCell ⟨gb339, 0, none⟩ (.int .i64 (-1))).setCell ⟨gb339, 1, none⟩ (.int .i64 (-1))).setCell ⟨gb339, 2, none⟩ (.bool t338)).heap[gb324]? = some (.cells #[.slice none 0 0] 30 (0, 0))) := ⟨by refine bR_ ?_ NB324_339.out _; refine bR_ ?_ NB324_339.out _; refine bR_ ?_ NB324_339.out _; exact BK324.out⟩
              have n29_ : Aside0 (SM.Is (((w43.setCell ⟨gb339, 0, none⟩ (.int .i64 (-1))).setCell ⟨gb339, 1, none⟩ (.int .i64 (-1))).setCell ⟨gb339, 2, none⟩ (.bool t338)) gbM lm2) := ⟨by (with_reducible repeat (first | refine SM.Is.drewN ?_ _ | refine SM.Is.drew ?_ | refine SM.Is.alloc ?_ _)); refine SM.Is.far ?_ NBM_339.out _; (with_reducible repeat (first | refine SM.Is.drewN ?_ _ | refine SM.Is.drew ?_ | refine SM.Is.alloc ?_ _)); refine SM.Is.far ?_ NBM_339.out _; (with_reducible repeat (first | refine SM.Is.drewN ?_ _ | refine SM.Is.drew ?_ | refine SM.Is.alloc ?_ _)); refine SM.Is.far ?_ NBM_339.out _; (with_reducible repeat (first | refine SM.Is.drewN ?_ _ | refine SM.Is.drew ?_ | refine SM.Is.alloc ?_ _)); exact BKM.out⟩
              have n3_ : Aside0 ((((w43.setCell ⟨gb339, 0, none⟩ (.int .i64 (-1))).setCell ⟨gb339, 1, none⟩ (.int .i64 (-1))).setCell ⟨gb339, 2, none⟩ (.bool t338)).heap[gb335]? = some (.cells #[u336000] 30 (0, 0))) := ⟨by refine bR_ ?_ NB335_339.out _; refine bR_ ?_ NB335_339.out _; refine bR_ ?_ NB335_339.out _; exact BK335.out⟩
              have n4_ : Aside0 ((((w43.setCell ⟨gb339, 0, none⟩ (.int .i64 (-1))).setCell ⟨gb339, 1, none⟩ (.int .i64 (-1))).setCell ⟨gb339, 2, none⟩ (.bool t338)).heap[gb339]? = some (.cells #[.int .i64 (-1), .int .i64 (-1), .bool t338] 65 (0, 0))) := ⟨by refine bP_ (cs := #[.int .i64 (-1), .int .i64 (-1), .bool false]) ?_ 2 _ rfl; refine bP_ (cs := #[.int .i64 (-1), .int .i64 0, .bool false]) ?_ 1 _ rfl; refine bP_ (cs := #[.int .i64 0, .int .i64 0, .bool false]) ?_ 0 _ rfl; exact BK339.out⟩
              have n5_ : Aside0 (Below w.heap.size w (((w43.setCell ⟨gb339, 0, none⟩ (.int .i64 (-1))).setCell ⟨gb339, 1, none⟩ (.int .i64 (-1))).setCell ⟨gb339, 2, none⟩ (.bool t338))) := ⟨by repeat (first | (with_reducible first | exact HB.out | apply bA_ | apply bN_ | apply bD_ | refine bS_ ?_ GE324.out | refine bS_ ?_ GE335.out | refine bS_ ?_ GE339.out) | exact HB.out)⟩
              (try clear HO_39)
              (try clear HO_336000)
              (try clear BK324); (try clear BKM)
              (try clear BK335)
              (try clear BK339)
              (try clear HB)
              generalize (((w43.setCell ⟨gb339, 0, none⟩ (.int .i64 (-1))).setCell ⟨gb339, 1, none⟩ (.int .i64 (-1))).setCell ⟨gb339, 2, none⟩ (.bool t338)) = w47 at n0_ n1_ n2_ n3_ n4_ n5_ n29_ ⊢
              have HO_39 := n0_
              have HO_336000 := n1_
              have BK324 := n2_
              have BKM := n29_
              have BK335 := n3_
              have BK339 := n4_
              have HB := n5_
              clear n0_ n1_ n2_ n3_ n4_ n5_ n29_
              have n0_ := aM_ (k3_ HO_39.out)
              have n1_ := aM_ (k3_ HO_336000.out)
              have n2_ := aM_ (b1_ BK324.out)
              have n29_ := aM_ (SM.Is.drew BKM.out)
              have n3_ := aM_ (b1_ BK335.out)
              have n4_ := aM_ (b1_ BK339.out)
              have n5_ := aM_ (bD_ HB.out)
              clear HO_39
              clear HO_336000
              clear BKM; clear BK324
              clear BK335
              clear BK339
              clear HB
              have HO_39 := n0_
              have HO_336000 := n1_
              have BK324 := n2_
              have BKM := n29_
              have BK335 := n3_
              have BK339 := n4_
              have HB := n5_
              clear n0_ n1_ n2_ n3_ n4_ n5_ n29_
              have p39 : 0 ≤ ((ji36) : Int) := of_decide_eq_true (by (with_reducible assumption))
              have q39 : (ji36) < ((rdOf eB_ t332 x41_2).size : Int) := of_decide_eq_true (by (with_reducible assumption))
              have hx39 := bt_at (rdOf eB_ t332 x41_2) (ji36)
              replace p39 := eq_true p39
              replace q39 := eq_true q39
              refine start_ (n := 18) (S := fun w' => SM.Is w' gbM lm2) (ds := []) #[fy, fy, fy, fy, fy, fy, fy, fy, fy, fy, fy, fy, fy, fy, fy, fy, fy, fy] (by kernel_rfl) rfl rfl (SM.Is.drew BKM.out) (fun hHeld => ?_); refine with_tabW impl_trieOf.tab20 impl_trieOf.bits20 (fun HT_ HW_ => ?_)
              generalize w47.drew = w48 at HO_39 HO_336000 BKM BK324 BK335 BK339 HB hHeld ⊢
              refine pure_ (i := 0) (N := some 59) (v := ?_) (a' := ?_) #[ty, fy, fy, fy, fy, fy, fy, fy, fy, fy, fy, fy, fy, fy, fy, fy, fy, fy] rfl rfl (aO_ HT_.out (by kernel_rfl)) (fun _ _ _ h => h) (Or.inl ⟨by rfl, ?_⟩) ?_ ?_; rotate_left; (intro w'; go_simp; with_reducible rfl); rotate_left; (simp only [Act.put, sA_, sB_, sC_, i6_, i3_]; rfl)
              refine pure_ (i := 1) (N := some 60) (v := ?_) (a' := ?_) #[ty, ty, fy, fy, fy, fy, fy, fy, fy, fy, fy, fy, fy, fy, fy, fy, fy, fy] rfl rfl (aO_ HT_.out (by kernel_rfl)) (fun _ _ _ h => h) (Or.inl ⟨by rfl, ?_⟩) ?_ ?_; rotate_left; (intro w'; go_simp; with_reducible rfl); rotate_left; (simp only [Act.put, sA_, sB_, sC_, i6_, i3_]; rfl)
              refine pure_ (i := 2) (N := some 61) (v := ?_) (a' := ?_) #[ty, ty, ty, fy, fy, fy, fy, fy, fy, fy, fy, fy, fy, fy, fy, fy, fy, fy] rfl rfl (aO_ HT_.out (by kernel_rfl)) (fun _ _ _ h => h) (Or.inl ⟨by rfl, ?_⟩) ?_ ?_; rotate_left; (intro w'; go_simp; with_reducible rfl); rotate_left; (simp only [Act.put, sA_, sB_, sC_, i6_, i3_]; rfl)
              refine pure_ (i := 3) (N := some 62) (v := ?_) (a' := ?_) #[ty, ty, ty, ty, fy, fy, fy, fy, fy, fy, fy, fy, fy, fy, fy, fy, fy, fy] rfl rfl (aO_ HT_.out (by kernel_rfl)) (fun _ _ _ h => h) (Or.inl ⟨by rfl, ?_⟩) ?_ ?_; rotate_left; (intro w'; go_simp; with_reducible rfl); rotate_left; (simp only [Act.put, sA_, sB_, sC_, i6_, i3_]; rfl)
              refine pure_ (i := 7) (N := some 66) (v := ?_) (a' := ?_) #[ty, ty, ty, ty, fy, fy, fy, ty, fy, fy, fy, fy, fy, fy, fy, fy, fy, fy] rfl rfl (aO_ HT_.out (by kernel_rfl)) (fun _ _ _ h => h) (Or.inl ⟨by rfl, ?_⟩) ?_ ?_; rotate_left; (intro w'; go_simp; with_reducible rfl); rotate_left; (simp only [Act.put, sA_, sB_, sC_, i6_, i3_]; rfl)
              refine pure_ (i := 8) (N := some 67) (v := ?_) (a' := ?_) #[ty, ty, ty, ty, fy, fy, fy, ty, ty, fy, fy, fy, fy, fy, fy, fy, fy, fy] rfl rfl (aO_ HT_.out (by kernel_rfl)) (fun _ _ _ h => h) (Or.inl ⟨by rfl, ?_⟩) ?_ ?_; rotate_left; (intro w'; go_simp; with_reducible rfl); rotate_left; (simp only [Act.put, sA_, sB_, sC_, i6_, i3_]; rfl)
              refine pure_ (i := 9) (N := some 68) (v := ?_) (a' := ?_) #[ty, ty, ty, ty, fy, fy, fy, ty, ty, ty, fy, fy, fy, fy, fy, fy, fy, fy] rfl rfl (aO_ HT_.out (by kernel_rfl)) (fun _ _ _ h => h) (Or.inl ⟨by rfl, ?_⟩) ?_ ?_; rotate_left; (intro w'; go_simp; with_reducible rfl); rotate_left; (simp only [Act.put, sA_, sB_, sC_, i6_, i3_]; rfl)
              refine pure_ (i := 10) (N := some 69) (v := ?_) (a' := ?_) #[ty, ty, ty, ty, fy, fy, fy, ty, ty, ty, ty, fy, fy, fy, fy, fy, fy, fy] rfl rfl (aO_ HT_.out (by kernel_rfl)) (fun _ _ _ h => h) (Or.inl ⟨by rfl, ?_⟩) ?_ ?_; rotate_left; (intro w'; go_simp; with_reducible rfl); rotate_left; (simp only [Act.put, sA_, sB_, sC_, i6_, i3_]; rfl)
              refine pure_ (i := 11) (N := some 70) (v := ?_) (a' := ?_) #[ty, ty, ty, ty, fy, fy, fy, ty, ty, ty, ty, ty, fy, fy, fy, fy, fy, fy] rfl rfl (aO_ HT_.out (by kernel_rfl)) (fun _ _ _ h => h) (Or.inl ⟨by rfl, ?_⟩) ?_ ?_; rotate_left; (intro w'; go_simp; with_reducible rfl); rotate_left; (simp only [Act.put, sA_, sB_, sC_, i6_, i3_]; rfl)
              refine pure_ (i := 12) (N := some 71) (v := ?_) (a' := ?_) #[ty, ty, ty, ty, fy, fy, fy, ty, ty, ty, ty, ty, ty, fy, fy, fy, fy, fy] rfl rfl (aO_ HT_.out (by kernel_rfl)) (fun _ _ _ h => h) (Or.inl ⟨by rfl, ?_⟩) ?_ ?_; rotate_left; (intro w'; go_simp; with_reducible rfl); rotate_left; (simp only [Act.put, sA_, sB_, sC_, i6_, i3_]; rfl)
              refine take_ (i := 13) (N := some 72) (v := ?_) (a' := ?_) #[ty, ty, ty, ty, fy, fy, fy, ty, ty, ty, ty, ty, ty, ty, fy, fy, fy, fy] rfl rfl (tW_ HT_.out HW_.out (by kernel_rfl)) (fun _ _ _ h => h) (Or.inl ⟨by rfl, ?_⟩) hHeld ?_ ?_
              rotate_left
              ·
               intro w' hS_
               have hlk_ := SM.get hS_ 82 Try.underlying82 ((rdOf eB_ t332 x41_2).extract 0 ((ji36) : Int).toNat) (SM.size_ext _ _ HLP.out)
               rw [show SM.at_ lm2 ((rdOf eB_ t332 x41_2).extract 0 ((ji36) : Int).toNat) = mv from by rw [HLM2.out, HLN.out]; exact HMV.out] at hlk_
               go_simp
               with_reducible rfl
              rotate_left
              ·
               simp only [Act.put, sA_, sB_, sC_, i6_, i3_]
               rfl
              refine take_ (i := 4) (N := some 63) (v := ?_) (a' := ?_) #[ty, ty, ty, ty, ty, fy, fy, ty, ty, ty, ty, ty, ty, ty, fy, fy, fy, fy] rfl rfl (tW_ HT_.out HW_.out (by kernel_rfl)) (fun _ _ _ h => h) (Or.inl ⟨by rfl, ?_⟩) hHeld ?_ ?_; rotate_left; (intro w' _; go_simp; with_reducible rfl); rotate_left; (simp only [Act.put, sA_, sB_, sC_, i6_, i3_]; rfl)
              refine pure_ (i := 5) (N := some 64) (v := ?_) (a' := ?_) #[ty, ty, ty, ty, ty, ty, fy, ty, ty, ty, ty, ty, ty, ty, fy, fy, fy, fy] rfl rfl (aO_ HT_.out (by kernel_rfl)) (fun _ _ _ h => h) (Or.inl ⟨by rfl, ?_⟩) ?_ ?_; rotate_left; (intro w'; go_simp; with_reducible rfl); rotate_left; (simp only [Act.put, sA_, sB_, sC_, i6_, i3_]; rfl)
              refine pure_ (i := 6) (N := some 65) (v := ?_) (a' := ?_) #[ty, ty, ty, ty, ty, ty, ty, ty, ty, ty, ty, ty, ty, ty, fy, fy, fy, fy] rfl rfl (aO_ HT_.out (by kernel_rfl)) (fun _ _ _ h => h) (Or.inl ⟨by rfl, ?_⟩) ?_ ?_; rotate_left; (intro w'; go_simp; with_reducible rfl); rotate_left; (simp only [Act.put, sA_, sB_, sC_, i6_, i3_]; rfl)
              refine pure_ (i := 14) (N := some 73) (v := ?_) (a' := ?_) #[ty, ty, ty, ty, ty, ty, ty, ty, ty, ty, ty, ty, ty, ty, ty, fy, fy, fy] rfl rfl (aO_ HT_.out (by kernel_rfl)) (fun _ _ _ h => h) (Or.inl ⟨by rfl, ?_⟩) ?_ ?_; rotate_left; (intro w'; go_simp; with_reducible rfl); rotate_left; (simp only [Act.put, sA_, sB_, sC_, i6_, i3_]; rfl)
              refine one_ (i := 15) (N := none) #[ty, ty, ty, ty, ty, ty, ty, ty, ty, ty, ty, ty, ty, ty, ty, ty, fy, fy] rfl rfl (one_of HT_.out (by kernel_rfl)) (by decide) (fun K hK => ?_)
              have hs49 : w48.cell? ⟨gb339, 0, none⟩ = some (.int .i64 (-1)) := (bC_ BK339.out 0).trans rfl
              have hfs49 := bF_ BK339.out 0
              have hns49_0 := NB324_339.out
              have hns49_1 := NB335_339.out
              have hms49_0 := NB339_324.out
              have hms49_1 := NB339_335.out
              refine skip_ (w1 := ?_) (by rfl) rfl ?_ ?_
              rotate_left
              ·
               go_simp
               rfl
              refine hK.out _ _ (by exact SM.Is.far hHeld NBM_339.out _) (fun hHeld => ?_)
              clear hK K
              refine pure_ (i := 16) (N := some 74) (v := ?_) (a' := ?_) #[ty, ty, ty, ty, ty, ty, ty, ty, ty, ty, ty, ty, ty, ty, ty, ty, ty, fy] rfl rfl (aO_ HT_.out (by kernel_rfl)) (fun _ _ _ h => h) (Or.inl ⟨by rfl, ?_⟩) ?_ ?_; rotate_left; (intro w'; go_simp; with_reducible rfl); rotate_left; (simp only [Act.put, sA_, sB_, sC_, i6_, i3_]; rfl)
              refine one_ (i := 17) (N := none) #[ty, ty, ty, ty, ty, ty, ty, ty, ty, ty, ty, ty, ty, ty, ty, ty, ty, ty] rfl rfl (one_of HT_.out (by kernel_rfl)) (by decide) (fun K hK => ?_)
              have hs50 : w48.cell? ⟨gb339, 1, none⟩ = some (.int .i64 (-1)) := (bC_ BK339.out 1).trans rfl
              have hfs50 := bF_ BK339.out 1
              have hns50_0 := NB324_339.out
              have hns50_1 := NB335_339.out
              have hms50_0 := NB339_324.out
              have hms50_1 := NB339_335.out
              refine skip_ (w1 := ?_) (by rfl) rfl ?_ ?_
              rotate_left
              ·
               go_simp
               rfl
              refine hK.out _ _ (by exact SM.Is.far hHeld NBM_339.out _) (fun hHeld => ?_)
              clear hK K
              refine done_ (done_of HT_.out (by kernel_rfl)) ?_
              have hnb51 := NB335_324.out
              have hnc51 := NB324_335.out
              have hcz52_0 : w48.cell? ⟨gb335, 0, none⟩ = some (u336000) := (bC_ BK335.out 0).trans rfl
              have hfz52_0 := bF_ BK335.out 0
              have hcz53_0 : w48.cell? ⟨gb339, 0, none⟩ = some (.int .i64 (-1)) := (bC_ BK339.out 0).trans rfl
              have hcz53_1 : w48.cell? ⟨gb339, 1, none⟩ = some (.int .i64 (-1)) := (bC_ BK339.out 1).trans rfl
              have hcz53_2 : w48.cell? ⟨gb339, 2, none⟩ = some (.bool t338) := (bC_ BK339.out 2).trans rfl
              have hfz53_0 := bF_ BK339.out 0
              have hfz53_1 := bF_ BK339.out 1
              have hfz53_2 := bF_ BK339.out 2
              try go_wp2_with (first | ((with_reducible refine gate_builtin (b := .append) (xs := #[.tmp 76, .tmp 78]) rfl ?_); at_builtin; refine Kd.R_append k65 (w0 := w) w.heap.size rfl (.tmp 76) (.tmp 78) 28 65 (.agg #[(.int .i64 0), (.int .i64 0), (.bool false)]) 24 rfl Try.underlying28 info65 rfl (by decide) (by omega) u336000 x336000_2 (⟨((bt (rdOf eB_ t332 x41_2) (ji36)) - 97) % 256, mv, t338⟩ : S65) [.int .i64 (((bt (rdOf eB_ t332 x41_2) (ji36)) - 97) % 256), .int .i64 mv, .bool t338] (fun k_ => k_ ≠ gb339) (fun _ => False) rfl (by (go_simp; done)) ?aP (fun _ hk => hk.elim) ?aF ?aO ?aB ?aS ?aL ?_; (case aP => exact k65_mkM _ _ _ (⟨((bt (rdOf eB_ t332 x41_2) (ji36)) - 97) % 256, mv, t338⟩ : S65)); (case aB => exact (by repeat (first | (with_reducible first | exact HB.out | apply bA_ | apply bN_ | apply bD_ | refine bS_ ?_ GE324.out | refine bS_ ?_ GE335.out | refine bS_ ?_ GE339.out) | exact HB.out))); (case aF => exact (fun k_ hk => Kd.freshB (g := gb339) (o := .cells #[.int .i64 (((bt (rdOf eB_ t332 x41_2) (ji36)) - 97) % 256), .int .i64 mv, .bool t338] 65 (0, 0)) (by refine bP_ (cs := #[.int .i64 (((bt (rdOf eB_ t332 x41_2) (ji36)) - 97) % 256), .int .i64 (-1), .bool t338]) ?_ 1 _ rfl; refine bP_ (cs := #[.int .i64 (-1), .int .i64 (-1), .bool t338]) ?_ 0 _ rfl; exact BK339.out) k_ hk)); (case aO => exact (by exact kM_ (kF_ (p := ⟨gb339, 1, none⟩) (kF_ (p := ⟨gb339, 0, none⟩) (kM_ HO_336000.out (fun k_ hk => (⟨hk, hk⟩ : _ ∧ k_ ≠ gb339))) (fun _ hk => hk.2) (.int .i64 (((bt (rdOf eB_ t332 x41_2) (ji36)) - 97) % 256))) (fun _ hk => hk.2) (.int .i64 mv)) (fun _ hk => hk.1))); (case aS => exact (bZ_ (by repeat (first | (with_reducible first | exact HB.out | apply bA_ | apply bN_ | apply bD_ | refine bS_ ?_ GE324.out | refine bS_ ?_ GE335.out | refine bS_ ?_ GE339.out) | exact HB.out)))); (case aL => have := LMc42.out; omega); intro v344 w54 ho hb hg hat; rw [← Ny343.out] at ho; have n0_ := aM_ (Kd.R_over' (by exact (kM_ (kF_ (p := ⟨gb339, 1, none⟩) (kF_ (p := ⟨gb339, 0, none⟩) (kT_ HO_39.out BK339.out (by decide)) (fun _ hk => hk.2) (.int .i64 (((bt (rdOf eB_ t332 x41_2) (ji36)) - 97) % 256))) (fun _ hk => hk.2) (.int .i64 mv)) (fun _ h_ => h_.1))) (Kd.R_typed (by exact (kM_ (kF_ (p := ⟨gb339, 1, none⟩) (kF_ (p := ⟨gb339, 0, none⟩) (kM_ HO_336000.out (fun k_ hk => (⟨hk, hk⟩ : _ ∧ k_ ≠ gb339))) (fun _ hk => hk.2) (.int .i64 (((bt (rdOf eB_ t332 x41_2) (ji36)) - 97) % 256))) (fun _ hk => hk.2) (.int .i64 mv)) (fun _ h_ => h_.1)))) (by decide) hg); have n1_ := aM_ (blk_grown (g := gb324) (o := .cells #[.slice none 0 0] 30 (0, 0)) (by refine bR_ ?_ NB324_339.out _; refine bR_ ?_ NB324_339.out _; exact BK324.out) hg (k6_ HO_336000.out BK324.out (by decide))); have n19_ := aM_ (SM.Is.grown (l := lm2) (by (with_reducible repeat (first | refine SM.Is.drewN ?_ _ | refine SM.Is.drew ?_ | refine SM.Is.alloc ?_ _)); refine SM.Is.far ?_ NBM_339.out _; (with_reducible repeat (first | refine SM.Is.drewN ?_ _ | refine SM.Is.drew ?_ | refine SM.Is.alloc ?_ _)); refine SM.Is.far ?_ NBM_339.out _; (with_reducible repeat (first | refine SM.Is.drewN ?_ _ | refine SM.Is.drew ?_ | refine SM.Is.alloc ?_ _)); exact BKM.out) hg (SM.Is.ne BKM.out HO_336000.out)); have n2_ := aM_ (blk_grown (g := gb335) (o := .cells #[u336000] 30 (0, 0)) (by refine bR_ ?_ NB335_339.out _; refine bR_ ?_ NB335_339.out _; exact BK335.out) hg (k6_ HO_336000.out BK335.out (by decide))); have n3_ := aM_ (blk_grown (g := gb339) (o := .cells #[.int .i64 (((bt (rdOf eB_ t332 x41_2) (ji36)) - 97) % 256), .int .i64 mv, .bool t338] 65 (0, 0)) (by refine bP_ (cs := #[.int .i64 (((bt (rdOf eB_ t332 x41_2) (ji36)) - 97) % 256), .int .i64 (-1), .bool t338]) ?_ 1 _ rfl; refine bP_ (cs := #[.int .i64 (-1), .int .i64 (-1), .bool t338]) ?_ 0 _ rfl; exact BK339.out) hg (Kd.R_away HO_336000.out (fun _ hk => hk))); have n4_ := aM_ (hb); have n5_ := aM_ (ho); clear HO_39; clear BKM; clear BK324; clear BK335; clear BK339; clear HB; clear HO_336000; have HO_39 := n0_; have BK324 := n1_; have BKM := n19_; have BK335 := n2_; have BK339 := n3_; have HB := n4_; have HO345 := n5_; clear n0_ n1_ n2_ n3_ n4_ n5_ n19_; clear ho hb hg hat; obtain ⟨Ao55, co55, eo55⟩ := kS_ HO345.out; subst eo55; have hcz56_0 : w54.cell? ⟨gb335, 0, none⟩ = some (u336000) := (bC_ BK335.out 0).trans rfl; have hfz56_0 := bF_ BK335.out 0))
              go_roundg k2
              case measure => have := HK1.out; have := HK2.out; omega
              case rel => exact ⟨(wrap64 (x41_2 + 1)), (y343), (.slice Ao55 y343.length co55), (by rfl), H', ⟨by have := HK1.out; have := HK2.out; omega⟩, ⟨by exact kM_ (kF_ (p := ⟨gb335, 0, none⟩) (kT_ HO_39.out BK335.out (by decide)) (fun _ hk => hk.2) (.slice Ao55 y343.length co55)) (fun _ hk => trivial)⟩, ⟨by exact kM_ (kF_ (p := ⟨gb335, 0, none⟩) (kT_ HO345.out BK335.out (by decide)) (fun _ hk => hk.2) (.slice Ao55 y343.length co55)) (fun _ hk => trivial)⟩, ⟨by refine bR_ ?_ NB324_335.out _; exact BK324.out⟩, ⟨by refine bP_ (cs := #[u336000]) ?_ 0 _ rfl; exact BK335.out⟩, ⟨by repeat (first | (with_reducible first | exact HB.out | apply bA_ | apply bN_ | apply bD_ | refine bS_ ?_ GE324.out | refine bS_ ?_ GE335.out | refine bS_ ?_ GE339.out) | exact HB.out)⟩, ⟨by rw [SM.next_rd t332 x41_2 lm2 HLM2.out HLN.out HLL.out HLL2.out HSZ.out]; (with_reducible repeat (first | refine SM.Is.drewN ?_ _ | refine SM.Is.drew ?_ | refine SM.Is.alloc ?_ _)); refine SM.Is.far ?_ NBM_335.out _; (with_reducible repeat (first | refine SM.Is.drewN ?_ _ | refine SM.Is.drew ?_ | refine SM.Is.alloc ?_ _)); exact BKM.out⟩⟩
             ·
              rw [if_neg c42] at H
              exact absurd H (by simp)
            ·
             rw [if_neg c41] at H
             exact absurd H (by simp)
           ·
            rw [if_neg c38] at H
            exact absurd H (by simp)
          ·
           rw [if_neg c37] at H
           exact absurd H (by simp)
        ·
         rw [if_neg c23] at H
         exact absurd H (by simp)
       ·
        rw [if_neg c22] at H
        exact absurd H (by simp)
      ·
       rw [if_neg c21] at H
       have c21b0 := decide_eq_false c21
       clear c21
       obtain rfl := Option.some.inj H
       have hnb57 := NB335_324.out
       have hnc57 := NB324_335.out
       have hcz58_0 : wr.cell? ⟨gb335, 0, none⟩ = some (u336000) := (bC_ BK335.out 0).trans rfl
       have hfz58_0 := bF_ BK335.out 0
       obtain ⟨Ao59, co59, eo59⟩ := kS_ HO_336000.out
       subst eo59
       have hcz60_0 : wr.cell? ⟨gb324, 0, none⟩ = some (.slice none 0 0) := (bC_ BK324.out 0).trans rfl
       have hfz60_0 := bF_ BK324.out 0
       go_wp2
       refine bodyPost_ret (results_cell_row rfl _ _ gb324 30 #[.slice Ao59 x336000_2.length co59] (0, 0) _ rfl (by refine bP_ (cs := #[.slice none 0 0]) ?_ 0 _ rfl; exact BK324.out) Try.underlying30 rfl (by kernel_rfl)) rfl ?_
       exact ⟨_, by rfl, by exact kM_ (kF_ (p := ⟨gb324, 0, none⟩) (kT_ HO_336000.out BK324.out (by decide)) (fun _ hk => hk.2) (.slice Ao59 x336000_2.length co59)) (fun _ hk => trivial), by repeat (first | (with_reducible first | exact HB.out | apply bA_ | apply bN_ | apply bD_ | refine bS_ ?_ GE324.out | refine bS_ ?_ GE335.out) | exact HB.out)⟩
def impl_isTrie.j0 : Nat → Bool → List (S65) → Option (Bool)
 | 0, _, _ => none
 | k + 1, x16, x347000 => if x16 = true then (some false) else ((impl_Trie_words.f k x347000).bind fun t352 => (if (t352.length : Int) ≤ 40 then ((slices_IsSorted_string_string.f k t352).bind fun t355 => (if t355 = true then ((impl_trieOf.f k t352).bind fun t356 => ((impl_Node.f k t356 x347000).bind fun t359 => (some t359))) else (some false))) else (some false)))
def impl_isTrie.f (k : Nat) (l0_0 : List (S65)) : Option (Bool) := (impl_Trie_prefixes.f k l0_0).bind fun bt347 => (if bt347.2 = true then ((impl_isTrie_any.f bt347.1).bind fun t351 => (impl_isTrie.j0 k t351 l0_0)) else (impl_isTrie.j0 k true l0_0))
theorem impl_isTrie.mono_l : ∀ k, (∀ y0 y1, LeO (impl_isTrie.j0 k y0 y1) (impl_isTrie.j0 (k + 1) y0 y1))
 | 0 => fun _ _ r h => by simp [impl_isTrie.j0] at h
 | k + 1 => by
  have ih0 := impl_isTrie.mono_l k
  ·
   intro y0 y1
   unfold impl_isTrie.j0
   repeat' first
   | (with_reducible exact ih0 _ _)
   | (with_reducible exact impl_Node.mono _ _ _)
   | (with_reducible exact impl_Trie_prefixes.mono _ _)
   | (with_reducible exact impl_Trie_words.mono _ _)
   | (with_reducible exact impl_trieOf.mono _ _)
   | (with_reducible exact slices_IsSorted_string_string.mono _ _)
   | (with_reducible exact l3_ _)
   | (with_reducible exact l0_ _)
   | (with_reducible refine l2_ ?_ ?_)
   | (with_reducible refine l1_ ?_ (fun _ => ?_))
   | exact ih0 _ _
   | exact impl_Node.mono _ _ _
   | exact impl_Trie_prefixes.mono _ _
   | exact impl_Trie_words.mono _ _
   | exact impl_trieOf.mono _ _
   | exact slices_IsSorted_string_string.mono _ _
   | exact l0_ _
   | refine l2_ ?_ ?_
   | refine l1_ ?_ (fun _ => ?_)
theorem impl_isTrie.mono : ∀ a0 k, LeO (impl_isTrie.f k a0) (impl_isTrie.f (k + 1) a0) := by
 intro a0 k
 have ih0 := impl_isTrie.mono_l k
 unfold impl_isTrie.f
 repeat' first
   | (with_reducible exact ih0 _ _)
   | (with_reducible exact impl_Node.mono _ _ _)
   | (with_reducible exact impl_Trie_prefixes.mono _ _)
   | (with_reducible exact impl_Trie_words.mono _ _)
   | (with_reducible exact impl_trieOf.mono _ _)
   | (with_reducible exact slices_IsSorted_string_string.mono _ _)
   | (with_reducible exact l3_ _)
   | (with_reducible exact l0_ _)
   | (with_reducible refine l2_ ?_ ?_)
   | (with_reducible refine l1_ ?_ (fun _ => ?_))
   | exact ih0 _ _
   | exact impl_Node.mono _ _ _
   | exact impl_Trie_prefixes.mono _ _
   | exact impl_Trie_words.mono _ _
   | exact impl_trieOf.mono _ _
   | exact slices_IsSorted_string_string.mono _ _
   | exact l0_ _
   | refine l2_ ?_ ?_
   | refine l1_ ?_ (fun _ => ?_)
def impl_isTrie.T5 : Bool × List (List Nat × List Nat) := (true, [([], []), ([0], [0]), ([1], [1]), ([2], [2]), ([3], [3]), ([4, 3, 3], [3, 4]), ([3, 5], [3, 5]), ([6, 5], [6]), ([7], [7]), ([8, 7, 7], [7, 8]), ([9, 7], [7, 9]), ([7], [7]), ([11, 7], [7, 11]), ([10, 12, 9, 7], [7, 10, 12]), ([7, 13], [7, 13]), ([14, 13, 0, 1, 2, 3, 4, 5, 6, 7, 8, 9, 10, 11, 12, 13, 14], [14])])
def impl_isTrie.B5 : List Nat := [0, 1, 3, 7, 15, 31, 63, 127, 255, 511, 1023, 255, 2303, 8191, 16383, 32767]
theorem impl_isTrie.tab5 : rtab .any (opsOf Try.f28 5) = impl_isTrie.T5 := by kernel_rfl
theorem impl_isTrie.bits5 : waitsOk impl_isTrie.T5.2 impl_isTrie.B5 = true := by kernel_rfl
theorem impl_isTrie.calls (k : Nat) (A0_0 : Option Addr) (c0_0 : Nat) (l0_0 : List (S65)) (r : Bool) (w : World) (hr0_0 : Kd.C k65 w A0_0 l0_0.length l0_0) (hc0_0 : l0_0.length ≤ c0_0) (h : impl_isTrie.f k l0_0 = some r) :
  Calls Try.prog 28 #[.agg #[.slice A0_0 l0_0.length c0_0]] w fun e w' => e = .returned (.bool r) ∧ Below w.heap.size w w' := by
 have hu30 := Try.underlying30
 have hfd : ∀ (a_ : Option Addr) (n_ c_ : Nat) (W_ : World), (Instr.field 30 (.agg #[.slice a_ n_ c_]) 0).run Try.prog W_ = .ok (.slice a_ n_ c_) W_ := fun a_ n_ c_ W_ => by first | rfl | kernel_rfl
 have HR0_0 := aM_ hr0_0
 have HC0_0 := aM_ hc0_0
 clear hr0_0 hc0_0
 have HB := aM_ (Below.refl w.heap.size w)
 have H : ((impl_Trie_prefixes.f k l0_0).bind fun bt347 => (if bt347.2 = true then ((impl_isTrie_any.f bt347.1).bind fun t351 => (impl_isTrie.j0 k t351 l0_0)) else (impl_isTrie.j0 k true l0_0))) = some r := h
 clear h
 replace H := oB_.mp H
 obtain ⟨⟨t347, t350⟩, A20, H⟩ := H
 try dsimp only at H
 have A2 := aM_ A20
 clear A20
 have HC3 := aM_ H
 clear H
 go_enter Try.func28, Try.ntmps28
 go_upto_region 2 with (first | ((with_reducible refine gD_ (N := 1) rfl ?_); refine bE_ ?hg (N := 1) ?hd (cs := #[.slice A0_0 l0_0.length c0_0]) (t := 30) ?hr ?_; (case hd => rfl); (case hg => rfl); (case hr => (go_simp; done)); intro gb346 hg w4 hbox hb; have BK346 := aM_ (hbox); have GW346 := aM_ ((by rw [hg]; exact (bZ_ HB.out) : w.heap.size ≤ gb346)); have GE346 := GW346; replace HB := aM_ (bT_ HB.out hb); clear hb hbox hg; have hcz5_0 : w4.cell? ⟨gb346, 0, none⟩ = some (.slice A0_0 l0_0.length c0_0) := (bC_ BK346.out 0).trans rfl; have hfz5_0 := bF_ BK346.out 0) | ((with_reducible refine gC_ (f := 39) rfl ?_); refine goesL_ (some 8) rfl rfl Try.func39 (by kernel_rfl) rfl #[.agg #[.slice A0_0 l0_0.length c0_0]] rfl (by (try simp only [sD_, sE_, sF_]); rfl) ?_; (with_reducible refine (impl_Trie_prefixes.calls k _ _ l0_0 t347 t350 _ ?side1 ?side2 A2.out).mono ?_); (case side1 => repeat (first | exact (k4_ HR0_0.out HB.out) | (with_reducible refine Kd.C_alloc ?_ _) | (with_reducible refine Kd.C_drewN ?_ _) | (with_reducible refine Kd.C_drew ?_))); (case side2 => exact HC0_0.out); rintro e w6 ⟨v348, rfl, ho0, hb⟩; refine ⟨_, rfl, ?_⟩; have HO349 := aM_ (k5_ ho0 (bZ_ HB.out)); replace BK346 := aM_ (bB_ BK346.out hb); replace HB := aM_ (bT_ HB.out hb); (try clear hb); (try clear ho0)))
 (try simp only [Act.put, sA_, sB_, sC_])
 go_cut [16] (fun v16 wc => ∃ (kq : Nat) (x16_2 : Bool), v16 = .bool x16_2 ∧ Aside0 (impl_isTrie.j0 kq x16_2 l0_0 = some r) ∧ Aside0 (kq ≤ k) ∧ Aside0 (wc.heap[gb346]? = some (.cells #[(.slice A0_0 l0_0.length c0_0)] 30 (0, 0))) ∧ Aside0 (Below w.heap.size w wc))
 case first =>
  have H := HC3.out
  clear HC3
  by_cases c7 : t350 = true
  ·
   subst c7
   rw [if_pos rfl] at H
   replace H := oB_.mp H
   obtain ⟨t351, A80, H⟩ := H
   try dsimp only at H
   have A8 := aM_ A80
   clear A80
   have H' := aM_ H
   clear H
   obtain ⟨Ao9, co9, eo9⟩ := kS_ HO349.out
   subst eo9
   go_wp2_with (first | (go_at_call 46; (with_reducible refine (impl_isTrie_any.calls _ _ t347 t351 _ ?side1 ?side2 A8.out).mono ?_); (case side1 => repeat (first | exact (kR_ HO349.out).2.2 | (with_reducible refine Kd.C_alloc ?_ _) | (with_reducible refine Kd.C_drewN ?_ _) | (with_reducible refine Kd.C_drew ?_))); (case side2 => exact (kR_ HO349.out).2.1); rintro e w10 ⟨rfl, hb⟩; replace HO349 := aM_ (kB_ HO349.out hb); replace BK346 := aM_ (bB_ BK346.out hb); replace HB := aM_ (bT_ HB.out hb); (try clear hb)))
   go_meet
   case rel => exact ⟨_, (t351), (by rfl), H', ⟨by omega⟩, ⟨BK346.out⟩, ⟨HB.out⟩⟩
  ·
   replace c7 := Bool.eq_false_iff.mpr c7
   subst c7
   have H1 : (impl_isTrie.j0 k true l0_0) = some r := by rw [if_neg (show ¬ (false = true) by decide)] at H; exact H
   clear H
   have H := H1
   clear H1
   have H' := aM_ H
   clear H
   go_wp2
   go_meet
   case rel => exact ⟨_, (true), (by rfl), H', ⟨by omega⟩, ⟨BK346.out⟩, ⟨HB.out⟩⟩
 case rest =>
  clear HC3
  try clear p2
  try clear hcz5_0
  try clear hfz5_0
  obtain ⟨kq, x16_2, rfl, HA, HJ2, BK346, HB⟩ := hcut
  cases kq with
  | zero => exact absurd HA.out (by simp [impl_isTrie.j0])
  | succ kj2 =>
   have H := HA.out
   clear HA
   simp only [impl_isTrie.j0] at H
   by_cases c11 : x16_2 = true
   ·
    subst c11
    rw [if_pos rfl] at H
    obtain rfl := Option.some.inj H
    go_wp2
    go_ret
    exact ⟨by rfl, by exact HB.out⟩
   ·
    replace c11 := Bool.eq_false_iff.mpr c11
    subst c11
    have H1 : ((impl_Trie_words.f kj2 l0_0).bind fun t352 => (if (t352.length : Int) ≤ 40 then ((slices_IsSorted_string_string.f kj2 t352).bind fun t355 => (if t355 = true then ((impl_trieOf.f kj2 t352).bind fun t356 => ((impl_Node.f kj2 t356 l0_0).bind fun t359 => (some t359))) else (some false))) else (some false))) = some r := by rw [if_neg (show ¬ (false = true) by decide)] at H; exact H
    clear H
    have H := H1
    clear H1
    replace H := oB_.mp H
    obtain ⟨t352, A120, H⟩ := H
    try dsimp only at H
    have A12 := aM_ A120
    clear A120
    by_cases c13 : (t352.length : Int) ≤ 40
    ·
     rw [if_pos c13] at H
     have c13b0 := decide_eq_true c13
     have c13b1 : decide (t352.length ≤ 40) = true := decide_eq_true (by omega)
     clear c13
     replace H := oB_.mp H
     obtain ⟨t355, A140, H⟩ := H
     try dsimp only at H
     have A14 := aM_ A140
     clear A140
     by_cases c15 : t355 = true
     ·
      subst c15
      rw [if_pos rfl] at H
      replace H := oB_.mp H
      obtain ⟨t356, A160, H⟩ := H
      try dsimp only at H
      have A16 := aM_ A160
      clear A160
      replace H := oB_.mp H
      obtain ⟨t359, A170, H⟩ := H
      try dsimp only at H
      have A17 := aM_ A170
      clear A170
      obtain rfl := Option.some.inj H
      have hcz18_0 : wc.cell? ⟨gb346, 0, none⟩ = some (.slice A0_0 l0_0.length c0_0) := (bC_ BK346.out 0).trans rfl
      have hfz18_0 := bF_ BK346.out 0
      try go_wp2_with (first | ((with_reducible refine gC_ (f := 48) rfl ?_); refine goesL_ (some 18) rfl rfl Try.func48 (by kernel_rfl) rfl #[.agg #[.slice A0_0 l0_0.length c0_0]] rfl (by (try simp only [sD_, sE_, sF_]); rfl) ?_; (with_reducible refine (impl_Trie_words.calls kj2 _ _ l0_0 t352 _ ?side1 ?side2 A12.out).mono ?_); (case side1 => repeat (first | exact (k4_ HR0_0.out HB.out) | (with_reducible refine Kd.C_alloc ?_ _) | (with_reducible refine Kd.C_drewN ?_ _) | (with_reducible refine Kd.C_drew ?_))); (case side2 => exact HC0_0.out); rintro e w19 ⟨v353, rfl, ho0, hb⟩; refine ⟨_, rfl, ?_⟩; have HO354 := aM_ (k5_ ho0 (bZ_ HB.out)); replace BK346 := aM_ (bB_ BK346.out hb); replace HB := aM_ (bT_ HB.out hb); (try clear hb); (try clear ho0)))
      have n0_ := aM_ (k3_ HO354.out)
      have n1_ := aM_ (b1_ BK346.out)
      have n2_ := aM_ (bD_ HB.out)
      clear HO354
      clear BK346
      clear HB
      have HO354 := n0_
      have BK346 := n1_
      have HB := n2_
      clear n0_ n1_ n2_
      obtain ⟨Ao21, co21, eo21⟩ := kS_ HO354.out
      (subst eo21)
      refine start_ (n := 16) (S := fun w' => w'.cell? ⟨gb346, 0, none⟩ = some (.slice A0_0 l0_0.length c0_0)) (ds := []) #[fy, fy, fy, fy, fy, fy, fy, fy, fy, fy, fy, fy, fy, fy, fy, fy] (by kernel_rfl) rfl rfl ((bC_ BK346.out 0).trans rfl) (fun hHeld => ?_); refine with_tabW impl_isTrie.tab5 impl_isTrie.bits5 (fun HT_ HW_ => ?_)
      generalize w19.drew = w20 at HO354 BK346 HB hHeld ⊢
      refine pure_ (i := 0) (N := some 19) (v := ?_) (a' := ?_) #[ty, fy, fy, fy, fy, fy, fy, fy, fy, fy, fy, fy, fy, fy, fy, fy] rfl rfl (aO_ HT_.out (by kernel_rfl)) (fun _ _ _ h => h) (Or.inl ⟨by rfl, ?_⟩) ?_ ?_; rotate_left; (intro w'; go_simp; with_reducible rfl); rotate_left; (simp only [Act.put, sA_, sB_, sC_, i6_, i3_]; rfl)
      refine pure_ (i := 1) (N := some 20) (v := ?_) (a' := ?_) #[ty, ty, fy, fy, fy, fy, fy, fy, fy, fy, fy, fy, fy, fy, fy, fy] rfl rfl (aO_ HT_.out (by kernel_rfl)) (fun _ _ _ h => h) (Or.inl ⟨by rfl, ?_⟩) ?_ ?_; rotate_left; (intro w'; go_simp; with_reducible rfl); rotate_left; (simp only [Act.put, sA_, sB_, sC_, i6_, i3_]; rfl)
      refine pure_ (i := 2) (N := some 21) (v := ?_) (a' := ?_) #[ty, ty, ty, fy, fy, fy, fy, fy, fy, fy, fy, fy, fy, fy, fy, fy] rfl rfl (aO_ HT_.out (by kernel_rfl)) (fun _ _ _ h => h) (Or.inl ⟨by rfl, ?_⟩) ?_ ?_; rotate_left; (intro w'; go_simp; with_reducible rfl); rotate_left; (simp only [Act.put, sA_, sB_, sC_, i6_, i3_]; rfl)
      refine pure_ (i := 3) (N := some 22) (v := ?_) (a' := ?_) #[ty, ty, ty, ty, fy, fy, fy, fy, fy, fy, fy, fy, fy, fy, fy, fy] rfl rfl (aO_ HT_.out (by kernel_rfl)) (fun _ _ _ h => h) (Or.inl ⟨by rfl, ?_⟩) ?_ ?_; rotate_left; (intro w'; go_simp; with_reducible rfl); rotate_left; (simp only [Act.put, sA_, sB_, sC_, i6_, i3_]; rfl)
      refine pure_ (i := 4) (N := some 23) (v := ?_) (a' := ?_) #[ty, ty, ty, ty, ty, fy, fy, fy, fy, fy, fy, fy, fy, fy, fy, fy] rfl rfl (aO_ HT_.out (by kernel_rfl)) (fun _ _ _ h => h) (Or.inl ⟨by rfl, ?_⟩) ?_ ?_; rotate_left; (intro w'; go_simp; with_reducible rfl); rotate_left; (simp only [Act.put, sA_, sB_, sC_, i6_, i3_]; rfl)
      refine one_ (i := 5) (N := some 24) #[ty, ty, ty, ty, ty, ty, fy, fy, fy, fy, fy, fy, fy, fy, fy, fy] rfl rfl (one_of HT_.out (by kernel_rfl)) (by decide) (fun K hK => ?_)
      refine goes_ Try.func49 (by kernel_rfl) rfl #[.slice Ao21 t352.length co21] (by rfl) rfl rfl (by (try simp only [sD_, sE_, sF_]); rfl) ?_
      with_reducible refine (slices_IsSorted_string_string.calls kj2 _ _ t352 true _ ?side1 ?side2 A14.out).mono ?_
      (case side1 => repeat (first | exact (kR_ HO354.out).2.2 | (with_reducible refine Kd.C_alloc ?_ _) | (with_reducible refine Kd.C_drewN ?_ _) | (with_reducible refine Kd.C_drew ?_)))
      (case side2 => exact (kR_ HO354.out).2.1)
      rintro e w' ⟨rfl, ⟨nd, rfl⟩⟩
      refine ⟨_, rfl, ?_⟩
      refine hK.out _ _ ((bC_ BK346.out 0).trans rfl) (fun hHeld => ?_)
      clear hK K
      refine norm_ (a' := ?_) ?_ ?_; rotate_left; (show Act.put _ (some 24) _ = _; simp only [Act.put, sA_, sB_, sC_, i6_, i3_]; rfl)
      refine pure_ (i := 6) (N := some 25) (v := ?_) (a' := ?_) #[ty, ty, ty, ty, ty, ty, ty, fy, fy, fy, fy, fy, fy, fy, fy, fy] rfl rfl (aO_ HT_.out (by kernel_rfl)) (fun _ _ _ h => h) (Or.inl ⟨by rfl, ?_⟩) ?_ ?_; rotate_left; (intro w'; go_simp; with_reducible rfl); rotate_left; (simp only [Act.put, sA_, sB_, sC_, i6_, i3_]; rfl)
      refine pure_ (i := 7) (N := some 26) (v := ?_) (a' := ?_) #[ty, ty, ty, ty, ty, ty, ty, ty, fy, fy, fy, fy, fy, fy, fy, fy] rfl rfl (aO_ HT_.out (by kernel_rfl)) (fun _ _ _ h => h) (Or.inl ⟨by rfl, ?_⟩) ?_ ?_; rotate_left; (intro w'; go_simp; with_reducible rfl); rotate_left; (simp only [Act.put, sA_, sB_, sC_, i6_, i3_]; rfl)
      refine pure_ (i := 8) (N := some 27) (v := ?_) (a' := ?_) #[ty, ty, ty, ty, ty, ty, ty, ty, ty, fy, fy, fy, fy, fy, fy, fy] rfl rfl (aO_ HT_.out (by kernel_rfl)) (fun _ _ _ h => h) (Or.inl ⟨by rfl, ?_⟩) ?_ ?_; rotate_left; (intro w'; go_simp; with_reducible rfl); rotate_left; (simp only [Act.put, sA_, sB_, sC_, i6_, i3_]; rfl)
      refine pure_ (i := 11) (N := some 30) (v := ?_) (a' := ?_) #[ty, ty, ty, ty, ty, ty, ty, ty, ty, fy, fy, ty, fy, fy, fy, fy] rfl rfl (aO_ HT_.out (by kernel_rfl)) (fun _ _ _ h => h) (Or.inl ⟨by rfl, ?_⟩) ?_ ?_; rotate_left; (intro w'; go_simp; with_reducible rfl); rotate_left; (simp only [Act.put, sA_, sB_, sC_, i6_, i3_]; rfl)
      refine take_ (i := 12) (N := some 31) (v := ?_) (a' := ?_) #[ty, ty, ty, ty, ty, ty, ty, ty, ty, fy, fy, ty, ty, fy, fy, fy] rfl rfl (tW_ HT_.out HW_.out (by kernel_rfl)) (fun _ _ _ h => h) (Or.inl ⟨by rfl, ?_⟩) hHeld ?_ ?_; rotate_left; (intro w' s0; go_simp; with_reducible rfl); rotate_left; (simp only [Act.put, sA_, sB_, sC_, i6_, i3_]; rfl)
      refine one_ (i := 9) (N := some 28) #[ty, ty, ty, ty, ty, ty, ty, ty, ty, ty, fy, ty, ty, fy, fy, fy] rfl rfl (one_of HT_.out (by kernel_rfl)) (by decide) (fun K hK => ?_)
      refine goes_ Try.func51 (by kernel_rfl) rfl #[.slice Ao21 t352.length co21] (by rfl) rfl rfl (by (try simp only [sD_, sE_, sF_]); rfl) ?_
      with_reducible refine (impl_trieOf.calls kj2 _ _ t352 t356 _ ?side1 ?side2 A16.out).mono ?_
      (case side1 => repeat (first | exact (kR_ HO354.out).2.2 | (with_reducible refine Kd.C_alloc ?_ _) | (with_reducible refine Kd.C_drewN ?_ _) | (with_reducible refine Kd.C_drew ?_)))
      (case side2 => exact (kR_ HO354.out).2.1)
      rintro e w22 ⟨v357, rfl, ho0, hb⟩
      refine ⟨_, rfl, ?_⟩
      have n0_ := aM_ (kB_ (by (with_reducible repeat (first | apply k1_ | apply k2_ | apply k3_)); exact HO354.out) hb)
      have n1_ := aM_ (k5_ ho0 (bZ_ (by repeat (first | (with_reducible first | exact HB.out | apply bA_ | apply bN_ | apply bD_ | refine bS_ ?_ GE346.out) | exact HB.out))))
      have n2_ := aM_ (bB_ (g := gb346) (o := .cells #[.slice A0_0 l0_0.length c0_0] 30 (0, 0)) (by (with_reducible repeat (first | refine b2_ ?_ _ | refine b1_ ?_ | refine b3_ ?_ _)); exact BK346.out) hb)
      have n3_ := aM_ (bT_ (by repeat (first | (with_reducible first | exact HB.out | apply bA_ | apply bN_ | apply bD_ | refine bS_ ?_ GE346.out) | exact HB.out)) hb)
      clear HO354
      clear BK346
      clear HB
      have HO354 := n0_
      have HO358 := n1_
      have BK346 := n2_
      have HB := n3_
      clear n0_ n1_ n2_ n3_
      (try clear hb)
      (try clear ho0)
      obtain ⟨Ao23, co23, eo23⟩ := kS_ HO358.out
      (subst eo23)
      refine hK.out _ _ ((bC_ BK346.out 0).trans rfl) (fun hHeld => ?_)
      clear hK K
      refine norm_ (a' := ?_) ?_ ?_; rotate_left; (show Act.put _ (some 28) _ = _; simp only [Act.put, sA_, sB_, sC_, i6_, i3_]; rfl)
      refine pure_ (i := 10) (N := some 29) (v := ?_) (a' := ?_) #[ty, ty, ty, ty, ty, ty, ty, ty, ty, ty, ty, ty, ty, fy, fy, fy] rfl rfl (aO_ HT_.out (by kernel_rfl)) (fun _ _ _ h => h) (Or.inl ⟨by rfl, ?_⟩) ?_ ?_; rotate_left; (intro w'; go_simp; with_reducible rfl); rotate_left; (simp only [Act.put, sA_, sB_, sC_, i6_, i3_]; rfl)
      refine one_ (i := 13) (N := some 32) #[ty, ty, ty, ty, ty, ty, ty, ty, ty, ty, ty, ty, ty, ty, fy, fy] rfl rfl (one_of HT_.out (by kernel_rfl)) (by decide) (fun K hK => ?_)
      refine goes_ Try.func50 (by kernel_rfl) rfl #[.slice Ao23 t356.length co23, .slice A0_0 l0_0.length c0_0] (by rfl) rfl rfl (by (try simp only [sD_, sE_, sF_]); rfl) ?_
      with_reducible refine (impl_Node.calls kj2 _ _ t356 _ _ l0_0 t359 _ ?side1 ?side2 ?side3 ?side4 A17.out).mono ?_
      (case side1 => repeat (first | exact (kR_ HO358.out).2.2 | (with_reducible refine Kd.C_alloc ?_ _) | (with_reducible refine Kd.C_drewN ?_ _) | (with_reducible refine Kd.C_drew ?_)))
      (case side2 => exact (kR_ HO358.out).2.1)
      (case side3 => repeat (first | exact (k4_ HR0_0.out HB.out) | (with_reducible refine Kd.C_alloc ?_ _) | (with_reducible refine Kd.C_drewN ?_ _) | (with_reducible refine Kd.C_drew ?_)))
      (case side4 => exact HC0_0.out)
      rintro e w' ⟨rfl, ⟨nd, rfl⟩⟩
      refine ⟨_, rfl, ?_⟩
      refine hK.out _ _ ((bC_ BK346.out 0).trans rfl) (fun hHeld => ?_)
      clear hK K
      refine norm_ (a' := ?_) ?_ ?_; rotate_left; (show Act.put _ (some 32) _ = _; simp only [Act.put, sA_, sB_, sC_, i6_, i3_]; rfl)
      refine pure_ (i := 14) (N := some 33) (v := ?_) (a' := ?_) #[ty, ty, ty, ty, ty, ty, ty, ty, ty, ty, ty, ty, ty, ty, ty, fy] rfl rfl (aO_ HT_.out (by kernel_rfl)) (fun _ _ _ h => h) (Or.inl ⟨by rfl, ?_⟩) ?_ ?_; rotate_left; (intro w'; go_simp; with_reducible rfl); rotate_left; (simp only [Act.put, sA_, sB_, sC_, i6_, i3_]; rfl)
      refine pure_ (i := 15) (N := some 2) (v := ?_) (a' := ?_) #[ty, ty, ty, ty, ty, ty, ty, ty, ty, ty, ty, ty, ty, ty, ty, ty] rfl rfl (aO_ HT_.out (by kernel_rfl)) (fun _ _ _ h => h) (Or.inl ⟨by rfl, ?_⟩) ?_ ?_; rotate_left; (intro w'; go_simp; with_reducible rfl); rotate_left; (simp only [Act.put, sA_, sB_, sC_, i6_, i3_]; rfl)
      refine done_ (done_of HT_.out (by kernel_rfl)) ?_
      try go_wp2
      go_ret
      exact ⟨by rfl, by repeat (first | (with_reducible first | exact HB.out | apply bA_ | apply bN_ | apply bD_ | refine bS_ ?_ GE346.out) | exact HB.out)⟩
     ·
      replace c15 := Bool.eq_false_iff.mpr c15
      subst c15
      have H1 : (some false) = some r := by rw [if_neg (show ¬ (false = true) by decide)] at H; exact H
      clear H
      have H := H1
      clear H1
      obtain rfl := Option.some.inj H
      have hcz24_0 : wc.cell? ⟨gb346, 0, none⟩ = some (.slice A0_0 l0_0.length c0_0) := (bC_ BK346.out 0).trans rfl
      have hfz24_0 := bF_ BK346.out 0
      try go_wp2_with (first | ((with_reducible refine gC_ (f := 48) rfl ?_); refine goesL_ (some 18) rfl rfl Try.func48 (by kernel_rfl) rfl #[.agg #[.slice A0_0 l0_0.length c0_0]] rfl (by (try simp only [sD_, sE_, sF_]); rfl) ?_; (with_reducible refine (impl_Trie_words.calls kj2 _ _ l0_0 t352 _ ?side1 ?side2 A12.out).mono ?_); (case side1 => repeat (first | exact (k4_ HR0_0.out HB.out) | (with_reducible refine Kd.C_alloc ?_ _) | (with_reducible refine Kd.C_drewN ?_ _) | (with_reducible refine Kd.C_drew ?_))); (case side2 => exact HC0_0.out); rintro e w25 ⟨v353, rfl, ho0, hb⟩; refine ⟨_, rfl, ?_⟩; have HO354 := aM_ (k5_ ho0 (bZ_ HB.out)); replace BK346 := aM_ (bB_ BK346.out hb); replace HB := aM_ (bT_ HB.out hb); (try clear hb); (try clear ho0)))
      have n0_ := aM_ (k3_ HO354.out)
      have n1_ := aM_ (b1_ BK346.out)
      have n2_ := aM_ (bD_ HB.out)
      clear HO354
      clear BK346
      clear HB
      have HO354 := n0_
      have BK346 := n1_
      have HB := n2_
      clear n0_ n1_ n2_
      obtain ⟨Ao27, co27, eo27⟩ := kS_ HO354.out
      (subst eo27)
      refine start_ (n := 16) (S := fun w' => True) (ds := []) #[fy, fy, fy, fy, fy, fy, fy, fy, fy, fy, fy, fy, fy, fy, fy, fy] (by kernel_rfl) rfl rfl trivial (fun hHeld => ?_); refine with_tabW impl_isTrie.tab5 impl_isTrie.bits5 (fun HT_ HW_ => ?_)
      generalize w25.drew = w26 at HO354 BK346 HB hHeld ⊢
      refine pure_ (i := 0) (N := some 19) (v := ?_) (a' := ?_) #[ty, fy, fy, fy, fy, fy, fy, fy, fy, fy, fy, fy, fy, fy, fy, fy] rfl rfl (aO_ HT_.out (by kernel_rfl)) (fun _ _ _ h => h) (Or.inl ⟨by rfl, ?_⟩) ?_ ?_; rotate_left; (intro w'; go_simp; with_reducible rfl); rotate_left; (simp only [Act.put, sA_, sB_, sC_, i6_, i3_]; rfl)
      refine pure_ (i := 1) (N := some 20) (v := ?_) (a' := ?_) #[ty, ty, fy, fy, fy, fy, fy, fy, fy, fy, fy, fy, fy, fy, fy, fy] rfl rfl (aO_ HT_.out (by kernel_rfl)) (fun _ _ _ h => h) (Or.inl ⟨by rfl, ?_⟩) ?_ ?_; rotate_left; (intro w'; go_simp; with_reducible rfl); rotate_left; (simp only [Act.put, sA_, sB_, sC_, i6_, i3_]; rfl)
      refine pure_ (i := 2) (N := some 21) (v := ?_) (a' := ?_) #[ty, ty, ty, fy, fy, fy, fy, fy, fy, fy, fy, fy, fy, fy, fy, fy] rfl rfl (aO_ HT_.out (by kernel_rfl)) (fun _ _ _ h => h) (Or.inl ⟨by rfl, ?_⟩) ?_ ?_; rotate_left; (intro w'; go_simp; with_reducible rfl); rotate_left; (simp only [Act.put, sA_, sB_, sC_, i6_, i3_]; rfl)
      refine pure_ (i := 3) (N := some 22) (v := ?_) (a' := ?_) #[ty, ty, ty, ty, fy, fy, fy, fy, fy, fy, fy, fy, fy, fy, fy, fy] rfl rfl (aO_ HT_.out (by kernel_rfl)) (fun _ _ _ h => h) (Or.inl ⟨by rfl, ?_⟩) ?_ ?_; rotate_left; (intro w'; go_simp; with_reducible rfl); rotate_left; (simp only [Act.put, sA_, sB_, sC_, i6_, i3_]; rfl)
      refine pure_ (i := 4) (N := some 23) (v := ?_) (a' := ?_) #[ty, ty, ty, ty, ty, fy, fy, fy, fy, fy, fy, fy, fy, fy, fy, fy] rfl rfl (aO_ HT_.out (by kernel_rfl)) (fun _ _ _ h => h) (Or.inl ⟨by rfl, ?_⟩) ?_ ?_; rotate_left; (intro w'; go_simp; with_reducible rfl); rotate_left; (simp only [Act.put, sA_, sB_, sC_, i6_, i3_]; rfl)
      refine one_ (i := 5) (N := some 24) #[ty, ty, ty, ty, ty, ty, fy, fy, fy, fy, fy, fy, fy, fy, fy, fy] rfl rfl (one_of HT_.out (by kernel_rfl)) (by decide) (fun K hK => ?_)
      refine goes_ Try.func49 (by kernel_rfl) rfl #[.slice Ao27 t352.length co27] (by rfl) rfl rfl (by (try simp only [sD_, sE_, sF_]); rfl) ?_
      with_reducible refine (slices_IsSorted_string_string.calls kj2 _ _ t352 false _ ?side1 ?side2 A14.out).mono ?_
      (case side1 => repeat (first | exact (kR_ HO354.out).2.2 | (with_reducible refine Kd.C_alloc ?_ _) | (with_reducible refine Kd.C_drewN ?_ _) | (with_reducible refine Kd.C_drew ?_)))
      (case side2 => exact (kR_ HO354.out).2.1)
      rintro e w' ⟨rfl, ⟨nd, rfl⟩⟩
      refine ⟨_, rfl, ?_⟩
      refine hK.out _ _ trivial (fun hHeld => ?_)
      clear hK K
      refine norm_ (a' := ?_) ?_ ?_; rotate_left; (show Act.put _ (some 24) _ = _; simp only [Act.put, sA_, sB_, sC_, i6_, i3_]; rfl)
      refine pure_ (i := 6) (N := some 25) (v := ?_) (a' := ?_) #[ty, ty, ty, ty, ty, ty, ty, fy, fy, fy, fy, fy, fy, fy, fy, fy] rfl rfl (aO_ HT_.out (by kernel_rfl)) (fun _ _ _ h => h) (Or.inl ⟨by rfl, ?_⟩) ?_ ?_; rotate_left; (intro w'; go_simp; with_reducible rfl); rotate_left; (simp only [Act.put, sA_, sB_, sC_, i6_, i3_]; rfl)
      refine pure_ (i := 7) (N := some 26) (v := ?_) (a' := ?_) #[ty, ty, ty, ty, ty, ty, ty, ty, fy, fy, fy, fy, fy, fy, fy, fy] rfl rfl (aO_ HT_.out (by kernel_rfl)) (fun _ _ _ h => h) (Or.inl ⟨by rfl, ?_⟩) ?_ ?_; rotate_left; (intro w'; go_simp; with_reducible rfl); rotate_left; (simp only [Act.put, sA_, sB_, sC_, i6_, i3_]; rfl)
      refine pure_ (i := 8) (N := some 27) (v := undef) (a' := ?_) #[ty, ty, ty, ty, ty, ty, ty, ty, ty, fy, fy, fy, fy, fy, fy, fy] rfl rfl (aO_ HT_.out (by kernel_rfl)) (fun _ _ _ h => h) (Or.inr ⟨by rfl, rfl⟩) ?_ ?_
      rotate_left
      ·
       simp only [Act.put, sA_, sB_, sC_, i6_, i3_]
       rfl
      refine pure_ (i := 9) (N := some 28) (v := undef) (a' := ?_) #[ty, ty, ty, ty, ty, ty, ty, ty, ty, ty, fy, fy, fy, fy, fy, fy] rfl rfl (aO_ HT_.out (by kernel_rfl)) (fun _ _ _ h => h) (Or.inr ⟨by rfl, rfl⟩) ?_ ?_
      rotate_left
      ·
       simp only [Act.put, sA_, sB_, sC_, i6_, i3_]
       rfl
      refine pure_ (i := 10) (N := some 29) (v := undef) (a' := ?_) #[ty, ty, ty, ty, ty, ty, ty, ty, ty, ty, ty, fy, fy, fy, fy, fy] rfl rfl (aO_ HT_.out (by kernel_rfl)) (fun _ _ _ h => h) (Or.inr ⟨by rfl, rfl⟩) ?_ ?_
      rotate_left
      ·
       simp only [Act.put, sA_, sB_, sC_, i6_, i3_]
       rfl
      refine pure_ (i := 11) (N := some 30) (v := undef) (a' := ?_) #[ty, ty, ty, ty, ty, ty, ty, ty, ty, ty, ty, ty, fy, fy, fy, fy] rfl rfl (aO_ HT_.out (by kernel_rfl)) (fun _ _ _ h => h) (Or.inr ⟨by rfl, rfl⟩) ?_ ?_
      rotate_left
      ·
       simp only [Act.put, sA_, sB_, sC_, i6_, i3_]
       rfl
      refine pure_ (i := 12) (N := some 31) (v := undef) (a' := ?_) #[ty, ty, ty, ty, ty, ty, ty, ty, ty, ty, ty, ty, ty, fy, fy, fy] rfl rfl (aO_ HT_.out (by kernel_rfl)) (fun _ _ _ h => h) (Or.inr ⟨by rfl, rfl⟩) ?_ ?_
      rotate_left
      ·
       simp only [Act.put, sA_, sB_, sC_, i6_, i3_]
       rfl
      refine pure_ (i := 13) (N := some 32) (v := undef) (a' := ?_) #[ty, ty, ty, ty, ty, ty, ty, ty, ty, ty, ty, ty, ty, ty, fy, fy] rfl rfl (aO_ HT_.out (by kernel_rfl)) (fun _ _ _ h => h) (Or.inr ⟨by rfl, rfl⟩) ?_ ?_
      rotate_left
      ·
       simp only [Act.put, sA_, sB_, sC_, i6_, i3_]
       rfl
      refine pure_ (i := 14) (N := some 33) (v := ?_) (a' := ?_) #[ty, ty, ty, ty, ty, ty, ty, ty, ty, ty, ty, ty, ty, ty, ty, fy] rfl rfl (aO_ HT_.out (by kernel_rfl)) (fun _ _ _ h => h) (Or.inl ⟨by rfl, ?_⟩) ?_ ?_; rotate_left; (intro w'; go_simp; with_reducible rfl); rotate_left; (simp only [Act.put, sA_, sB_, sC_, i6_, i3_]; rfl)
      refine pure_ (i := 15) (N := some 2) (v := ?_) (a' := ?_) #[ty, ty, ty, ty, ty, ty, ty, ty, ty, ty, ty, ty, ty, ty, ty, ty] rfl rfl (aO_ HT_.out (by kernel_rfl)) (fun _ _ _ h => h) (Or.inl ⟨by rfl, ?_⟩) ?_ ?_; rotate_left; (intro w'; go_simp; with_reducible rfl); rotate_left; (simp only [Act.put, sA_, sB_, sC_, i6_, i3_]; rfl)
      refine done_ (done_of HT_.out (by kernel_rfl)) ?_
      try go_wp2
      go_ret
      exact ⟨by rfl, by repeat (first | (with_reducible first | exact HB.out | apply bA_ | apply bN_ | apply bD_ | refine bS_ ?_ GE346.out) | exact HB.out)⟩
    ·
     rw [if_neg c13] at H
     have c13b0 := decide_eq_false c13
     have c13b1 : decide (t352.length ≤ 40) = false := decide_eq_false (by omega)
     clear c13
     obtain rfl := Option.some.inj H
     have hcz28_0 : wc.cell? ⟨gb346, 0, none⟩ = some (.slice A0_0 l0_0.length c0_0) := (bC_ BK346.out 0).trans rfl
     have hfz28_0 := bF_ BK346.out 0
     try go_wp2_with (first | ((with_reducible refine gC_ (f := 48) rfl ?_); refine goesL_ (some 18) rfl rfl Try.func48 (by kernel_rfl) rfl #[.agg #[.slice A0_0 l0_0.length c0_0]] rfl (by (try simp only [sD_, sE_, sF_]); rfl) ?_; (with_reducible refine (impl_Trie_words.calls kj2 _ _ l0_0 t352 _ ?side1 ?side2 A12.out).mono ?_); (case side1 => repeat (first | exact (k4_ HR0_0.out HB.out) | (with_reducible refine Kd.C_alloc ?_ _) | (with_reducible refine Kd.C_drewN ?_ _) | (with_reducible refine Kd.C_drew ?_))); (case side2 => exact HC0_0.out); rintro e w29 ⟨v353, rfl, ho0, hb⟩; refine ⟨_, rfl, ?_⟩; have HO354 := aM_ (k5_ ho0 (bZ_ HB.out)); replace BK346 := aM_ (bB_ BK346.out hb); replace HB := aM_ (bT_ HB.out hb); (try clear hb); (try clear ho0)))
     have n0_ := aM_ (k3_ HO354.out)
     have n1_ := aM_ (b1_ BK346.out)
     have n2_ := aM_ (bD_ HB.out)
     clear HO354
     clear BK346
     clear HB
     have HO354 := n0_
     have BK346 := n1_
     have HB := n2_
     clear n0_ n1_ n2_
     obtain ⟨Ao31, co31, eo31⟩ := kS_ HO354.out
     (subst eo31)
     refine start_ (n := 16) (S := fun w' => True) (ds := []) #[fy, fy, fy, fy, fy, fy, fy, fy, fy, fy, fy, fy, fy, fy, fy, fy] (by kernel_rfl) rfl rfl trivial (fun hHeld => ?_); refine with_tabW impl_isTrie.tab5 impl_isTrie.bits5 (fun HT_ HW_ => ?_)
     generalize w29.drew = w30 at HO354 BK346 HB hHeld ⊢
     refine pure_ (i := 0) (N := some 19) (v := ?_) (a' := ?_) #[ty, fy, fy, fy, fy, fy, fy, fy, fy, fy, fy, fy, fy, fy, fy, fy] rfl rfl (aO_ HT_.out (by kernel_rfl)) (fun _ _ _ h => h) (Or.inl ⟨by rfl, ?_⟩) ?_ ?_; rotate_left; (intro w'; go_simp; with_reducible rfl); rotate_left; (simp only [Act.put, sA_, sB_, sC_, i6_, i3_]; rfl)
     refine pure_ (i := 1) (N := some 20) (v := ?_) (a' := ?_) #[ty, ty, fy, fy, fy, fy, fy, fy, fy, fy, fy, fy, fy, fy, fy, fy] rfl rfl (aO_ HT_.out (by kernel_rfl)) (fun _ _ _ h => h) (Or.inl ⟨by rfl, ?_⟩) ?_ ?_; rotate_left; (intro w'; go_simp; with_reducible rfl); rotate_left; (simp only [Act.put, sA_, sB_, sC_, i6_, i3_]; rfl)
     refine pure_ (i := 2) (N := some 21) (v := ?_) (a' := ?_) #[ty, ty, ty, fy, fy, fy, fy, fy, fy, fy, fy, fy, fy, fy, fy, fy] rfl rfl (aO_ HT_.out (by kernel_rfl)) (fun _ _ _ h => h) (Or.inl ⟨by rfl, ?_⟩) ?_ ?_; rotate_left; (intro w'; go_simp; with_reducible rfl); rotate_left; (simp only [Act.put, sA_, sB_, sC_, i6_, i3_]; rfl)
     refine pure_ (i := 3) (N := some 22) (v := ?_) (a' := ?_) #[ty, ty, ty, ty, fy, fy, fy, fy, fy, fy, fy, fy, fy, fy, fy, fy] rfl rfl (aO_ HT_.out (by kernel_rfl)) (fun _ _ _ h => h) (Or.inl ⟨by rfl, ?_⟩) ?_ ?_; rotate_left; (intro w'; go_simp; with_reducible rfl); rotate_left; (simp only [Act.put, sA_, sB_, sC_, i6_, i3_]; rfl)
     refine pure_ (i := 4) (N := some 23) (v := undef) (a' := ?_) #[ty, ty, ty, ty, ty, fy, fy, fy, fy, fy, fy, fy, fy, fy, fy, fy] rfl rfl (aO_ HT_.out (by kernel_rfl)) (fun _ _ _ h => h) (Or.inr ⟨by rfl, rfl⟩) ?_ ?_
     rotate_left
     ·
      simp only [Act.put, sA_, sB_, sC_, i6_, i3_]
      rfl
     refine pure_ (i := 5) (N := some 24) (v := undef) (a' := ?_) #[ty, ty, ty, ty, ty, ty, fy, fy, fy, fy, fy, fy, fy, fy, fy, fy] rfl rfl (aO_ HT_.out (by kernel_rfl)) (fun _ _ _ h => h) (Or.inr ⟨by rfl, rfl⟩) ?_ ?_
     rotate_left
     ·
      simp only [Act.put, sA_, sB_, sC_, i6_, i3_]
      rfl
     refine pure_ (i := 6) (N := some 25) (v := ?_) (a' := ?_) #[ty, ty, ty, ty, ty, ty, ty, fy, fy, fy, fy, fy, fy, fy, fy, fy] rfl rfl (aO_ HT_.out (by kernel_rfl)) (fun _ _ _ h => h) (Or.inl ⟨by rfl, ?_⟩) ?_ ?_; rotate_left; (intro w'; go_simp; with_reducible rfl); rotate_left; (simp only [Act.put, sA_, sB_, sC_, i6_, i3_]; rfl)
     refine pure_ (i := 7) (N := some 26) (v := ?_) (a' := ?_) #[ty, ty, ty, ty, ty, ty, ty, ty, fy, fy, fy, fy, fy, fy, fy, fy] rfl rfl (aO_ HT_.out (by kernel_rfl)) (fun _ _ _ h => h) (Or.inl ⟨by rfl, ?_⟩) ?_ ?_; rotate_left; (intro w'; go_simp; with_reducible rfl); rotate_left; (simp only [Act.put, sA_, sB_, sC_, i6_, i3_]; rfl)
     refine pure_ (i := 8) (N := some 27) (v := undef) (a' := ?_) #[ty, ty, ty, ty, ty, ty, ty, ty, ty, fy, fy, fy, fy, fy, fy, fy] rfl rfl (aO_ HT_.out (by kernel_rfl)) (fun _ _ _ h => h) (Or.inr ⟨by rfl, rfl⟩) ?_ ?_
     rotate_left
     ·
      simp only [Act.put, sA_, sB_, sC_, i6_, i3_]
      rfl
     refine pure_ (i := 9) (N := some 28) (v := undef) (a' := ?_) #[ty, ty, ty, ty, ty, ty, ty, ty, ty, ty, fy, fy, fy, fy, fy, fy] rfl rfl (aO_ HT_.out (by kernel_rfl)) (fun _ _ _ h => h) (Or.inr ⟨by rfl, rfl⟩) ?_ ?_
     rotate_left
     ·
      simp only [Act.put, sA_, sB_, sC_, i6_, i3_]
      rfl
     refine pure_ (i := 10) (N := some 29) (v := undef) (a' := ?_) #[ty, ty, ty, ty, ty, ty, ty, ty, ty, ty, ty, fy, fy, fy, fy, fy] rfl rfl (aO_ HT_.out (by kernel_rfl)) (fun _ _ _ h => h) (Or.inr ⟨by rfl, rfl⟩) ?_ ?_
     rotate_left
     ·
      simp only [Act.put, sA_, sB_, sC_, i6_, i3_]
      rfl
     refine pure_ (i := 11) (N := some 30) (v := undef) (a' := ?_) #[ty, ty, ty, ty, ty, ty, ty, ty, ty, ty, ty, ty, fy, fy, fy, fy] rfl rfl (aO_ HT_.out (by kernel_rfl)) (fun _ _ _ h => h) (Or.inr ⟨by rfl, rfl⟩) ?_ ?_
     rotate_left
     ·
      simp only [Act.put, sA_, sB_, sC_, i6_, i3_]
      rfl
     refine pure_ (i := 12) (N := some 31) (v := undef) (a' := ?_) #[ty, ty, ty, ty, ty, ty, ty, ty, ty, ty, ty, ty, ty, fy, fy, fy] rfl rfl (aO_ HT_.out (by kernel_rfl)) (fun _ _ _ h => h) (Or.inr ⟨by rfl, rfl⟩) ?_ ?_
     rotate_left
     ·
      simp only [Act.put, sA_, sB_, sC_, i6_, i3_]
      rfl
     refine pure_ (i := 13) (N := some 32) (v := undef) (a' := ?_) #[ty, ty, ty, ty, ty, ty, ty, ty, ty, ty, ty, ty, ty, ty, fy, fy] rfl rfl (aO_ HT_.out (by kernel_rfl)) (fun _ _ _ h => h) (Or.inr ⟨by rfl, rfl⟩) ?_ ?_
     rotate_left
     ·
      simp only [Act.put, sA_, sB_, sC_, i6_, i3_]
      rfl
     refine pure_ (i := 14) (N := some 33) (v := ?_) (a' := ?_) #[ty, ty, ty, ty, ty, ty, ty, ty, ty, ty, ty, ty, ty, ty, ty, fy] rfl rfl (aO_ HT_.out (by kernel_rfl)) (fun _ _ _ h => h) (Or.inl ⟨by rfl, ?_⟩) ?_ ?_; rotate_left; (intro w'; go_simp; with_reducible rfl); rotate_left; (simp only [Act.put, sA_, sB_, sC_, i6_, i3_]; rfl)
     refine pure_ (i := 15) (N := some 2) (v := ?_) (a' := ?_) #[ty, ty, ty, ty, ty, ty, ty, ty, ty, ty, ty, ty, ty, ty, ty, ty] rfl rfl (aO_ HT_.out (by kernel_rfl)) (fun _ _ _ h => h) (Or.inl ⟨by rfl, ?_⟩) ?_ ?_; rotate_left; (intro w'; go_simp; with_reducible rfl); rotate_left; (simp only [Act.put, sA_, sB_, sC_, i6_, i3_]; rfl)
     refine done_ (done_of HT_.out (by kernel_rfl)) ?_
     try go_wp2
     go_ret
     exact ⟨by rfl, by exact HB.out⟩
end Go.Proofs.Ytnnkedeohfbkeaa.P
namespace Go.Proofs.Ytnnkedeohfbkeaa.P
open Go.RowKit Go.Proofs.YtnnkedeohfbkeaaW.PrintWords Go.Proofs.YtnnkedeohfbkeaaW.PrintLast Go.Proofs.YtnnkedeohfbkeaaW.PrintMore
attribute [local go_sem] max2_int min2_int max_two min_two max_three min_three max_four min_four
namespace DF
theorem gd {α : Type} (l : List α) (z : α) {j : Nat} (h : j < l.length) : l.getD j z = l[j] := by rw [List.getD_eq_getElem?_getD, List.getElem?_eq_getElem h]; rfl
theorem idx_spec {α : Type} (p : α → Bool) (z : α) : ∀ (xs : List α) (k : Nat), (idxByS p xs k = -1 ∧ ∀ j, j < xs.length → p (xs.getD j z) = false) ∨ ∃ i, i < xs.length ∧ idxByS p xs k = ((k + i : Nat) : Int) ∧ p (xs.getD i z) = true ∧ ∀ j, j < i → p (xs.getD j z) = false
 | [], _ => .inl ⟨rfl, fun j hj => absurd hj (by simp)⟩
 | x :: r, k => by
  cases h : p x with
  | true => exact .inr ⟨0, by simp, by simp [idxByS, h], by simpa using h, fun j hj => absurd hj (Nat.not_lt_zero _)⟩
  | false =>
   rcases idx_spec p z r (k + 1) with ⟨e, ha⟩ | ⟨i, hi, e, ht, ha⟩
   ·
    refine .inl ⟨by simp [idxByS, h, e], fun j hj => ?_⟩
    cases j with
    | zero => simpa using h
    | succ j => simpa using ha j (by simpa using hj)
   ·
    refine .inr ⟨i + 1, by simpa using hi, by simp only [idxByS, h]; rw [show (if false = true then (k : Int) else idxByS p r (k + 1)) = idxByS p r (k + 1) from rfl, e]; congr 1; omega, by simpa using ht, fun j hj => ?_⟩
    cases j with
    | zero => simpa using h
    | succ j => simpa using ha j (by omega)
def keep {α : Type} (p : α → Bool) (zs : List α) : List α := zs.filter fun x => !p x
structure Inv {α : Type} (p : α → Bool) (zs : List α) (j i : Nat) (dk : List α) : Prop where
 size : dk.length = zs.length
 low : dk.take i = keep p (zs.take j)
 len : (keep p (zs.take j)).length = i
 lt : i < j
 high : dk.drop j = zs.drop j
theorem keep_self {α : Type} (p : α → Bool) (z : α) (zs : List α) (h : ∀ j, j < zs.length → p (zs.getD j z) = false) : keep p zs = zs := by
 unfold keep
 rw [List.filter_eq_self]
 intro x hx
 obtain ⟨j, hj, rfl⟩ := List.mem_iff_getElem.1 hx
 have := h j hj
 rw [gd _ _ hj] at this
 simp [this]
theorem keep_step {α : Type} (p : α → Bool) (z : α) (zs : List α) (j : Nat) (h : j < zs.length) : keep p (zs.take (j + 1)) = keep p (zs.take j) ++ (if p (zs.getD j z) = true then [] else [zs.getD j z]) := by
 unfold keep
 rw [List.take_succ_eq_append_getElem h, List.filter_append, gd _ _ h]
 congr 1
 cases hq : p zs[j] <;> simp [hq]
theorem Inv.start {α : Type} {p : α → Bool} (z : α) {zs : List α} {i : Nat} (hi : i < zs.length) (ht : p (zs.getD i z) = true) (ha : ∀ j, j < i → p (zs.getD j z) = false) : Inv p zs (i + 1) i zs := by
 have h1 : keep p (zs.take i) = zs.take i := keep_self p z _ (fun j hj => by
  have hj' : j < i := by simp at hj; omega
  have := ha j hj'
  rw [gd _ _ (by omega)] at this
  rw [gd _ _ hj, List.getElem_take]; exact this)
 have h2 : keep p (zs.take (i + 1)) = zs.take i := by rw [keep_step p z zs i hi, h1, if_pos ht, List.append_nil]
 exact ⟨rfl, h2.symm, by rw [h2, List.length_take]; omega, Nat.lt_succ_self _, rfl⟩
theorem Inv.skip {α : Type} {p : α → Bool} (z : α) {zs dk : List α} {j i : Nat} (h : Inv p zs j i dk) (hj : j < zs.length) (hq : p (zs.getD j z) = true) : Inv p zs (j + 1) i dk := by
 have h2 : keep p (zs.take (j + 1)) = keep p (zs.take j) := by rw [keep_step p z zs j hj, if_pos hq, List.append_nil]
 refine ⟨h.size, by rw [h2]; exact h.low, by rw [h2]; exact h.len, by have := h.lt; omega, ?_⟩
 rw [← List.tail_drop, ← List.tail_drop, h.high]
theorem Inv.put {α : Type} {p : α → Bool} (z : α) {zs dk : List α} {j i : Nat} (h : Inv p zs j i dk) (hj : j < zs.length) (hq : p (zs.getD j z) = false) : Inv p zs (j + 1) (i + 1) (dk.set i (zs.getD j z)) := by
 have h2 : keep p (zs.take (j + 1)) = keep p (zs.take j) ++ [zs.getD j z] := by rw [keep_step p z zs j hj, if_neg (by rw [hq]; exact Bool.false_ne_true)]
 have hs := h.size
 have hl := h.lt
 refine ⟨by simpa using h.size, ?_, by rw [h2]; simp [h.len], by omega, ?_⟩
 ·
  have hi : i < dk.length := by omega
  rw [h2, ← h.low]
  rw [List.take_set, List.take_succ_eq_append_getElem hi, List.set_append_right _ _ (by rw [List.length_take]; omega)]
  simp [Nat.min_eq_left (Nat.le_of_lt hi)]
 ·
  rw [List.drop_set_of_lt (by omega), ← List.tail_drop, ← List.tail_drop, h.high]
theorem Inv.at {α : Type} {p : α → Bool} (z : α) {zs dk : List α} {j i : Nat} (h : Inv p zs j i dk) (hj : j < zs.length) : dk[j]? = some (zs.getD j z) := by
 have := congrArg (·[0]?) h.high
 simp only [List.getElem?_drop, Nat.add_zero] at this
 rw [this, List.getElem?_eq_getElem hj, gd _ _ hj]
def Row (w : World) (base B c n : Nat) (dk : List ByteArray) : Prop := w.ownsRow base 9 1 (.slice (some ⟨B, 0, none⟩) n c) n (dk.map Value.string)
theorem Row.below {w W : World} {base B c n : Nat} {dk : List ByteArray} (h : Row w base B c n dk) (hb : Below w.heap.size w W) : Row W base B c n dk := by
 obtain ⟨h1, h2⟩ := h
 refine ⟨h1, ?_⟩
 rcases h2 with h2 | ⟨g, cap, cur, hv, hg, hh, r⟩
 ·
  exact .inl h2
 ·
  exact .inr ⟨g, cap, cur, hv, hg, (hb.block g (Array.getElem?_eq_some_iff.1 hh).1).trans hh, r⟩
theorem Row.base_le {w : World} {base B c n : Nat} {dk : List ByteArray} (h : Row w base B c n dk) : base ≤ B ∧ B < w.heap.size := by
 rcases h.2 with ⟨h2, _⟩ | ⟨g, cap, cur, hv, hg, hh, r⟩
 ·
  cases h2
 ·
  cases hv
  exact ⟨hg, (Array.getElem?_eq_some_iff.1 hh).1⟩
theorem Row.cut {w : World} {base B c n i : Nat} {dk : List ByteArray} (h : Row w base B c n dk) (hi : i < n) : Row (w.setCells B i (List.replicate (n - i) (.string ⟨#[]⟩))) base B c i (dk.take i) := by
 rcases h.2 with ⟨h2, _⟩ | ⟨g, cap, cur, hv, hg, hh, r1, r2, r3, r4⟩
 ·
  cases h2
 ·
  cases hv
  simp only [Nat.mul_one] at r3 r4
  obtain ⟨cur', h3, h4, h5⟩ := setCells_row (List.replicate (n - i) (.string ⟨#[]⟩)) i w cur hh (by simp; omega)
  have hl : (dk.map Value.string).length = n * 1 := h.1
  refine ⟨by simp at hl ⊢; omega, .inr ⟨B, c, cur', rfl, hg, h3, by omega, r2, by simp; omega, ?_⟩⟩
  rw [h5, Nat.mul_one, List.append_assoc, List.take_append_of_le_length (by simp; omega), List.take_take, Nat.min_self, List.map_take, ← r4, List.take_take, Nat.min_eq_left (by omega)]
theorem below_setCells {b B i : Nat} (vs : List Value) {w W : World} (h : Below b w W) (hb : b ≤ B) : Below b w (W.setCells B i vs) := by
 obtain ⟨h1, h2, h3, h4⟩ := setCells_same B vs i W
 exact h.trans ⟨h1, h2, h3, by omega, fun k hk => setCells_far vs i k (by omega)⟩
theorem infoS : (Try.prog.info? 9).map (fun i => (i.zero, i.size, i.bytes)) = some (some (.string ⟨#[]⟩), 1, 16) := by kernel_rfl
theorem zero_of {P : Program} {t : TypeId} {z : Value} {n b : Nat} (h : (P.info? t).map (fun i => (i.zero, i.size, i.bytes)) = some (some z, n, b)) : ∀ w, (zeroValue t).run P w = .ok z w := by
 obtain ⟨i0, hi, hz0, -, -⟩ := info_parts h
 intro w
 simp [zeroValue, typeInfo, hi, hz0]
theorem zero (w : World) : (zeroValue 9).run Try.prog w = .ok (.string ⟨#[]⟩) w := zero_of infoS w
end DF
set_option maxHeartbeats 4000000 in
theorem DeleteFuncStr.calls_n (p : ByteArray → Bool) (g : Nat) (lb : Array Value) (eg : ∀ args w, (callFunc g args).run Try.prog w = .ok (.enter g args) w) (ok : Nat → Prop) (base B c n : Nat) (zs : List ByteArray) (w : World) (hn : Aside0 (zs.length = n))
  (hr : Kd.R Kd.string 9 w base ok (.slice (some ⟨B, 0, none⟩) zs.length c) zs) (hbig : zs.length ≤ 9223372036854775807)
  (hp : ∀ W x, x ∈ zs → Kept w W (· = B) → Calls Try.prog g (#[.string x] ++ lb) W fun e W' => e = .returned (.bool (p x)) ∧ Below W.heap.size W W') :
  Calls Try.prog 68 #[.slice (some ⟨B, 0, none⟩) n c, .func (.func g) #[] lb] w fun e w' => ∃ v, e = .returned v ∧ w'.ownsRow base 9 1 v (DF.keep p zs).length ((DF.keep p zs).map Value.string) ∧ (∀ b, b ≤ base → b ≤ w.heap.size → Below b w w') := by
 have hrow : DF.Row w base B c n zs := by
  have := Kd.own_of_R hr
  rw [hn.out] at this
  exact this
 have hcap : n ≤ c := by
  rcases hrow.2 with ⟨h2, _⟩ | ⟨g, cap, cur, hv, hg, hh, r1, r2, r3, r4⟩
  ·
   cases h2
  ·
   cases hv; exact r1
 have hC : Kd.C Kd.string w (some ⟨B, 0, none⟩) zs.length zs := (Kd.R_reads' hr).2.2
 have HI := Aside0.mk (IndexFuncStr.calls p g lb eg (some ⟨B, 0, none⟩) c zs w hC hbig (fun W x hm hb => hp W x hm (Kept.of_below hb _)))
 have HBB := Aside0.mk hrow.base_le
 have HP := Aside0.mk hp
 rw [hn.out] at HI
 have hn9 : n ≤ 9223372036854775807 := by have := hn.out; omega
 rcases DF.idx_spec p ByteArray.empty zs 0 with ⟨e1, hall⟩ | ⟨k0, hk0, e1, ht, hall⟩
 ·
  rw [e1] at HI
  have HK := Aside0.mk (DF.keep_self p ByteArray.empty zs hall)
  have HROW := Aside0.mk hrow
  clear hp hr hC e1 hall hrow
  go_enter Try.func68, Try.ntmps68
  go_wp2_with (go_at_call 63; refine HI.out.mono ?_; rintro e w' ⟨rfl, hb0⟩; have hb := Aside0.mk hb0; clear hb0)
  go_ret
  refine ⟨_, rfl, ?_, fun b _ h2 => hb.out.mono h2⟩
  rw [HK.out, hn.out]
  exact HROW.out.below hb.out
 ·
  have hk0' : k0 < n := by have := hn.out; omega
  simp only [Nat.zero_add] at e1
  rw [e1] at HI
  have hne1 : ((k0 : Int) == -1) = false := beq_eq_false_iff_ne.2 (by omega)
  have HS := Aside0.mk (DF.Inv.start (p := p) ByteArray.empty hk0 ht hall)
  have HROW := Aside0.mk hrow
  clear hp hr hC e1 ht hall hrow hk0
  go_enter Try.func68, Try.ntmps68
  go_wp2_with (go_at_call 63; refine HI.out.mono ?_; rintro e w1 ⟨rfl, hb0⟩; have hb := Aside0.mk hb0; clear hb0)
  go_loopg [5, 6, 7] n (fun gg s5 s6 _ wr => ∃ (i j : Nat) (dk : List ByteArray), s5 = .int .i64 i ∧ s6 = .int .i64 j ∧ i < j ∧ j ≤ n ∧ n - j ≤ gg ∧ Aside0 (DF.Row wr base B c n dk) ∧ Aside0 (DF.Inv p zs j i dk) ∧ Aside0 (Kept w wr (· = B)) ∧ Aside0 (∀ b, b ≤ base → b ≤ w.heap.size → Below b w wr))
  case atStart => exact ⟨k0, k0 + 1, zs, rfl, by go_num, by omega, by omega, by omega, ⟨HROW.out.below hb.out⟩, HS, ⟨Kept.of_below hb.out _⟩, ⟨fun b _ h2 => hb.out.mono h2⟩⟩
  case round =>
   obtain ⟨i, j, dk, rfl, rfl, hij, hjn, hgg, RW, IV, KP, BL⟩ := hrel
   by_cases hlt : j < n
   ·
    have hltz : (j : Int) < (n : Int) := by omega
    have hinL : (i : Int) < (n : Int) := by omega
    have hjz : j < zs.length := by have := hn.out; omega
    have cj := (RW.out.cellAt j (by omega)).trans (show (dk.map Value.string)[j]? = some (.string (zs.getD j ByteArray.empty)) from by rw [List.getElem?_map, IV.out.at ByteArray.empty hjz]; rfl)
    have hmem : zs.getD j ByteArray.empty ∈ zs := by rw [DF.gd _ _ hjz]; exact List.getElem_mem _
    generalize hu : zs.getD j ByteArray.empty = u at cj hmem
    have C := Aside0.mk hu
    have HZ := Aside0.mk hjz
    clear hu hjz
    have hcall := HP.out wr u hmem KP.out
    clear hmem
    cases hq : p u with
    | false =>
     rw [hq] at hcall
     go_wp2_with fail
     refine hcall.mono ?_
     clear hcall
     rintro e w2 ⟨rfl, hb2⟩
     have RW2 := Aside0.mk (RW.out.below hb2)
     have KP2 := Aside0.mk (KP.out.below hb2)
     have BL2 := Aside0.mk (show ∀ b, b ≤ base → b ≤ w.heap.size → Below b w w2 from fun b h1 h2 => (BL.out b h1 h2).trans (hb2.mono (Nat.le_trans h2 KP.out.1)))
     clear cj hb2
     obtain ⟨old, ho⟩ : ∃ old, dk[i]? = some old := ⟨_, List.getElem?_eq_getElem (by have := IV.out.size; have := hn.out; omega)⟩
     have ci := (RW2.out.cellAt i (by omega)).trans (show (dk.map Value.string)[i]? = some (.string old) from by rw [List.getElem?_map, ho]; rfl)
     have fi := RW2.out.frozenAt i
     have ST := Aside0.mk (RW2.out.stored i (.string u)).1
     clear ho
     go_wp2_with fail
     go_roundg (n - (j + 1))
     case measure => omega
     case rel =>
      refine ⟨i + 1, j + 1, dk.set i u, by go_num, by go_num, by omega, by omega, by omega, ⟨?_⟩, ⟨?_⟩, ⟨?_⟩, ⟨?_⟩⟩
      ·
       have := ST.out
       unfold DF.Row
       rw [List.map_set]; exact this
      ·
       have := IV.out.put ByteArray.empty HZ.out (by rw [C.out]; exact hq)
       rwa [C.out] at this
      ·
       exact KP2.out.setCell (.inl rfl) _
      ·
       exact fun b h1 h2 => (BL2.out b h1 h2).setCell (Nat.le_trans h1 HBB.out.1) _
    | true =>
     rw [hq] at hcall
     go_wp2_with fail
     refine hcall.mono ?_
     clear hcall
     rintro e w2 ⟨rfl, hb2⟩
     have RW2 := Aside0.mk (RW.out.below hb2)
     have KP2 := Aside0.mk (KP.out.below hb2)
     have BL2 := Aside0.mk (show ∀ b, b ≤ base → b ≤ w.heap.size → Below b w w2 from fun b h1 h2 => (BL.out b h1 h2).trans (hb2.mono (Nat.le_trans h2 KP.out.1)))
     clear cj hb2
     go_wp2_with fail
     go_roundg (n - (j + 1))
     case measure => omega
     case rel => exact ⟨i, j + 1, dk, rfl, by go_num, by omega, by omega, by omega, RW2, ⟨IV.out.skip ByteArray.empty HZ.out (by rw [C.out]; exact hq)⟩, KP2, BL2⟩
   ·
    have hltz : ¬ (j : Int) < (n : Int) := by omega
    obtain rfl : j = n := by omega
    have hcl : ∀ ty, (Builtin.clear_ #[50] ty #[.slice (some ⟨B, i, none⟩) (j - i) (c - i)]).run Try.prog wr = .ok (.tuple #[]) (wr.setCells B i (List.replicate (j - i) (.string ⟨#[]⟩))) :=
     fun ty => Lib.run_clear_slice wr _ _ ty _ Try.underlying50 (DF.zero) rfl rfl B i _ _ (by omega) (fun t ht => by
      have h := RW.out.cellAt (i + t) (by omega)
      rw [h, List.getElem?_eq_getElem (by have := IV.out.size; have := hn.out; simp; omega)]; rfl) (fun t ht => RW.out.frozenAt (i + t))
    have RC := Aside0.mk (RW.out.cut hij)
    go_wp2
    go_ret
    refine ⟨_, rfl, ?_, fun b h1 h2 => DF.below_setCells _ (BL.out b h1 h2) (Nat.le_trans h1 HBB.out.1)⟩
    have h1 := IV.out.low
    have h2 := IV.out.len
    rw [show zs.take j = zs from List.take_of_length_le (by have := hn.out; omega)] at h1 h2
    rw [h2, ← h1]
    exact RC.out
set_option maxHeartbeats 1000000 in
theorem IndexFuncStr.calls_nil (g : Nat) (lb : Array Value) (w : World) :
  Calls Try.prog 63 #[.slice none 0 0, .func (.func g) #[] lb] w fun e w' => e = .returned (.int .i64 (-1)) ∧ Below w.heap.size w w' := by
 have HB := Aside0.mk (Below.refl w.heap.size w)
 go_enter Try.func63, Try.ntmps63
 go_wp2
 go_loopg [5, 8] 0 (fun gg _ s8 wr => s8 = .int .i64 0 ∧ Aside0 (Below w.heap.size w wr))
 case atStart => exact ⟨rfl, HB⟩
 case round =>
  obtain ⟨rfl, HB2⟩ := hrel
  go_wp2
  go_ret
  exact ⟨rfl, HB2.out⟩
set_option maxHeartbeats 1000000 in
theorem DeleteFuncStr.calls_nil (p : ByteArray → Bool) (g : Nat) (lb : Array Value) (eg : ∀ args w, (callFunc g args).run Try.prog w = .ok (.enter g args) w) (base : Nat) (w : World) :
  Calls Try.prog 68 #[.slice none 0 0, .func (.func g) #[] lb] w fun e w' => ∃ v, e = .returned v ∧ w'.ownsRow base 9 1 v 0 [] ∧ Below w.heap.size w w' := by
 have HI := Aside0.mk (IndexFuncStr.calls_nil g lb w)
 go_enter Try.func68, Try.ntmps68
 go_wp2_with fail
 refine HI.out.mono ?_
 rintro e w1 ⟨rfl, hb0⟩
 have hb := Aside0.mk hb0
 clear hb0
 go_wp2_with fail
 go_ret
 exact ⟨_, rfl, World.ownsRow_nil _ _ _ _, hb.out⟩
theorem DeleteFuncStr.calls (p : ByteArray → Bool) (g : Nat) (lb : Array Value) (eg : ∀ args w, (callFunc g args).run Try.prog w = .ok (.enter g args) w) (ok : Nat → Prop) (base : Nat) (A : Option Addr) (c : Nat) (zs : List ByteArray) (w : World) (hbw : base ≤ w.heap.size)
  (hr : Kd.R Kd.string 9 w base ok (.slice A zs.length c) zs) (hbig : zs.length ≤ 9223372036854775807)
  (hp : ∀ W x, x ∈ zs → Kept w W (fun k => base ≤ k) → Calls Try.prog g (#[.string x] ++ lb) W fun e W' => e = .returned (.bool (p x)) ∧ Below W.heap.size W W') :
  Calls Try.prog 68 #[.slice A zs.length c, .func (.func g) #[] lb] w fun e w' => ∃ v, e = .returned v ∧ Kd.R Kd.string 9 w' base (fun _ => True) v (DF.keep p zs) ∧ Below base w w' := by
 rcases (Kd.own_of_R hr).2 with ⟨hv, hz⟩ | ⟨B, cap, cur, hv, hg, hh, r⟩
 ·
  have hzs : zs = [] := List.eq_nil_of_length_eq_zero hz
  subst hzs
  cases hv
  refine (DeleteFuncStr.calls_nil p g lb eg base w).mono ?_
  rintro e w' ⟨v, rfl, hrow, hb⟩
  exact ⟨v, rfl, Kd.R_of_own (h1 := fun _ => rfl) hrow (fun _ _ => trivial), hb.mono hbw⟩
 ·
  injection hv with h1 h2 h3
  subst h1
  refine (DeleteFuncStr.calls_n p g lb eg ok base B c zs.length zs w ⟨rfl⟩ hr hbig (fun W x hm hk => hp W x hm (hk.mono (fun k e => e ▸ hg)))).mono ?_
  rintro e w' ⟨v, rfl, hrow, hb⟩
  exact ⟨v, rfl, Kd.R_of_own (h1 := fun _ => rfl) hrow (fun _ _ => trivial), hb base (Nat.le_refl _) hbw⟩
end Go.Proofs.Ytnnkedeohfbkeaa.P
namespace Go.Proofs.Ytnnkedeohfbkeaa.P
open Go.RowKit Go.Proofs.YtnnkedeohfbkeaaW.PrintWords Go.Proofs.YtnnkedeohfbkeaaW.PrintLast Go.Proofs.YtnnkedeohfbkeaaW.PrintMore
attribute [local go_sem] max2_int min2_int max_two min_two max_three min_three max_four min_four
def filt {α : Type} (f : α → Option Bool) (zs : List α) : Option (List α) := if zs.all (fun x => (f x).isSome) = true then some (zs.filter fun x => (f x).getD false) else none
theorem filt_some {α : Type} {f : α → Option Bool} {zs ys : List α} (h : filt f zs = some ys) : ∃ q : α → Bool, (∀ x, x ∈ zs → f x = some (q x)) ∧ ys = zs.filter q := by
 unfold filt at h
 by_cases c : zs.all (fun x => (f x).isSome) = true
 ·
  rw [if_pos c] at h
  cases h
  refine ⟨fun x => (f x).getD false, fun x hx => ?_, rfl⟩
  have := List.all_eq_true.1 c x hx
  obtain ⟨b, hb⟩ := Option.isSome_iff_exists.1 this
  simp [hb]
 ·
  rw [if_neg c] at h; cases h
theorem filt_of {α : Type} {f : α → Option Bool} {zs : List α} (q : α → Bool) (h : ∀ x, x ∈ zs → f x = some (q x)) : filt f zs = some (zs.filter q) := by
 unfold filt
 rw [if_pos (List.all_eq_true.2 fun x hx => by rw [h x hx]; rfl)]
 congr 1
 exact List.filter_congr fun x hx => by rw [h x hx]; rfl
theorem filt_mono {α : Type} {f g : α → Option Bool} (zs : List α) (h : ∀ x, LeO (f x) (g x)) : LeO (filt f zs) (filt g zs) := by
 intro ys hy
 obtain ⟨q, hq, rfl⟩ := filt_some hy
 exact filt_of q fun x hx => h x _ (hq x hx)
def anyf {α : Type} (f : α → Option Bool) (zs : List α) : Option Bool := if zs.all (fun x => (f x).isSome) = true then some (zs.any fun x => (f x).getD false) else none
theorem anyf_some {α : Type} {f : α → Option Bool} {zs : List α} {b : Bool} (h : anyf f zs = some b) : ∃ q : α → Bool, (∀ x, x ∈ zs → f x = some (q x)) ∧ b = zs.any q := by
 unfold anyf at h
 by_cases c : zs.all (fun x => (f x).isSome) = true
 ·
  rw [if_pos c] at h
  cases h
  refine ⟨fun x => (f x).getD false, fun x hx => ?_, rfl⟩
  have := List.all_eq_true.1 c x hx
  obtain ⟨b, hb⟩ := Option.isSome_iff_exists.1 this
  simp [hb]
 ·
  rw [if_neg c] at h; cases h
theorem anyf_of {α : Type} {f : α → Option Bool} {zs : List α} (q : α → Bool) (h : ∀ x, x ∈ zs → f x = some (q x)) : anyf f zs = some (zs.any q) := by
 unfold anyf
 rw [if_pos (List.all_eq_true.2 fun x hx => by rw [h x hx]; rfl)]
 congr 1
 rw [Bool.eq_iff_iff, List.any_eq_true, List.any_eq_true]
 exact ⟨fun ⟨x, hx, e⟩ => ⟨x, hx, by rw [h x hx] at e; exact e⟩, fun ⟨x, hx, e⟩ => ⟨x, hx, by rw [h x hx]; exact e⟩⟩
theorem anyf_mono {α : Type} {f g : α → Option Bool} (zs : List α) (h : ∀ x, LeO (f x) (g x)) : LeO (anyf f zs) (anyf g zs) := by
 intro ys hy
 obtain ⟨q, hq, rfl⟩ := anyf_some hy
 exact anyf_of q fun x hx => h x _ (hq x hx)
def sumf {α : Type} (f : α → Option Int) : List α → Int → Option Int
 | [], a => some a
 | x :: r, a => (f x).bind fun v => sumf f r (wrap64 (a + v))
theorem sumf_mono {α : Type} {f g : α → Option Int} (h : ∀ x, LeO (f x) (g x)) : ∀ (zs : List α) (a : Int), LeO (sumf f zs a) (sumf g zs a)
 | [], _ => LeO.refl _
 | x :: r, a => LeO.bind (h x) fun v => sumf_mono h r _
end Go.Proofs.Ytnnkedeohfbkeaa.P
namespace Go.Proofs.Ytnnkedeohfbkeaa.P
open Go.RowKit Go.Proofs.YtnnkedeohfbkeaaW.PrintWords Go.Proofs.YtnnkedeohfbkeaaW.PrintLast Go.Proofs.YtnnkedeohfbkeaaW.PrintMore
open Go.Proofs.YtnnkedeohfbkeaaW.PrintWords renaming blk_frozen → bF_, blk_cell → bC_, below_set → bS_, blk_below → bB_, below_step → bT_, pw_below_drewN → bN_, below_size → bZ_, below_drew1 → bD_, below_alloc → bA_, blk_far → bR_, gate_callee → gC_, gate_dst → gD_, box_event → bE_, blk_drew → b1_, blk_put → bP_, blk_drewN → b2_, blk_alloc → b3_, blk_lt → bL_, cell_far → cF_
open Go.Proofs.YtnnkedeohfbkeaaW.PrintLast renaming any_of → aO_, i64_w → i6_, i32_w → i3_, take_ofW → tW_
open Go.Proofs.YtnnkedeohfbkeaaW.PrintWords.Kd renaming R_below → kB_, R_mono → kM_, R_far → kF_, R_reads' → kR_, R_types → kT_, R_slice → kS_, R_celln → kC_, R_alloc → k1_, R_drewN → k2_, R_drew → k3_, C_below → k4_, R_lower → k5_, R_ne → k6_, own_blk → k7_
open Go.Proofs.YtnnkedeohfbkeaaW.PrintWords.LeO renaming none → l0_, bind → l1_, ite → l2_, refl → l3_
open World renaming block_lt_of_cell? → wB_
open _root_.Option renaming bind_eq_some_iff → oB_
open _root_.ByteArray renaming empty → eB_
open List renaming setIfInBounds_toArray → sA_, set_cons_zero → sB_, set_cons_succ → sC_, map_toArray → sD_, map_cons → sE_, map_nil → sF_, length_drop → sG_, length_take → sH_
open Bool renaming true → ty, false → fy
open Aside0 renaming mk → aM_
attribute [local go_sem] max2_int min2_int max_two min_two max_three min_three max_four min_four
def stringslite_HasPrefix.f (a0 : ByteArray) (a1 : ByteArray) : Option (Bool) := if (a0.size : Int) ≥ (a1.size : Int) then (if 0 ≤ (a1.size : Int) then (if (a1.size : Int) ≤ (a0.size : Int) then (some ((a0.extract 0 ((a1.size : Int) : Int).toNat).toList == a1.toList)) else (none)) else (none)) else (some false)
theorem stringslite_HasPrefix.calls (a0 : ByteArray) (a1 : ByteArray) (r : Bool) (w : World) (h : stringslite_HasPrefix.f a0 a1 = some r) :
  Calls Try.prog 79 #[.string a0, .string a1] w fun e w' => e = .returned (.bool r) ∧ Drawn0 w w' := by
 have H : (if (a0.size : Int) ≥ (a1.size : Int) then (if 0 ≤ (a1.size : Int) then (if (a1.size : Int) ≤ (a0.size : Int) then (some ((a0.extract 0 ((a1.size : Int) : Int).toNat).toList == a1.toList)) else (none)) else (none)) else (some false)) = some r := h
 clear h
 by_cases c3 : (a0.size : Int) ≥ (a1.size : Int)
 ·
  rw [if_pos c3] at H
  have c3b0 := decide_eq_true c3
  have c3b1 : decide (a1.size ≤ a0.size) = true := decide_eq_true (Int.ofNat_le.mp c3)
  clear c3
  by_cases c4 : 0 ≤ (a1.size : Int)
  rotate_left
  ·
   rw [if_neg c4] at H
   exact absurd H (by simp)
  rw [if_pos c4] at H
  have c4b0 := eq_true c4
  have c4b1 := decide_eq_true c4
  clear c4
  by_cases c5 : (a1.size : Int) ≤ (a0.size : Int)
  rotate_left
  ·
   rw [if_neg c5] at H
   exact absurd H (by simp)
  rw [if_pos c5] at H
  have c5b0 := eq_true c5
  have c5b1 := decide_eq_true c5
  clear c5
  obtain rfl := Option.some.inj H
  go_enter Try.func79, Try.ntmps79
  go_wp2
  go_ret
  exact ⟨by rfl, by repeat (first | exact Drawn0.refl _ | apply Drawn0.step)⟩
 ·
  rw [if_neg c3] at H
  have c3b0 := decide_eq_false c3
  have c3b1 : decide (a1.size ≤ a0.size) = false := decide_eq_false (fun h => c3 (Int.ofNat_le.mpr h))
  clear c3
  obtain rfl := Option.some.inj H
  go_enter Try.func79, Try.ntmps79
  go_wp2
  go_ret
  exact ⟨by rfl, by repeat (first | exact Drawn0.refl _ | apply Drawn0.step)⟩
def strings_HasPrefix.f (a0 : ByteArray) (a1 : ByteArray) : Option (Bool) := (stringslite_HasPrefix.f a0 a1).bind fun t363 => (some t363)
theorem strings_HasPrefix.calls (a0 : ByteArray) (a1 : ByteArray) (r : Bool) (w : World) (h : strings_HasPrefix.f a0 a1 = some r) :
  Calls Try.prog 70 #[.string a0, .string a1] w fun e w' => e = .returned (.bool r) ∧ Drawn0 w w' := by
 have H : ((stringslite_HasPrefix.f a0 a1).bind fun t363 => (some t363)) = some r := h
 clear h
 replace H := oB_.mp H
 obtain ⟨t363, A30, H⟩ := H
 try dsimp only at H
 have A3 := aM_ A30
 clear A30
 obtain rfl := Option.some.inj H
 go_enter Try.func70, Try.ntmps70
 go_wp2_with (first | ((with_reducible refine gC_ (f := 79) rfl ?_); refine goesL_ (some 7) rfl rfl Try.func79 (by kernel_rfl) rfl #[.string a0, .string a1] rfl (by (try simp only [sD_, sE_, sF_]); rfl) ?_; (with_reducible refine (stringslite_HasPrefix.calls a0 a1 t363 _ A3.out).mono ?_); rintro e w' ⟨rfl, ⟨nd, rfl⟩⟩; refine ⟨_, rfl, ?_⟩))
 go_ret
 exact ⟨by rfl, by repeat (first | exact Drawn0.refl _ | apply Drawn0.step)⟩
def impl_Trie_under.f (k : Nat) (l0_0 : List S65) (a1 : ByteArray) : Option (List ByteArray) := (impl_Trie_words.f k l0_0).bind fun ws => if ws.length ≤ 9223372036854775807 then filt (fun x => strings_HasPrefix.f x a1) ws else none
theorem impl_Trie_under.mono : ∀ a0 a1 k, LeO (impl_Trie_under.f k a0 a1) (impl_Trie_under.f (k + 1) a0 a1) := by
 intro a0 a1 k
 exact l1_ (impl_Trie_words.mono _ _) fun ws => l3_ _
set_option maxHeartbeats 1000000 in
theorem impl_Trie_under.lit (a1 x : ByteArray) (b : Bool) (B : Nat) (W : World) (hc : W.cell? ⟨B, 0, none⟩ = some (.string a1)) (h : strings_HasPrefix.f x a1 = some b) :
  Calls Try.prog 69 (#[.string x] ++ #[.pointer (some ⟨B, 0, none⟩)]) W fun e W' => e = .returned (.bool (!b)) ∧ Below W.heap.size W W' := by
 show Calls Try.prog 69 #[.string x, .pointer (some ⟨B, 0, none⟩)] W _
 have HH := aM_ (strings_HasPrefix.calls x a1 b W h)
 clear h
 go_enter Try.func69, Try.ntmps69
 go_wp2_with (go_at_call 70; refine HH.out.mono ?_; rintro e w' ⟨rfl, hd⟩; have HB := aM_ hd; clear hd)
 go_ret
 exact ⟨rfl, HB.out.below⟩
set_option maxHeartbeats 2000000 in
theorem impl_Trie_under.calls (k : Nat) (A0_0 : Option Addr) (c0_0 : Nat) (l0_0 : List S65) (a1 : ByteArray) (r : List ByteArray) (w : World) (hr0_0 : Kd.C k65 w A0_0 l0_0.length l0_0) (hc0_0 : l0_0.length ≤ c0_0) (h : impl_Trie_under.f k l0_0 a1 = some r) :
  Calls Try.prog 57 #[.agg #[.slice A0_0 l0_0.length c0_0], .string a1] w fun e w' => ∃ v0_ : Value, e = .returned v0_ ∧ Kd.R Kd.string 9 w' w.heap.size (fun _ => True) v0_ r ∧ Below w.heap.size w w' := by
 unfold impl_Trie_under.f at h
 cases hw : impl_Trie_words.f k l0_0 with
 | none => rw [hw] at h; cases h
 | some ws =>
 rw [hw, Option.bind_some] at h
 by_cases hl : ws.length ≤ 9223372036854775807
 rotate_left
 ·
  rw [if_neg hl] at h; cases h
 rw [if_pos hl] at h
 obtain ⟨q, hq, hr⟩ := filt_some h
 have HQ := aM_ hq
 have HR := aM_ hr
 have HG := aM_ hl
 have HW1 := aM_ ((Below.refl w.heap.size w).alloc (Nat.le_refl _) (.cells #[.slice A0_0 l0_0.length c0_0] 30))
 have HW2 := aM_ (HW1.out.alloc (by simp) (.cells #[.string a1] 9))
 have HC := aM_ (impl_Trie_words.calls k A0_0 c0_0 l0_0 ws ((w.alloc (.cells #[.slice A0_0 l0_0.length c0_0] 30)).alloc (.cells #[.string a1] 9)) (k4_ hr0_0 HW2.out) hc0_0 hw)
 clear h hq hr hl hw hr0_0
 go_enter Try.func57, Try.ntmps57
 go_wp2_with fail
 refine HC.out.mono ?_
 clear HC
 rintro e w1 ⟨v, rfl, hr, hb0⟩
 obtain ⟨A, c, hv⟩ := kS_ hr
 subst hv
 have HC1 := aM_ ((hb0.cell (p := ⟨w.heap.size + 1, 0, none⟩) (by simp)).trans (show ((w.alloc (.cells #[.slice A0_0 l0_0.length c0_0] 30)).alloc (.cells #[.string a1] 9)).cell? ⟨w.heap.size + 1, 0, none⟩ = some (.string a1) from by simp))
 have HD := aM_ (DeleteFuncStr.calls (fun x => !q x) 69 #[.pointer (some ⟨w.heap.size + 1, 0, none⟩)] (Go.Proofs.enters_of Try.func69 (by kernel_rfl) rfl) (fun _ => True) ((w.alloc (.cells #[.slice A0_0 l0_0.length c0_0] 30)).alloc (.cells #[.string a1] 9)).heap.size A c ws w1 hb0.size hr HG.out (fun W x hm hk => impl_Trie_under.lit a1 x (q x) (w.heap.size + 1) W (Go.Proofs.YtnnkedeohfbkeaaW.PrintWords.cell_kept HC1.out hk (by simp)) (HQ.out x hm)))
 have HB2 := aM_ (HW2.out.trans (hb0.mono HW2.out.size))
 clear hr hb0
 go_wp2_with fail
 refine HD.out.mono ?_
 clear HD
 rintro e w3 ⟨v3, rfl, hr3, hb3⟩
 have H3 := aM_ (And.intro hr3 hb3)
 clear hr3 hb3
 go_wp2_with fail
 go_ret
 refine ⟨_, rfl, ?_, HB2.out.trans (H3.out.2.mono HW2.out.size)⟩
 have := H3.out.1
 simp only [DF.keep, Bool.not_not] at this
 rw [HR.out]
 exact k5_ this HW2.out.size
def impl_Trie_behind.cut (a1 x : ByteArray) : ByteArray := x.extract a1.size x.size
def impl_Trie_behind.f (k : Nat) (l0_0 : List S65) (a1 : ByteArray) : Option (List ByteArray) := (impl_Trie_under.f k l0_0 a1).bind fun ws => if ws.length ≤ 1000000000 ∧ (ws.all fun x => decide (a1.size ≤ x.size ∧ x.size ≤ 1000000000)) = true then some (ws.map (impl_Trie_behind.cut a1)) else none
theorem impl_Trie_behind.mono : ∀ a0 a1 k, LeO (impl_Trie_behind.f k a0 a1) (impl_Trie_behind.f (k + 1) a0 a1) := by
 intro a0 a1 k
 exact l1_ (impl_Trie_under.mono _ _ _) fun ws => l3_ _
def impl_Trie_behind.row (a1 : ByteArray) (ws : List ByteArray) (i : Nat) : List ByteArray := (ws.take i).map (impl_Trie_behind.cut a1) ++ ws.drop i
theorem impl_Trie_behind.row_length (a1 : ByteArray) (ws : List ByteArray) (i : Nat) : (impl_Trie_behind.row a1 ws i).length = ws.length := by
 unfold impl_Trie_behind.row
 rw [List.length_append, List.length_map, List.length_take, List.length_drop]
 omega
theorem impl_Trie_behind.row_get (a1 : ByteArray) (ws : List ByteArray) (i : Nat) (h : i < ws.length) : rdOf eB_ (impl_Trie_behind.row a1 ws i) (i : Int) = rdOf eB_ ws (i : Int) := by
 unfold impl_Trie_behind.row rdOf
 rw [Int.toNat_natCast, List.getD_eq_getElem?_getD, List.getD_eq_getElem?_getD, List.getElem?_append_right (by rw [List.length_map, List.length_take]; omega), List.length_map, List.length_take, List.getElem?_drop]
 rw [show i + (i - min i ws.length) = i from by omega]
theorem impl_Trie_behind.row_set (a1 : ByteArray) (ws : List ByteArray) (i : Nat) (h : i < ws.length) : (impl_Trie_behind.row a1 ws i).set i (impl_Trie_behind.cut a1 (rdOf eB_ ws (i : Int))) = impl_Trie_behind.row a1 ws (i + 1) := by
 unfold impl_Trie_behind.row rdOf
 have hl : ((ws.take i).map (impl_Trie_behind.cut a1)).length = i := by rw [List.length_map, List.length_take]; omega
 rw [List.set_append_right _ _ (by omega), hl, Nat.sub_self, Int.toNat_natCast, List.drop_eq_getElem_cons h, List.set_cons_zero, List.take_succ_eq_append_getElem h, List.map_append, List.append_assoc, List.getD_eq_getElem?_getD, List.getElem?_eq_getElem h]
 rfl
set_option maxHeartbeats 4000000 in
theorem impl_Trie_behind.calls (k : Nat) (A0_0 : Option Addr) (c0_0 : Nat) (l0_0 : List S65) (a1 : ByteArray) (r : List ByteArray) (w : World) (hr0_0 : Kd.C k65 w A0_0 l0_0.length l0_0) (hc0_0 : l0_0.length ≤ c0_0) (h : impl_Trie_behind.f k l0_0 a1 = some r) :
  Calls Try.prog 40 #[.agg #[.slice A0_0 l0_0.length c0_0], .string a1] w fun e w' => ∃ v0_ : Value, e = .returned v0_ ∧ Kd.R Kd.string 9 w' w.heap.size (fun _ => True) v0_ r ∧ Below w.heap.size w w' := by
 unfold impl_Trie_behind.f at h
 cases hw : impl_Trie_under.f k l0_0 a1 with
 | none => rw [hw] at h; cases h
 | some ws =>
 rw [hw, Option.bind_some] at h
 by_cases hl : ws.length ≤ 1000000000 ∧ (ws.all fun x => decide (a1.size ≤ x.size ∧ x.size ≤ 1000000000)) = true
 rotate_left
 ·
  rw [if_neg hl] at h; cases h
 rw [if_pos hl] at h
 obtain rfl := Option.some.inj h
 have HG := aM_ hl
 have HW1 := aM_ ((Below.refl w.heap.size w).alloc (Nat.le_refl _) (.cells #[.slice A0_0 l0_0.length c0_0] 30))
 have HC := aM_ (impl_Trie_under.calls k A0_0 c0_0 l0_0 a1 ws (w.alloc (.cells #[.slice A0_0 l0_0.length c0_0] 30)) (k4_ hr0_0 HW1.out) hc0_0 hw)
 clear h hl hw hr0_0
 go_enter Try.func40, Try.ntmps40
 go_wp2_with fail
 refine HC.out.mono ?_
 clear HC
 rintro e w1 ⟨v, rfl, hr, hb0⟩
 obtain ⟨A, c, hv⟩ := kS_ hr
 subst hv
 obtain ⟨n, hn⟩ : ∃ n, ws.length = n := ⟨_, rfl⟩
 have HN := aM_ hn
 rw [hn] at hr
 rw [hn]
 have hnb : n ≤ 1000000000 := by have := HG.out.1; omega
 have HO := aM_ (show Kd.R Kd.string 9 w1 w.heap.size (fun _ => True) (.slice A n c) (impl_Trie_behind.row a1 ws 0) from by
  unfold impl_Trie_behind.row
  rw [List.take_zero, List.map_nil, List.nil_append, List.drop_zero]
  exact k5_ hr HW1.out.size)
 have HB := aM_ (HW1.out.trans (hb0.mono HW1.out.size))
 clear hr hb0 hn HW1
 go_wp2_with fail
 go_loopg [13] n (fun gg v13 w' => ∃ i : Nat, i ≤ n ∧ n - i ≤ gg ∧ v13 = .int .i64 (i : Int) ∧ Aside0 (Kd.R Kd.string 9 w' w.heap.size (fun _ => True) (.slice A n c) (impl_Trie_behind.row a1 ws i)) ∧ Aside0 (Below w.heap.size w w'))
 case atStart => exact ⟨0, Nat.zero_le _, by omega, rfl, HO, HB⟩
 case round =>
  clear HO HB
  obtain ⟨i, hi, hg, rfl, HO, HB⟩ := hrel
  by_cases hlt : i < n
  ·
   have hltz : (i : Int) < (n : Int) := by omega
   obtain ⟨go, co, eo, gb, gl, cl, HGG⟩ := Kd.R_form HO.out (by rw [impl_Trie_behind.row_length, HN.out]; omega)
   injection eo with ea_ en_ ec_
   subst ea_
   have GB := aM_ gb
   clear gb gl HGG en_ ec_
   have hcell := kC_ eB_ HO.out (i : Int) (by omega) hltz
   rw [impl_Trie_behind.row_get a1 ws i (by rw [HN.out]; exact hlt), Int.toNat_natCast] at hcell
   obtain ⟨hx0, hf0⟩ := hcell
   have HS := aM_ (show a1.size ≤ (rdOf eB_ ws (i : Int)).size ∧ (rdOf eB_ ws (i : Int)).size ≤ 1000000000 from by
    have h1 := List.all_eq_true.1 HG.out.2 (rdOf eB_ ws (i : Int)) (by
     unfold rdOf
     rw [List.getD_eq_getElem?_getD, Int.toNat_natCast, List.getElem?_eq_getElem (by rw [HN.out]; exact hlt)]
     exact List.getElem_mem _)
    simpa using h1)
   have HX := aM_ (And.intro (Kd.R_putn HO.out (i : Int) (impl_Trie_behind.cut a1 (rdOf eB_ ws (i : Int)))) (Kd.R_putg HO.out (i : Int) (impl_Trie_behind.cut a1 (rdOf eB_ ws (i : Int)))).2)
   obtain ⟨x, hx⟩ : ∃ x, rdOf eB_ ws (i : Int) = x := ⟨_, rfl⟩
   have HXX := aM_ hx
   rw [hx] at hx0 HS HX
   have hs1 := HS.out.1
   have hs2 := HS.out.2
   clear hx
   have xc : wr.cell? ⟨go, i, none⟩ = _ := hx0
   have xf : wr.frozen? ⟨go, i, none⟩ = false := hf0
   clear hx0 hf0 HO
   go_wp2_with fail
   go_roundg (n - (i + 1))
   case measure => omega
   case rel =>
    refine ⟨i + 1, by omega, by omega, by go_num, ⟨?_⟩, ⟨bS_ HB.out GB.out⟩⟩
    have h1 := HX.out.1
    rw [← HXX.out, Int.toNat_natCast, impl_Trie_behind.row_set a1 ws i (by rw [HN.out]; exact hlt), HXX.out] at h1
    exact h1
  ·
   have hltz : ¬ (i : Int) < (n : Int) := by omega
   obtain rfl : i = n := by omega
   go_wp2_with fail
   go_ret
   refine ⟨_, rfl, ?_, HB.out⟩
   have h1 := HO.out
   unfold impl_Trie_behind.row at h1
   rw [List.take_of_length_le (by rw [HN.out]; omega), List.drop_of_length_le (by rw [HN.out]; omega), List.append_nil] at h1
   exact h1
mutual
def impl_Trie_ends.l0 : Nat → List ByteArray → List ByteArray → Int → Int → List (S65) → Option (List ByteArray)
 | 0, _, _, _, _, _ => none
 | k + 1, x5, x17, x18, x19, x365000 => if x19 < x18 then (if 0 ≤ x19 then (if x19 < (x17.length : Int) then ((impl_Trie_behind.f k x365000 (rdOf eB_ x17 x19)).bind fun t373 => (impl_Trie_ends.l1 k x5 (⟨#[]⟩ : ByteArray) x17 x18 x19 t373 (t373.length : Int) 0 x365000)) else (none)) else (none)) else (some x5)
def impl_Trie_ends.l1 : Nat → List ByteArray → ByteArray → List ByteArray → Int → Int → List ByteArray → Int → Int → List (S65) → Option (List ByteArray)
 | 0, _, _, _, _, _, _, _, _, _ => none
 | k + 1, x5, x8, x17, x18, x19, x25, x26, x27, x365000 => if x27 < x26 then (if 0 ≤ x27 then (if x27 < (x25.length : Int) then (if (rdOf eB_ x25 x27).size + 1 ≤ 9223372036854775807 then (if x8.size + ((rdOf eB_ x25 x27) ++ (⟨#[44]⟩ : ByteArray)).size ≤ 9223372036854775807 then (impl_Trie_ends.l1 k x5 (x8 ++ ((rdOf eB_ x25 x27) ++ (⟨#[44]⟩ : ByteArray))) x17 x18 x19 x25 x26 (wrap64 (x27 + 1)) x365000) else (none)) else (none)) else (none)) else (none)) else (if x5.length < 8796093022208 then (impl_Trie_ends.l0 k (x5 ++ [x8]) x17 x18 (wrap64 (x19 + 1)) x365000) else (none))
end
def impl_Trie_ends.f (k : Nat) (l0_0 : List (S65)) : Option (List ByteArray) := (impl_Trie_prefixes.f k l0_0).bind fun bt365 => (impl_Trie_ends.l0 k (([] : List ByteArray)) bt365.1 (bt365.1.length : Int) 0 l0_0)
theorem impl_Trie_ends.mono_l : ∀ k, (∀ y0 y1 y2 y3 y4, LeO (impl_Trie_ends.l0 k y0 y1 y2 y3 y4) (impl_Trie_ends.l0 (k + 1) y0 y1 y2 y3 y4)) ∧ (∀ y0 y1 y2 y3 y4 y5 y6 y7 y8, LeO (impl_Trie_ends.l1 k y0 y1 y2 y3 y4 y5 y6 y7 y8) (impl_Trie_ends.l1 (k + 1) y0 y1 y2 y3 y4 y5 y6 y7 y8))
 | 0 => ⟨fun _ _ _ _ _ r h => by simp [impl_Trie_ends.l0] at h, fun _ _ _ _ _ _ _ _ _ r h => by simp [impl_Trie_ends.l1] at h⟩
 | k + 1 => by
  obtain ⟨ih0, ih1⟩ := impl_Trie_ends.mono_l k
  refine ⟨?_, ?_⟩
  ·
   intro y0 y1 y2 y3 y4
   unfold impl_Trie_ends.l0
   repeat' first
   | (with_reducible exact ih0 _ _ _ _ _)
   | (with_reducible exact ih1 _ _ _ _ _ _ _ _ _)
   | (with_reducible exact impl_Trie_behind.mono _ _ _)
   | (with_reducible exact impl_Trie_prefixes.mono _ _)
   | (with_reducible exact l3_ _)
   | (with_reducible exact l0_ _)
   | (with_reducible refine l2_ ?_ ?_)
   | (with_reducible refine l1_ ?_ (fun _ => ?_))
   | exact ih0 _ _ _ _ _
   | exact ih1 _ _ _ _ _ _ _ _ _
   | exact impl_Trie_behind.mono _ _ _
   | exact impl_Trie_prefixes.mono _ _
   | exact l0_ _
   | refine l2_ ?_ ?_
   | refine l1_ ?_ (fun _ => ?_)
  ·
   intro y0 y1 y2 y3 y4 y5 y6 y7 y8
   unfold impl_Trie_ends.l1
   repeat' first
   | (with_reducible exact ih0 _ _ _ _ _)
   | (with_reducible exact ih1 _ _ _ _ _ _ _ _ _)
   | (with_reducible exact impl_Trie_behind.mono _ _ _)
   | (with_reducible exact impl_Trie_prefixes.mono _ _)
   | (with_reducible exact l3_ _)
   | (with_reducible exact l0_ _)
   | (with_reducible refine l2_ ?_ ?_)
   | (with_reducible refine l1_ ?_ (fun _ => ?_))
   | exact ih0 _ _ _ _ _
   | exact ih1 _ _ _ _ _ _ _ _ _
   | exact impl_Trie_behind.mono _ _ _
   | exact impl_Trie_prefixes.mono _ _
   | exact l0_ _
   | refine l2_ ?_ ?_
   | refine l1_ ?_ (fun _ => ?_)
theorem impl_Trie_ends.mono : ∀ a0 k, LeO (impl_Trie_ends.f k a0) (impl_Trie_ends.f (k + 1) a0) := by
 intro a0 k
 obtain ⟨ih0, ih1⟩ := impl_Trie_ends.mono_l k
 unfold impl_Trie_ends.f
 repeat' first
   | (with_reducible exact ih0 _ _ _ _ _)
   | (with_reducible exact ih1 _ _ _ _ _ _ _ _ _)
   | (with_reducible exact impl_Trie_behind.mono _ _ _)
   | (with_reducible exact impl_Trie_prefixes.mono _ _)
   | (with_reducible exact l3_ _)
   | (with_reducible exact l0_ _)
   | (with_reducible refine l2_ ?_ ?_)
   | (with_reducible refine l1_ ?_ (fun _ => ?_))
   | exact ih0 _ _ _ _ _
   | exact ih1 _ _ _ _ _ _ _ _ _
   | exact impl_Trie_behind.mono _ _ _
   | exact impl_Trie_prefixes.mono _ _
   | exact l0_ _
   | refine l2_ ?_ ?_
   | refine l1_ ?_ (fun _ => ?_)
theorem impl_Trie_ends.calls (k : Nat) (A0_0 : Option Addr) (c0_0 : Nat) (l0_0 : List (S65)) (r : List ByteArray) (w : World) (hr0_0 : Kd.C k65 w A0_0 l0_0.length l0_0) (hc0_0 : l0_0.length ≤ c0_0) (h : impl_Trie_ends.f k l0_0 = some r) :
  Calls Try.prog 24 #[.agg #[.slice A0_0 l0_0.length c0_0]] w fun e w' => ∃ v0_ : Value, e = .returned (v0_) ∧ Kd.R Kd.string 9 w' w.heap.size (fun _ => True) v0_ r ∧ Below w.heap.size w w' := by
 have hu30 := Try.underlying30
 have HR0_0 := aM_ hr0_0
 have HC0_0 := aM_ hc0_0
 clear hr0_0 hc0_0
 have HB := aM_ (Below.refl w.heap.size w)
 have H : ((impl_Trie_prefixes.f k l0_0).bind fun bt365 => (impl_Trie_ends.l0 k (([] : List ByteArray)) bt365.1 (bt365.1.length : Int) 0 l0_0)) = some r := h
 clear h
 replace H := oB_.mp H
 obtain ⟨⟨t365, t368⟩, A20, H⟩ := H
 try dsimp only at H
 have A2 := aM_ A20
 clear A20
 obtain ⟨y369, hy369⟩ : ∃ y_ : List ByteArray, y_ = (([] : List ByteArray)) := ⟨_, rfl⟩
 replace H : (impl_Trie_ends.l0 k y369 t365 (t365.length : Int) 0 l0_0) = some r := by first | (rw [hy369]; with_reducible exact H) | (have H2_ := (Option.bind_some _ _).symm.trans H; rw [hy369]; with_reducible exact H2_) | (have H2_ := (Option.bind_some _ _).symm.trans H; with_reducible exact H2_) | with_reducible exact H | (rw [hy369]; exact H) | exact H
 have Ny369 := aM_ hy369
 clear hy369
 have H' := aM_ H
 clear H
 go_enter Try.func24, Try.ntmps24
 go_wp2_with (first | ((with_reducible refine gD_ (N := 1) rfl ?_); refine bE_ ?hg (N := 1) ?hd (cs := #[.slice A0_0 l0_0.length c0_0]) (t := 30) ?hr ?_; (case hd => rfl); (case hg => rfl); (case hr => (go_simp; done)); intro gb364 hg w3 hbox hb; have BK364 := aM_ (hbox); have GW364 := aM_ ((by rw [hg]; exact (bZ_ HB.out) : w.heap.size ≤ gb364)); have GE364 := GW364; replace HB := aM_ (bT_ HB.out hb); clear hb hbox hg; have hcz4_0 : w3.cell? ⟨gb364, 0, none⟩ = some (.slice A0_0 l0_0.length c0_0) := (bC_ BK364.out 0).trans rfl; have hfz4_0 := bF_ BK364.out 0) | ((with_reducible refine gC_ (f := 39) rfl ?_); refine goesL_ (some 13) rfl rfl Try.func39 (by kernel_rfl) rfl #[.agg #[.slice A0_0 l0_0.length c0_0]] rfl (by (try simp only [sD_, sE_, sF_]); rfl) ?_; (with_reducible refine (impl_Trie_prefixes.calls k _ _ l0_0 t365 t368 _ ?side1 ?side2 A2.out).mono ?_); (case side1 => repeat (first | exact (k4_ HR0_0.out HB.out) | (with_reducible refine Kd.C_alloc ?_ _) | (with_reducible refine Kd.C_drewN ?_ _) | (with_reducible refine Kd.C_drew ?_))); (case side2 => exact HC0_0.out); rintro e w5 ⟨v366, rfl, ho0, hb⟩; refine ⟨_, rfl, ?_⟩; have HO367 := aM_ (k5_ ho0 (bZ_ HB.out)); replace BK364 := aM_ (bB_ BK364.out hb); replace HB := aM_ (bT_ HB.out hb); (try clear hb); (try clear ho0)) | ((with_reducible refine gD_ (N := 16) rfl ?_); refine Kd.R_lit Kd.string _ 9 ?hg (N := 16) ?hd (xs := ([] : List ByteArray)) (inner := []) (ok := fun _ => True) (okp := fun _ => True) ?hr ?hp (fun _ hk => hk) trivial (Below.refl _ _) (Nat.le_refl _) (by simp) ?_; (case hd => rfl); (case hg => rfl); (case hr => (go_simp; done)); (case hp => exact (Reps.none _ _)); intro v370 w6 ho7 hb hg_ hnew_; clear hg_ hnew_; (rw [← Ny369.out] at ho7); have HO371 := aM_ (k5_ (Kd.R_new' ho7 (Kd.R_lt HO367.out)) (bZ_ HB.out)); replace HO367 := aM_ (Kd.R_elder' HO367.out (Kd.R_base ho7) hb); replace BK364 := aM_ (bB_ BK364.out hb); replace HB := aM_ (bT_ HB.out hb); clear hb ho7; obtain ⟨Ao8, co8, eo8⟩ := kS_ HO367.out; subst eo8))
 go_loopg [5, 19] k (fun kq v5 v19 w' => ∃ (x5_1 : List ByteArray) (x19_1 : Int), v19 = .int .i64 x19_1 ∧ Aside0 (impl_Trie_ends.l0 kq x5_1 t365 (t365.length : Int) x19_1 l0_0 = some r) ∧ Aside0 (kq ≤ k) ∧ Aside0 (Kd.R Kd.string 9 w' w.heap.size (fun k_ => some k_ ≠ ((.slice Ao8 t365.length co8) : Value).ownBlock) v5 x5_1) ∧ Aside0 (Kd.R Kd.string 9 w' w.heap.size (fun k_ => some k_ ≠ (v5 : Value).ownBlock) (.slice Ao8 t365.length co8) t365) ∧ Aside0 (w'.heap[gb364]? = some (.cells #[(.slice A0_0 l0_0.length c0_0)] 30 (0, 0))) ∧ Aside0 (Below w.heap.size w w'))
 case atStart => exact ⟨(y369), (0), (by rfl), H', ⟨Nat.le_refl _⟩, ⟨by exact kM_ HO371.out (fun _ hk => hk.2)⟩, ⟨by exact kM_ HO367.out (fun _ hk => hk.2)⟩, ⟨BK364.out⟩, ⟨HB.out⟩⟩
 case round =>
  clear H'
  try clear p2
  try clear hcz4_0
  try clear hfz4_0
  obtain ⟨x5_1, x19_1, rfl, HA, HK1, HO_5, HO_17, BK364, HB⟩ := hrel
  cases gk with
  | zero => exact absurd HA.out (by simp [impl_Trie_ends.l0])
  | succ k1 =>
   have H := HA.out
   clear HA
   simp only [impl_Trie_ends.l0] at H
   by_cases c9 : x19_1 < (t365.length : Int)
   ·
    rw [if_pos c9] at H
    have c9b0 := decide_eq_true c9
    clear c9
    by_cases c10 : 0 ≤ x19_1
    ·
     rw [if_pos c10] at H
     have c10b0 := decide_eq_true c10
     clear c10
     by_cases c11 : x19_1 < (t365.length : Int)
     ·
      rw [if_pos c11] at H
      have c11b0 := decide_eq_true c11
      clear c11
      replace H := oB_.mp H
      obtain ⟨t373, A120, H⟩ := H
      try dsimp only at H
      have A12 := aM_ A120
      clear A120
      have H' := aM_ H
      clear H
      have p372 : 0 ≤ (x19_1 : Int) := of_decide_eq_true (by (with_reducible assumption))
      have q372 : x19_1 < (t365.length : Int) := of_decide_eq_true (by (with_reducible assumption))
      obtain ⟨ad372, e372, hx372_0⟩ := Kd.at_string (kR_ HO_17.out).2.2 x19_1 p372 q372
      cases e372
      replace p372 := eq_true p372
      replace q372 := eq_true q372
      have hcz13_0 : wr.cell? ⟨gb364, 0, none⟩ = some (.slice A0_0 l0_0.length c0_0) := (bC_ BK364.out 0).trans rfl
      have hfz13_0 := bF_ BK364.out 0
      go_wp2_with (first | ((with_reducible refine gC_ (f := 40) rfl ?_); refine goesL_ (some 25) rfl rfl Try.func40 (by kernel_rfl) rfl #[.agg #[.slice A0_0 l0_0.length c0_0], .string (rdOf eB_ t365 x19_1)] rfl (by (try simp only [sD_, sE_, sF_]); rfl) ?_; (with_reducible refine (impl_Trie_behind.calls k1 _ _ l0_0 (rdOf eB_ t365 x19_1) t373 _ ?side1 ?side2 A12.out).mono ?_); (case side1 => repeat (first | exact (k4_ HR0_0.out HB.out) | (with_reducible refine Kd.C_alloc ?_ _) | (with_reducible refine Kd.C_drewN ?_ _) | (with_reducible refine Kd.C_drew ?_))); (case side2 => exact HC0_0.out); rintro e w14 ⟨v374, rfl, ho0, hb⟩; refine ⟨_, rfl, ?_⟩; have HO375 := aM_ (k5_ (Kd.R_new' (Kd.R_new' ho0 (Kd.R_lt HO_5.out)) (Kd.R_lt HO_17.out)) (bZ_ HB.out)); replace HO_5 := aM_ (Kd.R_elder' HO_5.out (Kd.R_base ho0) hb); replace HO_17 := aM_ (Kd.R_elder' HO_17.out (Kd.R_base ho0) hb); replace BK364 := aM_ (bB_ BK364.out hb); replace HB := aM_ (bT_ HB.out hb); (try clear hb); (try clear ho0); obtain ⟨Ao15, co15, eo15⟩ := kS_ HO375.out; subst eo15))
      go_loopg [8, 27] k1 (fun kq v8 v27 w' => ∃ (x8_2 : ByteArray) (x27_2 : Int), v8 = .string x8_2 ∧ v27 = .int .i64 x27_2 ∧ Aside0 (impl_Trie_ends.l1 kq x5_1 x8_2 t365 (t365.length : Int) x19_1 t373 (t373.length : Int) x27_2 l0_0 = some r) ∧ Aside0 (kq ≤ k1) ∧ Aside0 (Kd.R Kd.string 9 w' w.heap.size (fun k_ => some k_ ≠ ((.slice (some ad372) t365.length co8) : Value).ownBlock ∧ some k_ ≠ ((.slice Ao15 t373.length co15) : Value).ownBlock) u5 x5_1) ∧ Aside0 (Kd.R Kd.string 9 w' w.heap.size (fun k_ => some k_ ≠ (u5 : Value).ownBlock ∧ some k_ ≠ ((.slice Ao15 t373.length co15) : Value).ownBlock) (.slice (some ad372) t365.length co8) t365) ∧ Aside0 (Kd.R Kd.string 9 w' w.heap.size (fun k_ => some k_ ≠ (u5 : Value).ownBlock ∧ some k_ ≠ ((.slice (some ad372) t365.length co8) : Value).ownBlock) (.slice Ao15 t373.length co15) t373) ∧ Aside0 (w'.heap[gb364]? = some (.cells #[(.slice A0_0 l0_0.length c0_0)] 30 (0, 0))) ∧ Aside0 (Below w.heap.size w w'))
      case atStart => exact ⟨((⟨#[]⟩ : ByteArray)), (0), (by rfl), (by rfl), H', ⟨Nat.le_refl _⟩, ⟨HO_5.out⟩, ⟨HO_17.out⟩, ⟨by exact kM_ HO375.out (fun _ hk => ⟨hk.1.2, hk.2⟩)⟩, ⟨BK364.out⟩, ⟨HB.out⟩⟩
      case round =>
       clear H'
       try clear p2
       try clear p3
       try clear q3
       try clear hx3
       try clear c9b0
       try clear c10b0
       try clear c11b0
       try clear hcz13_0
       try clear hcz4_0
       try clear hfz13_0
       try clear hfz4_0
       try clear hx372_0
       try clear p2
       try clear p372
       try clear q372
       obtain ⟨x8_2, x27_2, rfl, rfl, HA, HK2, HO_5, HO_17, HO_25, BK364, HB⟩ := hrel
       cases gk with
       | zero => exact absurd HA.out (by simp [impl_Trie_ends.l1])
       | succ k2 =>
        have H := HA.out
        clear HA
        simp only [impl_Trie_ends.l1] at H
        by_cases c16 : x27_2 < (t373.length : Int)
        ·
         rw [if_pos c16] at H
         have c16b0 := decide_eq_true c16
         clear c16
         by_cases c17 : 0 ≤ x27_2
         ·
          rw [if_pos c17] at H
          have c17b0 := decide_eq_true c17
          clear c17
          by_cases c18 : x27_2 < (t373.length : Int)
          ·
           rw [if_pos c18] at H
           have c18b0 := decide_eq_true c18
           clear c18
           by_cases c19 : (rdOf eB_ t373 x27_2).size + 1 ≤ 9223372036854775807
           ·
            rw [if_pos c19] at H
            have c19b0 := eq_true c19
            have c19b1 := decide_eq_true c19
            try have c19b2 : (9223372036854775807 < (rdOf eB_ t373 x27_2).size + 1) = False := eq_false (Nat.not_lt.2 c19)
            by_cases c20 : x8_2.size + ((rdOf eB_ t373 x27_2) ++ (⟨#[44]⟩ : ByteArray)).size ≤ 9223372036854775807
            ·
             rw [if_pos c20] at H
             have c20b0 := eq_true c20
             have c20b1 := decide_eq_true c20
             try have c20b2 : (9223372036854775807 < x8_2.size + ((rdOf eB_ t373 x27_2) ++ (⟨#[44]⟩ : ByteArray)).size) = False := eq_false (Nat.not_lt.2 c20)
             have H' := aM_ H
             clear H
             have p376 : 0 ≤ (x27_2 : Int) := of_decide_eq_true (by (with_reducible assumption))
             have q376 : x27_2 < (t373.length : Int) := of_decide_eq_true (by (with_reducible assumption))
             obtain ⟨ad376, e376, hx376_0⟩ := Kd.at_string (kR_ HO_25.out).2.2 x27_2 p376 q376
             cases e376
             replace p376 := eq_true p376
             replace q376 := eq_true q376
             go_wp2
             go_roundg k2
             case measure => have := HK1.out; have := HK2.out; omega
             case rel => exact ⟨(x8_2 ++ ((rdOf eB_ t373 x27_2) ++ (⟨#[44]⟩ : ByteArray))), (wrap64 (x27_2 + 1)), (by rfl), (by rfl), H', ⟨by have := HK1.out; have := HK2.out; omega⟩, ⟨HO_5.out⟩, ⟨HO_17.out⟩, ⟨HO_25.out⟩, ⟨BK364.out⟩, ⟨HB.out⟩⟩
            ·
             rw [if_neg c20] at H
             exact absurd H (by simp)
           ·
            rw [if_neg c19] at H
            exact absurd H (by simp)
          ·
           rw [if_neg c18] at H
           exact absurd H (by simp)
         ·
          rw [if_neg c17] at H
          exact absurd H (by simp)
        ·
         rw [if_neg c16] at H
         have c16b0 := decide_eq_false c16
         clear c16
         by_cases c21 : x5_1.length < 8796093022208
         ·
          rw [if_pos c21] at H
          have LMc21 := aM_ c21
          clear c21
          obtain ⟨y377, hy377⟩ : ∃ y_ : List ByteArray, y_ = (x5_1 ++ [x8_2]) := ⟨_, rfl⟩
          replace H : (impl_Trie_ends.l0 k2 y377 t365 (t365.length : Int) (wrap64 (x19_1 + 1)) l0_0) = some r := by first | (rw [hy377]; with_reducible exact H) | (have H2_ := (Option.bind_some _ _).symm.trans H; rw [hy377]; with_reducible exact H2_) | (have H2_ := (Option.bind_some _ _).symm.trans H; with_reducible exact H2_) | with_reducible exact H | (rw [hy377]; exact H) | exact H
          have Ny377 := aM_ hy377
          clear hy377
          have H' := aM_ H
          clear H
          go_wp2_with (first | ((with_reducible refine gate_builtin (b := .append) (xs := #[.tmp 36, .tmp 38]) rfl ?_); at_builtin; refine Kd.R_append Kd.string (w0 := w) w.heap.size rfl (.tmp 36) (.tmp 38) 50 9 (.string ⟨#[]⟩) 16 rfl Try.underlying50 info9 rfl (by decide) (by omega) u5 x5_1 x8_2 [.string x8_2] (fun k_ => some k_ ≠ (.slice (some ad372) t365.length co8 : Value).ownBlock ∧ some k_ ≠ (.slice Ao15 t373.length co15 : Value).ownBlock) (fun _ => False) rfl rfl ?aP (fun _ hk => hk.elim) ?aF ?aO ?aB ?aS ?aL ?_; (case aP => exact rfl); (case aB => exact HB.out); (case aF => exact (fun k_ hk => ⟨Kd.fresh' (Kd.R_lt HO_17.out) k_ hk, Kd.fresh' (Kd.R_lt HO_25.out) k_ hk⟩)); (case aO => exact HO_5.out); (case aS => exact (bZ_ HB.out)); (case aL => have := LMc21.out; omega); intro v378 w22 ho hb hg hat; rw [← Ny377.out] at ho; have n0_ := aM_ (Kd.R_after (ok := (fun k_ => some k_ ≠ (.slice Ao15 t373.length co15 : Value).ownBlock)) (by exact kM_ HO_17.out (fun _ hk => ⟨hk.2, hk.1⟩)) hg hat); have n1_ := aM_ (Kd.R_after (ok := (fun k_ => some k_ ≠ (.slice (some ad372) t365.length co8 : Value).ownBlock)) (by exact kM_ HO_25.out (fun _ hk => ⟨hk.2, hk.1⟩)) hg hat); have n2_ := aM_ (blk_grown (g := gb364) (o := .cells #[.slice A0_0 l0_0.length c0_0] 30 (0, 0)) BK364.out hg (k6_ HO_5.out BK364.out (by decide))); have n3_ := aM_ (hb); have n4_ := aM_ (ho); clear HO_17; clear HO_25; clear BK364; clear HB; clear HO_5; have HO_17 := n0_; have HO_25 := n1_; have BK364 := n2_; have HB := n3_; have HO379 := n4_; clear n0_ n1_ n2_ n3_ n4_; clear ho hb hg hat))
          go_roundg k2
          case measure => have := HK1.out; have := HK2.out; omega
          case rel => exact ⟨(y377), (wrap64 (x19_1 + 1)), (by rfl), H', ⟨by have := HK1.out; have := HK2.out; omega⟩, ⟨by exact kM_ HO379.out (fun _ hk => hk.1)⟩, ⟨by exact kM_ HO_17.out (fun _ hk => hk.2)⟩, ⟨BK364.out⟩, ⟨HB.out⟩⟩
         ·
          rw [if_neg c21] at H
          exact absurd H (by simp)
     ·
      rw [if_neg c11] at H
      exact absurd H (by simp)
    ·
     rw [if_neg c10] at H
     exact absurd H (by simp)
   ·
    rw [if_neg c9] at H
    have c9b0 := decide_eq_false c9
    clear c9
    obtain rfl := Option.some.inj H
    go_wp2
    go_ret
    exact ⟨_, by rfl, by exact kM_ HO_5.out (fun _ hk => trivial), by exact HB.out⟩
def impl_Trie_kids.l0 : Nat → Int → List Int → List (S65) → Int → Int → Option (List Int)
 | 0, _, _, _, _, _ => none
 | k + 1, x1, x5, x10, x11, x12 => if x12 < x11 then (if 0 ≤ x12 then (if x12 < (x10.length : Int) then (if ((rd_T65 x10 x12).f1) = x1 then (if x5.length < 17592186044416 then (impl_Trie_kids.l0 k x1 (x5 ++ [x12]) x10 x11 (wrap64 (x12 + 1))) else (none)) else (impl_Trie_kids.l0 k x1 x5 x10 x11 (wrap64 (x12 + 1)))) else (none)) else (none)) else (some x5)
def impl_Trie_kids.f (k : Nat) (l0_0 : List (S65)) (a1 : Int) : Option (List Int) := impl_Trie_kids.l0 k a1 (([] : List Int)) l0_0 (l0_0.length : Int) 0
theorem impl_Trie_kids.mono_l : ∀ k, (∀ y0 y1 y2 y3 y4, LeO (impl_Trie_kids.l0 k y0 y1 y2 y3 y4) (impl_Trie_kids.l0 (k + 1) y0 y1 y2 y3 y4))
 | 0 => fun _ _ _ _ _ r h => by simp [impl_Trie_kids.l0] at h
 | k + 1 => by
  have ih0 := impl_Trie_kids.mono_l k
  ·
   intro y0 y1 y2 y3 y4
   unfold impl_Trie_kids.l0
   repeat' first
   | (with_reducible exact ih0 _ _ _ _ _)
   | (with_reducible exact l3_ _)
   | (with_reducible exact l0_ _)
   | (with_reducible refine l2_ ?_ ?_)
   | (with_reducible refine l1_ ?_ (fun _ => ?_))
   | exact ih0 _ _ _ _ _
   | exact l0_ _
   | refine l2_ ?_ ?_
   | refine l1_ ?_ (fun _ => ?_)
theorem impl_Trie_kids.mono : ∀ a0 a1 k, LeO (impl_Trie_kids.f k a0 a1) (impl_Trie_kids.f (k + 1) a0 a1) := by
 intro a0 a1 k
 have ih0 := impl_Trie_kids.mono_l k
 unfold impl_Trie_kids.f
 repeat' first
   | (with_reducible exact ih0 _ _ _ _ _)
   | (with_reducible exact l3_ _)
   | (with_reducible exact l0_ _)
   | (with_reducible refine l2_ ?_ ?_)
   | (with_reducible refine l1_ ?_ (fun _ => ?_))
   | exact ih0 _ _ _ _ _
   | exact l0_ _
   | refine l2_ ?_ ?_
   | refine l1_ ?_ (fun _ => ?_)
theorem impl_Trie_kids.calls (k : Nat) (A0_0 : Option Addr) (c0_0 : Nat) (l0_0 : List (S65)) (a1 : Int) (r : List Int) (w : World) (hr0_0 : Kd.C k65 w A0_0 l0_0.length l0_0) (hc0_0 : l0_0.length ≤ c0_0) (h : impl_Trie_kids.f k l0_0 a1 = some r) :
  Calls Try.prog 52 #[.agg #[.slice A0_0 l0_0.length c0_0], .int .i64 a1] w fun e w' => ∃ v0_ : Value, e = .returned (v0_) ∧ Kd.R (Kd.int .i64) 3 w' w.heap.size (fun _ => True) v0_ r ∧ Below w.heap.size w w' := by
 have hu30 := Try.underlying30
 have hu65 := Try.underlying65
 have HR0_0 := aM_ hr0_0
 have HC0_0 := aM_ hc0_0
 clear hr0_0 hc0_0
 have HB := aM_ (Below.refl w.heap.size w)
 have H : (impl_Trie_kids.l0 k a1 (([] : List Int)) l0_0 (l0_0.length : Int) 0) = some r := h
 clear h
 obtain ⟨y460, hy460⟩ : ∃ y_ : List Int, y_ = (([] : List Int)) := ⟨_, rfl⟩
 replace H : (impl_Trie_kids.l0 k a1 y460 l0_0 (l0_0.length : Int) 0) = some r := by first | (rw [hy460]; with_reducible exact H) | (have H2_ := (Option.bind_some _ _).symm.trans H; rw [hy460]; with_reducible exact H2_) | (have H2_ := (Option.bind_some _ _).symm.trans H; with_reducible exact H2_) | with_reducible exact H | (rw [hy460]; exact H) | exact H
 have Ny460 := aM_ hy460
 clear hy460
 have H' := aM_ H
 clear H
 go_enter Try.func52, Try.ntmps52
 go_wp2_with (first | ((with_reducible refine gD_ (N := 2) rfl ?_); refine bE_ ?hg (N := 2) ?hd (cs := #[.slice A0_0 l0_0.length c0_0]) (t := 30) ?hr ?_; (case hd => rfl); (case hg => rfl); (case hr => (go_simp; done)); intro gb459 hg w3 hbox hb; have BK459 := aM_ (hbox); have GW459 := aM_ ((by rw [hg]; exact (bZ_ HB.out) : w.heap.size ≤ gb459)); have GE459 := GW459; replace HB := aM_ (bT_ HB.out hb); clear hb hbox hg) | ((with_reducible refine gD_ (N := 8) rfl ?_); refine Kd.R_lit (Kd.int .i64) _ 3 ?hg (N := 8) ?hd (xs := ([] : List Int)) (inner := []) (ok := fun _ => True) (okp := fun _ => True) ?hr ?hp (fun _ hk => hk) trivial (Below.refl _ _) (Nat.le_refl _) (by simp) ?_; (case hd => rfl); (case hg => rfl); (case hr => (go_simp; done)); (case hp => exact (Reps.none _ _)); intro v461 w4 ho5 hb hg_ hnew_; clear hg_ hnew_; (rw [← Ny460.out] at ho5); have HO462 := aM_ (k5_ ho5 (bZ_ HB.out)); replace BK459 := aM_ (bB_ BK459.out hb); replace HB := aM_ (bT_ HB.out hb); clear hb ho5; have hcz6_0 : w4.cell? ⟨gb459, 0, none⟩ = some (.slice A0_0 l0_0.length c0_0) := (bC_ BK459.out 0).trans rfl; have hfz6_0 := bF_ BK459.out 0))
 go_loopg [5, 12] k (fun kq v5 v12 w' => ∃ (x5_1 : List Int) (x12_1 : Int), v12 = .int .i64 x12_1 ∧ Aside0 (impl_Trie_kids.l0 kq a1 x5_1 l0_0 (l0_0.length : Int) x12_1 = some r) ∧ Aside0 (kq ≤ k) ∧ Aside0 (Kd.R (Kd.int .i64) 3 w' w.heap.size (fun _ => True) v5 x5_1) ∧ Aside0 (w'.heap[gb459]? = some (.cells #[(.slice A0_0 l0_0.length c0_0)] 30 (0, 0))) ∧ Aside0 (Below w.heap.size w w'))
 case atStart => exact ⟨(y460), (0), (by rfl), H', ⟨Nat.le_refl _⟩, ⟨HO462.out⟩, ⟨BK459.out⟩, ⟨HB.out⟩⟩
 case round =>
  clear H'
  try clear p2
  try clear hcz6_0
  try clear hfz6_0
  obtain ⟨x5_1, x12_1, rfl, HA, HK1, HO_5, BK459, HB⟩ := hrel
  cases gk with
  | zero => exact absurd HA.out (by simp [impl_Trie_kids.l0])
  | succ k1 =>
   have H := HA.out
   clear HA
   simp only [impl_Trie_kids.l0] at H
   by_cases c7 : x12_1 < (l0_0.length : Int)
   ·
    rw [if_pos c7] at H
    have c7b0 := decide_eq_true c7
    clear c7
    by_cases c8 : 0 ≤ x12_1
    ·
     rw [if_pos c8] at H
     have c8b0 := decide_eq_true c8
     clear c8
     by_cases c9 : x12_1 < (l0_0.length : Int)
     ·
      rw [if_pos c9] at H
      have c9b0 := decide_eq_true c9
      clear c9
      by_cases c10 : ((rd_T65 l0_0 x12_1).f1) = a1
      ·
       rw [if_pos c10] at H
       have c10b0 : (((rd_T65 l0_0 x12_1).f1) == a1) = true := beq_iff_eq.mpr c10
       have c10b1 : (((rd_T65 l0_0 x12_1).f1) != a1) = false := bne_eq_false_iff_eq.mpr c10
       clear c10
       by_cases c11 : x5_1.length < 17592186044416
       ·
        rw [if_pos c11] at H
        have LMc11 := aM_ c11
        clear c11
        obtain ⟨y465, hy465⟩ : ∃ y_ : List Int, y_ = (x5_1 ++ [x12_1]) := ⟨_, rfl⟩
        replace H : (impl_Trie_kids.l0 k1 a1 y465 l0_0 (l0_0.length : Int) (wrap64 (x12_1 + 1))) = some r := by first | (rw [hy465]; with_reducible exact H) | (have H2_ := (Option.bind_some _ _).symm.trans H; rw [hy465]; with_reducible exact H2_) | (have H2_ := (Option.bind_some _ _).symm.trans H; with_reducible exact H2_) | with_reducible exact H | (rw [hy465]; exact H) | exact H
        have Ny465 := aM_ hy465
        clear hy465
        have H' := aM_ H
        clear H
        have p463 : 0 ≤ (x12_1 : Int) := of_decide_eq_true (by (with_reducible assumption))
        have q463 : x12_1 < (l0_0.length : Int) := of_decide_eq_true (by (with_reducible assumption))
        obtain ⟨ad463, e463, hx463_0, hx463_1, hx463_2⟩ := at_T65 HR0_0.out x12_1 p463 q463
        cases e463
        replace hx463_0 := (HB.out.cell (wB_ w _ hx463_0)).trans hx463_0
        replace hx463_1 := (HB.out.cell (wB_ w _ hx463_1)).trans hx463_1
        replace hx463_2 := (HB.out.cell (wB_ w _ hx463_2)).trans hx463_2
        replace p463 := eq_true p463
        replace q463 := eq_true q463
        go_wp2_with (first | ((with_reducible refine gD_ (N := 7) rfl ?_); refine bE_ ?hg (N := 7) ?hd (cs := #[.int .i64 0, .int .i64 0, .bool false]) (t := 65) ?hr ?_; (case hd => rfl); (case hg => rfl); (case hr => (go_simp; done)); intro gb464 hg w12 hbox hb; replace HO_5 := aM_ (kB_ HO_5.out hb); have BK464 := aM_ (hbox); have GW464 := aM_ ((by rw [hg]; exact (bZ_ HB.out) : w.heap.size ≤ gb464)); have GE464 := GW464; replace HB := aM_ (bT_ HB.out hb); have NB459_464 := aM_ ((by rw [hg]; exact Nat.ne_of_lt (bL_ BK459.out) : gb459 ≠ gb464)); have NB464_459 := aM_ NB459_464.out.symm; replace BK459 := aM_ (bB_ BK459.out hb); clear hb hbox hg; have hnb13 := NB464_459.out; have hnc13 := NB459_464.out; have hcz14_0 : w12.cell? ⟨gb464, 0, none⟩ = some (.int .i64 0) := (bC_ BK464.out 0).trans rfl; have hcz14_1 : w12.cell? ⟨gb464, 1, none⟩ = some (.int .i64 0) := (bC_ BK464.out 1).trans rfl; have hcz14_2 : w12.cell? ⟨gb464, 2, none⟩ = some (.bool false) := (bC_ BK464.out 2).trans rfl; have hfz14_0 := bF_ BK464.out 0; have hfz14_1 := bF_ BK464.out 1; have hfz14_2 := bF_ BK464.out 2) | ((with_reducible refine gate_builtin (b := .append) (xs := #[.tmp 21, .tmp 23]) rfl ?_); at_builtin; refine Kd.R_append (Kd.int .i64) (w0 := w) w.heap.size rfl (.tmp 21) (.tmp 23) 47 3 (.int .i64 0) 8 rfl Try.underlying47 info3 rfl (by decide) (by omega) u5 x5_1 x12_1 [.int .i64 x12_1] (fun _ => True) (fun _ => False) rfl (by (go_simp; done)) ?aP (fun _ hk => hk.elim) ?aF ?aO ?aB ?aS ?aL ?_; (case aP => exact rfl); (case aB => exact (by repeat (first | (with_reducible first | exact HB.out | apply bA_ | apply bN_ | apply bD_ | refine bS_ ?_ GE459.out | refine bS_ ?_ GE464.out) | exact HB.out))); (case aF => exact (fun _ _ => trivial)); (case aO => exact (by exact kM_ (kF_ (p := ⟨gb464, 2, none⟩) (kF_ (p := ⟨gb464, 1, none⟩) (kF_ (p := ⟨gb464, 0, none⟩) (kT_ HO_5.out BK464.out (by decide)) (fun _ hk => hk.2) (.int .i64 ((rd_T65 l0_0 x12_1).f0))) (fun _ hk => hk.2) (.int .i64 ((rd_T65 l0_0 x12_1).f1))) (fun _ hk => hk.2) (.bool ((rd_T65 l0_0 x12_1).f2))) (fun _ hk => trivial))); (case aS => exact (bZ_ (by repeat (first | (with_reducible first | exact HB.out | apply bA_ | apply bN_ | apply bD_ | refine bS_ ?_ GE459.out | refine bS_ ?_ GE464.out) | exact HB.out)))); (case aL => have := LMc11.out; omega); intro v466 w15 ho hb hg hat; rw [← Ny465.out] at ho; have n0_ := aM_ (blk_grown (g := gb459) (o := .cells #[.slice (some ad463) l0_0.length c0_0] 30 (0, 0)) (by refine bR_ ?_ NB459_464.out _; refine bR_ ?_ NB459_464.out _; refine bR_ ?_ NB459_464.out _; exact BK459.out) hg (k6_ HO_5.out BK459.out (by decide))); have n1_ := aM_ (blk_grown (g := gb464) (o := .cells #[.int .i64 ((rd_T65 l0_0 x12_1).f0), .int .i64 ((rd_T65 l0_0 x12_1).f1), .bool ((rd_T65 l0_0 x12_1).f2)] 65 (0, 0)) (by refine bP_ (cs := #[.int .i64 ((rd_T65 l0_0 x12_1).f0), .int .i64 ((rd_T65 l0_0 x12_1).f1), .bool false]) ?_ 2 _ rfl; refine bP_ (cs := #[.int .i64 ((rd_T65 l0_0 x12_1).f0), .int .i64 0, .bool false]) ?_ 1 _ rfl; refine bP_ (cs := #[.int .i64 0, .int .i64 0, .bool false]) ?_ 0 _ rfl; exact BK464.out) hg (k6_ HO_5.out BK464.out (by decide))); have n2_ := aM_ (hb); have n3_ := aM_ (ho); clear BK459; clear BK464; clear HB; clear HO_5; have BK459 := n0_; have BK464 := n1_; have HB := n2_; have HO467 := n3_; clear n0_ n1_ n2_ n3_; clear ho hb hg hat))
        go_roundg k1
        case measure => have := HK1.out; omega
        case rel => exact ⟨(y465), (wrap64 (x12_1 + 1)), (by rfl), H', ⟨by have := HK1.out; omega⟩, ⟨HO467.out⟩, ⟨BK459.out⟩, ⟨HB.out⟩⟩
       ·
        rw [if_neg c11] at H
        exact absurd H (by simp)
      ·
       rw [if_neg c10] at H
       have c10b0 : (((rd_T65 l0_0 x12_1).f1) == a1) = false := beq_eq_false_iff_ne.mpr c10
       have c10b1 : (((rd_T65 l0_0 x12_1).f1) != a1) = true := bne_iff_ne.mpr c10
       have H' := aM_ H
       clear H
       have p463 : 0 ≤ (x12_1 : Int) := of_decide_eq_true (by (with_reducible assumption))
       have q463 : x12_1 < (l0_0.length : Int) := of_decide_eq_true (by (with_reducible assumption))
       obtain ⟨ad463, e463, hx463_0, hx463_1, hx463_2⟩ := at_T65 HR0_0.out x12_1 p463 q463
       cases e463
       replace hx463_0 := (HB.out.cell (wB_ w _ hx463_0)).trans hx463_0
       replace hx463_1 := (HB.out.cell (wB_ w _ hx463_1)).trans hx463_1
       replace hx463_2 := (HB.out.cell (wB_ w _ hx463_2)).trans hx463_2
       replace p463 := eq_true p463
       replace q463 := eq_true q463
       go_wp2_with (first | ((with_reducible refine gD_ (N := 7) rfl ?_); refine bE_ ?hg (N := 7) ?hd (cs := #[.int .i64 0, .int .i64 0, .bool false]) (t := 65) ?hr ?_; (case hd => rfl); (case hg => rfl); (case hr => (go_simp; done)); intro gb464 hg w16 hbox hb; replace HO_5 := aM_ (kB_ HO_5.out hb); have BK464 := aM_ (hbox); have GW464 := aM_ ((by rw [hg]; exact (bZ_ HB.out) : w.heap.size ≤ gb464)); have GE464 := GW464; replace HB := aM_ (bT_ HB.out hb); have NB459_464 := aM_ ((by rw [hg]; exact Nat.ne_of_lt (bL_ BK459.out) : gb459 ≠ gb464)); have NB464_459 := aM_ NB459_464.out.symm; replace BK459 := aM_ (bB_ BK459.out hb); clear hb hbox hg; have hnb17 := NB464_459.out; have hnc17 := NB459_464.out; have hcz18_0 : w16.cell? ⟨gb464, 0, none⟩ = some (.int .i64 0) := (bC_ BK464.out 0).trans rfl; have hcz18_1 : w16.cell? ⟨gb464, 1, none⟩ = some (.int .i64 0) := (bC_ BK464.out 1).trans rfl; have hcz18_2 : w16.cell? ⟨gb464, 2, none⟩ = some (.bool false) := (bC_ BK464.out 2).trans rfl; have hfz18_0 := bF_ BK464.out 0; have hfz18_1 := bF_ BK464.out 1; have hfz18_2 := bF_ BK464.out 2))
       go_roundg k1
       case measure => have := HK1.out; omega
       case rel => exact ⟨(x5_1), (wrap64 (x12_1 + 1)), (by rfl), H', ⟨by have := HK1.out; omega⟩, ⟨by exact kM_ (kF_ (p := ⟨gb464, 2, none⟩) (kF_ (p := ⟨gb464, 1, none⟩) (kF_ (p := ⟨gb464, 0, none⟩) (kT_ HO_5.out BK464.out (by decide)) (fun _ hk => hk.2) (.int .i64 ((rd_T65 l0_0 x12_1).f0))) (fun _ hk => hk.2) (.int .i64 ((rd_T65 l0_0 x12_1).f1))) (fun _ hk => hk.2) (.bool ((rd_T65 l0_0 x12_1).f2))) (fun _ hk => trivial)⟩, ⟨by refine bR_ ?_ NB459_464.out _; refine bR_ ?_ NB459_464.out _; refine bR_ ?_ NB459_464.out _; exact BK459.out⟩, ⟨by repeat (first | (with_reducible first | exact HB.out | apply bA_ | apply bN_ | apply bD_ | refine bS_ ?_ GE459.out | refine bS_ ?_ GE464.out) | exact HB.out)⟩⟩
     ·
      rw [if_neg c9] at H
      exact absurd H (by simp)
    ·
     rw [if_neg c8] at H
     exact absurd H (by simp)
   ·
    rw [if_neg c7] at H
    have c7b0 := decide_eq_false c7
    clear c7
    obtain rfl := Option.some.inj H
    go_wp2
    go_ret
    exact ⟨_, by rfl, by exact HO_5.out, by exact HB.out⟩
def impl_Trie_machine.fB (E : List ByteArray) : Nat → List ByteArray
 | 0 => []
 | i + 1 => if SM.has_ (impl_Trie_machine.fB E i) (rdOf eB_ E (i : Int)) = true then impl_Trie_machine.fB E i else impl_Trie_machine.fB E i ++ [rdOf eB_ E (i : Int)]
def impl_Trie_machine.sB (N : List S65) (E : List ByteArray) : Nat → List S77
 | 0 => []
 | i + 1 => if SM.has_ (impl_Trie_machine.fB E i) (rdOf eB_ E (i : Int)) = true then impl_Trie_machine.sB N E i else impl_Trie_machine.sB N E i ++ [⟨(rd_T65 N (i : Int)).f2, []⟩]
def impl_Trie_machine.iB (E : List ByteArray) : Nat → List Int
 | 0 => []
 | i + 1 => impl_Trie_machine.iB E i ++ [SM.at_ (impl_Trie_machine.fB E (i + 1)) (rdOf eB_ E (i : Int))]
theorem impl_Trie_machine.fB_length (N : List S65) (E : List ByteArray) : ∀ i, (impl_Trie_machine.fB E i).length = (impl_Trie_machine.sB N E i).length ∧ (impl_Trie_machine.fB E i).length ≤ i
 | 0 => ⟨rfl, Nat.le_refl _⟩
 | i + 1 => by
  obtain ⟨h1, h2⟩ := impl_Trie_machine.fB_length N E i
  rw [impl_Trie_machine.fB, impl_Trie_machine.sB]
  split
  ·
   exact ⟨h1, by omega⟩
  ·
   rw [List.length_append, List.length_append]
   exact ⟨by simp [h1], by simp; omega⟩
theorem impl_Trie_machine.iB_length (E : List ByteArray) : ∀ i, (impl_Trie_machine.iB E i).length = i
 | 0 => rfl
 | i + 1 => by rw [impl_Trie_machine.iB, List.length_append, impl_Trie_machine.iB_length E i]; rfl
def impl_Trie_machine.add (N : List S65) (ids : List Int) (ks : List Int) (x : S77) : S77 := ⟨x.f0, x.f1 ++ ks.map fun k => ⟨(rd_T65 N k).f0, rd ids k⟩⟩
def impl_Trie_machine.okk (N : List S65) (ids : List Int) (ks : List Int) : Bool := ks.all fun k => decide (0 ≤ k ∧ k < (N.length : Int) ∧ k < (ids.length : Int))
def impl_Trie_machine.l1 (k : Nat) (N : List S65) (ids : List Int) : (d i : Nat) → List Bool → List S77 → Option (List S77)
 | 0, _, _, sts => some sts
 | d + 1, i, done, sts => if 0 ≤ rd ids (i : Int) ∧ rd ids (i : Int) < (sts.length : Int) ∧ rd ids (i : Int) < (done.length : Int) then
   (if rdOf false done (rd ids (i : Int)) = true then impl_Trie_machine.l1 k N ids d (i + 1) done sts
   else (impl_Trie_kids.f k N (i : Int)).bind fun ks => if impl_Trie_machine.okk N ids ks = true ∧ ks.length ≤ 1000000 ∧ (rd_T77 sts (rd ids (i : Int))).f1.length ≤ 1000000 then impl_Trie_machine.l1 k N ids d (i + 1) (done.set (rd ids (i : Int)).toNat true) (sts.set (rd ids (i : Int)).toNat (impl_Trie_machine.add N ids ks (rd_T77 sts (rd ids (i : Int))))) else none)
   else none
def impl_Trie_machine.f (k : Nat) (l0_0 : List (S65)) : Option ((List (S77)) × List Int) := (impl_Trie_ends.f k l0_0).bind fun E => if E.length = l0_0.length ∧ l0_0.length ≤ 1000000 ∧ SM.okL E = true then
  (impl_Trie_machine.l1 k l0_0 (impl_Trie_machine.iB E l0_0.length) l0_0.length 0 (List.replicate (impl_Trie_machine.sB l0_0 E l0_0.length).length false) (impl_Trie_machine.sB l0_0 E l0_0.length)).bind fun sts => some (sts, impl_Trie_machine.iB E l0_0.length) else none
theorem impl_Trie_machine.l1_mono (k : Nat) (N : List S65) (ids : List Int) : ∀ d i done sts, LeO (impl_Trie_machine.l1 k N ids d i done sts) (impl_Trie_machine.l1 (k + 1) N ids d i done sts)
 | 0, _, _, _ => l3_ _
 | d + 1, i, done, sts => by
  rw [impl_Trie_machine.l1, impl_Trie_machine.l1]
  refine l2_ (l2_ (impl_Trie_machine.l1_mono k N ids d _ _ _) (l1_ (impl_Trie_kids.mono _ _ _) fun ks => l2_ (impl_Trie_machine.l1_mono k N ids d _ _ _) (l0_ _))) (l0_ _)
theorem impl_Trie_machine.mono : ∀ a0 k, LeO (impl_Trie_machine.f k a0) (impl_Trie_machine.f (k + 1) a0) := by
 intro a0 k
 exact l1_ (impl_Trie_ends.mono _ _) fun E => l2_ (l1_ (impl_Trie_machine.l1_mono _ _ _ _ _ _ _) fun _ => l3_ _) (l0_ _)
structure impl_Trie_machine.Inv (w W : World) (A0 : Option Addr) (n0 c0 bt b2 b4 gM : Nat) (v4 vE vI vM : Value) (E : List ByteArray) (ids : List Int) (sts : List S77) (ks : List ByteArray) : Prop where
 ht : W.heap[bt]? = some (.cells #[.slice A0 n0 c0] 30 (0, 0))
 h2 : W.heap[b2]? = some (.cells #[.slice none 0 0] 39 (0, 0))
 h4 : W.heap[b4]? = some (.cells #[v4] 39 (0, 0))
 hE : Kd.R Kd.string 9 W w.heap.size (fun _ => True) vE E
 hI : Kd.R (Kd.int .i64) 3 W w.heap.size (fun _ => True) vI ids
 hM : Kd.S k77 77 W w.heap.size (fun _ => True) vM sts
 hK : SM.Is W gM ks
 hB : Below w.heap.size w W
 n4 : bt ≠ b4 ∧ b2 ≠ b4
 lo : w.heap.size ≤ bt ∧ w.heap.size ≤ b2 ∧ w.heap.size ≤ b4 ∧ w.heap.size ≤ gM
section
variable {w W W1 : World} {A0 : Option Addr} {n0 c0 bt b2 b4 gM : Nat} {v4 vE vI vM u : Value} {E : List ByteArray} {ids : List Int} {sts : List S77} {ks : List ByteArray}
theorem impl_Trie_machine.Inv.alloc (h : impl_Trie_machine.Inv w W A0 n0 c0 bt b2 b4 gM v4 vE vI vM E ids sts ks) (o : Obj) : impl_Trie_machine.Inv w (W.alloc o) A0 n0 c0 bt b2 b4 gM v4 vE vI vM E ids sts ks :=
 ⟨b3_ h.ht o, b3_ h.h2 o, b3_ h.h4 o, k1_ h.hE o, k1_ h.hI o, Kd.S_alloc h.hM o, h.hK.alloc o, bA_ h.hB o, h.n4, h.lo⟩
theorem impl_Trie_machine.Inv.drew (h : impl_Trie_machine.Inv w W A0 n0 c0 bt b2 b4 gM v4 vE vI vM E ids sts ks) : impl_Trie_machine.Inv w W.drew A0 n0 c0 bt b2 b4 gM v4 vE vI vM E ids sts ks :=
 ⟨b1_ h.ht, b1_ h.h2, b1_ h.h4, k3_ h.hE, k3_ h.hI, Kd.S_drew h.hM, h.hK.drew, bD_ h.hB, h.n4, h.lo⟩
theorem impl_Trie_machine.Inv.set4 (h : impl_Trie_machine.Inv w W A0 n0 c0 bt b2 b4 gM v4 vE vI vM E ids sts ks) (u : Value) : impl_Trie_machine.Inv w (W.setCell ⟨b4, 0, none⟩ u) A0 n0 c0 bt b2 b4 gM u vE vI vM E ids sts ks :=
 ⟨bR_ h.ht h.n4.1 u, bR_ h.h2 h.n4.2 u, by refine bP_ (cs := #[v4]) h.h4 0 u rfl, Kd.R_set h.hE h.h4 (by decide) 0 u, Kd.R_set h.hI h.h4 (by decide) 0 u, Kd.S_set h.hM h.h4 (by decide) 0 u, h.hK.far (h.hK.ne_block h.h4) u, bS_ h.hB h.lo.2.2.1, h.n4, h.lo⟩
theorem impl_Trie_machine.Inv.put {ks1 : List ByteArray} (h : impl_Trie_machine.Inv w W A0 n0 c0 bt b2 b4 gM v4 vE vI vM E ids sts ks) (hk : SM.Is W1 gM ks1) (hg : W.grownBy W1 (some gM)) : impl_Trie_machine.Inv w W1 A0 n0 c0 bt b2 b4 gM v4 vE vI vM E ids sts ks1 := by
 have e1 := h.hK.ne_block h.ht
 have e2 := h.hK.ne_block h.h2
 have e4 := h.hK.ne_block h.h4
 obtain ⟨f, hf⟩ := h.hM
 exact ⟨blk_grown h.ht hg (by simpa using e1.symm), blk_grown h.h2 hg (by simpa using e2.symm), blk_grown h.h4 hg (by simpa using e4.symm), SM.R_over h.hE h.hK hg, SM.R_over h.hI h.hK hg, ⟨f, SM.R_over hf h.hK hg⟩, hk, pw_below_grown h.hB _ h.hB.size hg (fun k hk => by cases hk; exact h.lo.2.2.2), h.n4, h.lo⟩
theorem impl_Trie_machine.Inv.withSts {sts1 : List S77} {vM1 : Value} (h : impl_Trie_machine.Inv w W A0 n0 c0 bt b2 b4 gM v4 vE vI vM E ids sts ks) (hM1 : Kd.S k77 77 W1 w.heap.size (fun _ => True) vM1 sts1) (hb : Below w.heap.size w W1) (hg : W.grownBy W1 vM.ownBlock) : impl_Trie_machine.Inv w W1 A0 n0 c0 bt b2 b4 gM v4 vE vI vM1 E ids sts1 ks := by
 have hR := Kd.S_R h.hM
 exact ⟨blk_grown h.ht hg (k6_ hR h.ht (by decide)), blk_grown h.h2 hg (k6_ hR h.h2 (by decide)), blk_grown h.h4 hg (k6_ hR h.h4 (by decide)), Kd.R_over' h.hE (Kd.R_typed hR) (by decide) hg, Kd.R_over' h.hI (Kd.R_typed hR) (by decide) hg, hM1, h.hK.grown hg (h.hK.ne hR), hb, h.n4, h.lo⟩
theorem impl_Trie_machine.Inv.withIds {ids1 : List Int} {vI1 : Value} (h : impl_Trie_machine.Inv w W A0 n0 c0 bt b2 b4 gM v4 vE vI vM E ids sts ks) (hI1 : Kd.R (Kd.int .i64) 3 W1 w.heap.size (fun _ => True) vI1 ids1) (hb : Below w.heap.size w W1) (hg : W.grownBy W1 vI.ownBlock) : impl_Trie_machine.Inv w W1 A0 n0 c0 bt b2 b4 gM v4 vE vI1 vM E ids1 sts ks :=
 ⟨blk_grown h.ht hg (k6_ h.hI h.ht (by decide)), blk_grown h.h2 hg (k6_ h.hI h.h2 (by decide)), blk_grown h.h4 hg (k6_ h.hI h.h4 (by decide)), Kd.R_over' h.hE (Kd.R_typed h.hI) (by decide) hg, hI1, Kd.S_over' h.hM (Kd.R_typed h.hI) (by decide) hg, h.hK.grown hg (h.hK.ne h.hI), hb, h.n4, h.lo⟩
end
def impl_Trie_machine.T8 : Bool × List (List Nat × List Nat) := (true, [([], []), ([0], [0]), ([], []), ([2], [2]), ([], []), ([3, 4], [3, 4]), ([5], [5]), ([6], [6]), ([7], [7]), ([8], [8]), ([1, 9], [1, 9]), ([0, 1, 2, 3, 4, 5, 6, 7, 8, 9, 10], []), ([11, 10, 10, 0, 1, 2, 3, 4, 5, 6, 7, 8, 9, 10], [10, 11])])
def impl_Trie_machine.B8 : List Nat := [0, 1, 0, 4, 0, 28, 60, 124, 252, 508, 1023, 2047, 4095]
theorem impl_Trie_machine.tab8 : rtab .any (opsOf Try.f29 8) = impl_Trie_machine.T8 := by kernel_rfl
theorem impl_Trie_machine.bits8 : waitsOk impl_Trie_machine.T8.2 impl_Trie_machine.B8 = true := by kernel_rfl
theorem impl_Trie_machine.okk_at {N : List S65} {ids ks : List Int} (h : impl_Trie_machine.okk N ids ks = true) {j : Nat} (hj : j < ks.length) : ∃ kn : Nat, rd ks (j : Int) = (kn : Int) ∧ (kn : Int) < (N.length : Int) ∧ (kn : Int) < (ids.length : Int) := by
 have h9 := List.all_eq_true.1 h _ (List.getElem_mem hj)
 rw [decide_eq_true_eq] at h9
 have e9 : rd ks (j : Int) = ks[j] := by
  unfold rd
  rw [Int.toNat_natCast, List.getD_eq_getElem?_getD, List.getElem?_eq_getElem hj]
  rfl
 exact ⟨(ks[j]).toNat, by omega, by omega, by omega⟩
theorem impl_Trie_machine.infob : (Try.prog.info? 4).map (fun i => (i.zero, i.size, i.bytes)) = some (some (.bool false), 1, 1) := by kernel_rfl
theorem impl_Trie_machine.edge {base : Nat} {W : World} {gM m cM : Nat} {sts : List S77} (hM : Kd.S k77 77 W base (fun _ => True) (.slice (some ⟨gM, 0, none⟩) m cM) sts) (sn : Nat) (hs : sn < m) :
  ∃ (u : Value) (oki : Nat → Prop), W.cell? ⟨gM, sn * 2 + 1, none⟩ = some u ∧ W.frozen? ⟨gM, sn * 2 + 1, none⟩ = false ∧ Kd.R k78 78 W base (fun k => oki k ∨ W.heap.size ≤ k) u (rd_T77 sts (sn : Int)).f1 ∧
   ∀ (w3 : World) (u3 : Value) (y : List S78), Kd.R k78 78 w3 base (fun k => oki k ∨ W.heap.size ≤ k) u3 y → W.grownBy w3 u.ownBlock →
    Kd.S k77 77 (w3.setCell ⟨gM, sn * 2 + 1, none⟩ u3) base (fun _ => True) (.slice (some ⟨gM, 0, none⟩) m cM) (sts.set sn ⟨(rd_T77 sts (sn : Int)).f0, y⟩) ∧ w3.grownBy (w3.setCell ⟨gM, sn * 2 + 1, none⟩ u3) (some gM) ∧ w3.cell? ⟨gM, sn * 2 + 1, none⟩ = some u ∧ w3.frozen? ⟨gM, sn * 2 + 1, none⟩ = false := by
 obtain ⟨oki, ce, hcl, hMe, hcc, hfr, hoki, hH⟩ := Kd.S_elem hM z77 (sn : Int) (by omega) (by omega)
 obtain ⟨u, rfl, hR⟩ := k77_openM hMe
 have h1 := hcc 1 _ rfl
 have f1 := hfr 1
 rw [show (k77).sz = 2 from rfl, Int.toNat_natCast] at h1 f1
 refine ⟨u, oki, h1, f1, kM_ hR (fun _ hk => .inl hk), fun w3 u3 y hR3 hg => ?_⟩
 have hH3 := Kd.H_grown (Kd.H_widen hH) hg (fun k hk => .inl (hR.1 k hk))
 obtain ⟨hc3, hf3⟩ := Kd.H_at hH3 (by omega) (by omega)
 have h3 := hc3 1 _ rfl
 have g3 := hf3 1
 rw [show (k77).sz = 2 from rfl, Int.toNat_natCast] at h3 g3
 have hs0 := Kd.S_seg0 hH3 (by omega) (by omega) (seg := [u3]) (j := 1) (show 2 ≤ 2 from by decide) (x' := (⟨(rd_T77 sts (sn : Int)).f0, y⟩ : S77)) (okp := fun k => oki k ∨ True ∧ W.heap.size ≤ k) (k77_mkM _ _ _ (⟨(rd_T77 sts (sn : Int)).f0, y⟩ : S77) (kM_ hR3 (fun k hk => hk.imp_right fun h => ⟨trivial, h⟩))) (fun _ hk => hk)
 rw [show (k77).sz = 2 from rfl, Int.toNat_natCast] at hs0
 exact ⟨hs0.1, hs0.2, h3, g3⟩
structure impl_Trie_machine.Inv2 (w W : World) (A0 : Option Addr) (n0 c0 bt b2 b4 : Nat) (vM vI vD : Value) (ids : List Int) (sts : List S77) (done : List Bool) : Prop where
 ht : W.heap[bt]? = some (.cells #[.slice A0 n0 c0] 30 (0, 0))
 h2 : W.heap[b2]? = some (.cells #[.slice none 0 0] 39 (0, 0))
 h4 : W.heap[b4]? = some (.cells #[vM] 39 (0, 0))
 hI : Kd.R (Kd.int .i64) 3 W w.heap.size (fun _ => True) vI ids
 hM : Kd.S k77 77 W w.heap.size (fun _ => True) vM sts
 hD : Kd.R Kd.bool 4 W w.heap.size (fun _ => True) vD done
 hB : Below w.heap.size w W
 lo : w.heap.size ≤ bt ∧ w.heap.size ≤ b2 ∧ w.heap.size ≤ b4 ∧ b2 ≠ b4
section
variable {w W W1 W3 : World} {A0 : Option Addr} {n0 c0 bt b2 b4 gM m cM : Nat} {vM vI vD u u3 : Value} {ids : List Int} {sts : List S77} {done : List Bool}
theorem impl_Trie_machine.Inv2.below (h : impl_Trie_machine.Inv2 w W A0 n0 c0 bt b2 b4 vM vI vD ids sts done) (hb : Below W.heap.size W W1) : impl_Trie_machine.Inv2 w W1 A0 n0 c0 bt b2 b4 vM vI vD ids sts done :=
 ⟨bB_ h.ht hb, bB_ h.h2 hb, bB_ h.h4 hb, kB_ h.hI hb, Kd.S_below h.hM hb, kB_ h.hD hb, h.hB.trans (hb.mono h.hB.size), h.lo⟩
theorem impl_Trie_machine.Inv2.alloc (h : impl_Trie_machine.Inv2 w W A0 n0 c0 bt b2 b4 vM vI vD ids sts done) (o : Obj) : impl_Trie_machine.Inv2 w (W.alloc o) A0 n0 c0 bt b2 b4 vM vI vD ids sts done := h.below (bA_ (Below.refl _ _) o)
theorem impl_Trie_machine.Inv2.drew (h : impl_Trie_machine.Inv2 w W A0 n0 c0 bt b2 b4 vM vI vD ids sts done) : impl_Trie_machine.Inv2 w W.drew A0 n0 c0 bt b2 b4 vM vI vD ids sts done := h.below (bD_ (Below.refl _ _))
theorem impl_Trie_machine.Inv2.withDone {done1 : List Bool} (h : impl_Trie_machine.Inv2 w W A0 n0 c0 bt b2 b4 vM vI vD ids sts done) (hD1 : Kd.R Kd.bool 4 W1 w.heap.size (fun _ => True) vD done1) (hg : W.grownBy W1 vD.ownBlock) : impl_Trie_machine.Inv2 w W1 A0 n0 c0 bt b2 b4 vM vI vD ids sts done1 :=
 ⟨blk_grown h.ht hg (k6_ h.hD h.ht (by decide)), blk_grown h.h2 hg (k6_ h.hD h.h2 (by decide)), blk_grown h.h4 hg (k6_ h.hD h.h4 (by decide)), Kd.R_over' h.hI (Kd.R_typed h.hD) (by decide) hg, Kd.S_over' h.hM (Kd.R_typed h.hD) (by decide) hg, hD1, pw_below_grown h.hB _ h.hB.size hg (fun k hk => Kd.R_base h.hD k hk), h.lo⟩
theorem impl_Trie_machine.Inv2.withEdge {x : List S78} {sts1 : List S77} {ok : Nat → Prop} {o : Nat} (h : impl_Trie_machine.Inv2 w W A0 n0 c0 bt b2 b4 (.slice (some ⟨gM, 0, none⟩) m cM) vI vD ids sts done) (hu : Kd.R k78 78 W w.heap.size ok u x) (hb : Below w.heap.size w W3) (hg : W.grownBy W3 u.ownBlock)
  (hM1 : Kd.S k77 77 (W3.setCell ⟨gM, o, none⟩ u3) w.heap.size (fun _ => True) (.slice (some ⟨gM, 0, none⟩) m cM) sts1) (hg1 : W3.grownBy (W3.setCell ⟨gM, o, none⟩ u3) (some gM)) : impl_Trie_machine.Inv2 w (W3.setCell ⟨gM, o, none⟩ u3) A0 n0 c0 bt b2 b4 (.slice (some ⟨gM, 0, none⟩) m cM) vI vD ids sts1 done ∧ ∀ (v : Value) (l : List Int), Kd.R (Kd.int .i64) 3 W w.heap.size (fun _ => True) v l → Kd.R (Kd.int .i64) 3 (W3.setCell ⟨gM, o, none⟩ u3) w.heap.size (fun _ => True) v l := by
 have hMR := Kd.S_R h.hM
 have hty : ∀ k, (Value.slice (some (⟨gM, 0, none⟩ : Addr)) m cM).ownBlock = some k → ∃ cells, W3.heap[k]? = some (.cells cells 77 (0, 0)) := fun k hk => by
  obtain ⟨cells, hc⟩ := Kd.R_typed hMR k hk
  exact ⟨cells, blk_grown hc hg (fun he => by
   obtain ⟨c2, hc2⟩ := Kd.R_typed hu k he.symm
   rw [hc] at hc2
   injection hc2 with hc2
   injection hc2 with _ hc2
   exact absurd hc2 (by decide))⟩
 have hgM : (Value.slice (some (⟨gM, 0, none⟩ : Addr)) m cM).ownBlock = some gM := by simp [Value.ownBlock]
 have hg2 : W3.grownBy (W3.setCell ⟨gM, o, none⟩ u3) (Value.slice (some (⟨gM, 0, none⟩ : Addr)) m cM).ownBlock := by rw [hgM]; exact hg1
 have hgb : w.heap.size ≤ gM := Kd.R_base hMR gM hgM
 obtain ⟨cG, hcG⟩ := hty gM hgM
 have fars : ∀ {k : Nat} {cs : Array Value} {t : TypeId}, W3.heap[k]? = some (.cells cs t (0, 0)) → t ≠ 77 → k ≠ gM := fun {k cs t} hk ht e => by
  subst e
  rw [hk] at hcG
  injection hcG with hcG
  injection hcG with _ hcG
  exact ht hcG
 have t3 := blk_grown h.ht hg (k6_ hu h.ht (by decide))
 have h23 := blk_grown h.h2 hg (k6_ hu h.h2 (by decide))
 have h43 := blk_grown h.h4 hg (k6_ hu h.h4 (by decide))
 exact ⟨⟨bR_ t3 (fars t3 (by decide)) _, bR_ h23 (fars h23 (by decide)) _, bR_ h43 (fars h43 (by decide)) _, Kd.R_over' (Kd.R_over' h.hI (Kd.R_typed hu) (by decide) hg) hty (by decide) hg2, hM1, Kd.R_over' (Kd.R_over' h.hD (Kd.R_typed hu) (by decide) hg) hty (by decide) hg2, bS_ hb hgb, h.lo⟩, fun v l hl => Kd.R_over' (Kd.R_over' hl (Kd.R_typed hu) (by decide) hg) hty (by decide) hg2⟩
end
def impl_Trie_machine.T20 : Bool × List (List Nat × List Nat) := (true, [([], []), ([0], [0]), ([], []), ([], []), ([3], [3]), ([], []), ([4, 5], [4, 5]), ([6], [6]), ([7], [7]), ([], []), ([9], [9]), ([], []), ([10, 11], [10, 11]), ([12], [12]), ([13], [13]), ([], []), ([], []), ([15, 16], [15, 16]), ([17], [17]), ([14, 18], [14, 18]), ([19], [19]), ([8, 20], [8, 20]), ([1, 2, 0, 1, 2, 3, 4, 5, 6, 7, 8, 9, 10, 11, 12, 13, 14, 15, 16, 17, 18, 19, 20, 21], [1, 2]), ([22, 0, 1, 2, 3, 4, 5, 6, 7, 8, 9, 10, 11, 12, 13, 14, 15, 16, 17, 18, 19, 20, 21], [22]), ([23, 21, 21, 0, 1, 2, 3, 4, 5, 6, 7, 8, 9, 10, 11, 12, 13, 14, 15, 16, 17, 18, 19, 20, 21], [21, 23])])
def impl_Trie_machine.B20 : List Nat := [0, 1, 0, 0, 8, 0, 56, 120, 248, 0, 512, 0, 3584, 7680, 15872, 0, 0, 98304, 229376, 523776, 1048064, 2097144, 4194303, 8388607, 16777215]
theorem impl_Trie_machine.tab20 : rtab .any (opsOf Try.f29 20) = impl_Trie_machine.T20 := by kernel_rfl
theorem impl_Trie_machine.bits20 : waitsOk impl_Trie_machine.T20.2 impl_Trie_machine.B20 = true := by kernel_rfl
theorem impl_Trie_machine.calls (k : Nat) (A0_0 : Option Addr) (c0_0 : Nat) (l0_0 : List (S65)) (r1 : List (S77)) (r2 : List Int) (w : World) (hr0_0 : Kd.C k65 w A0_0 l0_0.length l0_0) (hc0_0 : l0_0.length ≤ c0_0) (h : impl_Trie_machine.f k l0_0 = some (r1, r2)) :
  Calls Try.prog 29 #[.agg #[.slice A0_0 l0_0.length c0_0]] w fun e w' => ∃ v0_ v1_ : Value, e = .returned (.tuple #[.agg #[v0_], v1_]) ∧ Kd.S k77 77 w' w.heap.size (fun _ => True) v0_ r1 ∧ Kd.R (Kd.int .i64) 3 w' w.heap.size (fun _ => True) v1_ r2 ∧ Below w.heap.size w w' := by
 unfold impl_Trie_machine.f at h
 cases hE : impl_Trie_ends.f k l0_0 with
 | none => rw [hE] at h; cases h
 | some E =>
 rw [hE, Option.bind_some] at h
 by_cases hc : E.length = l0_0.length ∧ l0_0.length ≤ 1000000 ∧ SM.okL E = true
 rotate_left
 ·
  rw [if_neg hc] at h; cases h
 rw [if_pos hc] at h
 have HL := aM_ h
 have HC := aM_ hc
 have HR0 := aM_ hr0_0
 have HC0 := aM_ hc0_0
 obtain ⟨V, hV⟩ : ∃ V, V = ((w.alloc (.cells #[.slice A0_0 l0_0.length c0_0] 30)).alloc (.cells #[.slice none 0 0] 39)) := ⟨_, rfl⟩
 have HV := aM_ (show Below w.heap.size w V from by rw [hV]; exact bA_ (bA_ (Below.refl _ _) _) _)
 have HVS := aM_ (show V.heap.size = w.heap.size + 2 from by rw [hV]; simp)
 have HT := aM_ (show V.heap[w.heap.size]? = some (.cells #[.slice A0_0 l0_0.length c0_0] 30 (0, 0)) from by rw [hV]; exact b3_ (blk_new w _) _)
 have H2 := aM_ (show V.heap[w.heap.size + 1]? = some (.cells #[.slice none 0 0] 39 (0, 0)) from by rw [hV]; have := blk_new (w.alloc (.cells #[.slice A0_0 l0_0.length c0_0] 30)) (.cells #[.slice none 0 0] 39); simpa using this)
 have HX := aM_ (impl_Trie_ends.calls k A0_0 c0_0 l0_0 E V (k4_ hr0_0 HV.out) hc0_0 hE)
 have hct : V.cell? ⟨w.heap.size, 0, none⟩ = some (.slice A0_0 l0_0.length c0_0) := (bC_ HT.out 0).trans rfl
 have hmm := @run_makeMap Try.prog
 clear h hc hr0_0 hc0_0 hE
 go_enter Try.func29, Try.ntmps29
 go_wp2_with fail
 rw [← hV]
 clear hV
 refine HX.out.mono ?_
 clear HX
 rintro e w1 ⟨vE, rfl, hrE, hb1⟩
 have HE := aM_ hrE
 have HB1 := aM_ hb1
 have hbt1 := bB_ HT.out hb1
 have hb21 := bB_ H2.out hb1
 have hlt1 : w.heap.size + 2 ≤ w1.heap.size := by have := hb1.size; have := HVS.out; omega
 obtain ⟨W0, hW0⟩ : ∃ W0, W0 = ((w1.alloc (.cells #[] 3)).alloc (.map #[] 0)).alloc (.cells #[.slice none 0 0] 39) := ⟨_, rfl⟩
 have HI0 := aM_ (show impl_Trie_machine.Inv w W0 A0_0 l0_0.length c0_0 w.heap.size (w.heap.size + 1) (w1.heap.size + 1 + 1) (w1.heap.size + 1) (.slice none 0 0) vE (.slice (some ⟨w1.heap.size, 0, none⟩) 0 0) (.slice none 0 0) E (impl_Trie_machine.iB E 0) (impl_Trie_machine.sB l0_0 E 0) (impl_Trie_machine.fB E 0) from by
  rw [hW0]
  have hne := blk_new ((w1.alloc (.cells #[] 3)).alloc (.map #[] 0)) (.cells #[.slice none 0 0] 39)
  refine ⟨b3_ (b3_ (b3_ hbt1 _) _) _, b3_ (b3_ (b3_ hb21 _) _) _, by simpa using hne, k1_ (k1_ (k1_ (k5_ hrE HV.out.size) _) _) _, ?_, Kd.S_nil _ _ _ _ _, ?_, bA_ (bA_ (bA_ (HV.out.trans (hb1.mono HV.out.size)) _) _) _, ⟨by omega, by omega⟩, ⟨Nat.le_refl _, by omega, by omega, by omega⟩⟩
  ·
   have h0 := own_lit w1 w.heap.size 3 .i64 [] (by omega) (by simp)
   exact k1_ (k1_ (Kd.R_of_own (enc := Value.int .i64) h0 (fun _ _ => trivial)) _) _
  ·
   have h0 := SM.Is.made (w1.alloc (.cells #[] 3))
   exact SM.Is.alloc (show SM.Is _ _ [] from by simpa using h0) _)
 have hcz : (((w1.alloc (.cells #[] 3)).alloc (.map #[] 0)).alloc (.cells #[.slice none 0 0] 39)).cell? ⟨w.heap.size, 0, none⟩ = some (.slice A0_0 l0_0.length c0_0) := by rw [← hW0]; exact (bC_ HI0.out.ht 0).trans rfl
 clear hrE hb1 hbt1 hb21 hct
 go_wp2_with fail
 rw [← hW0]
 clear hW0 hcz hmm
 generalize w1.heap.size + 1 + 1 = b4 at HI0 ⊢
 generalize w1.heap.size + 1 = gM at HI0 ⊢
 go_loopg [6, 24] l0_0.length (fun gg v6 v24 w' => ∃ (i : Nat) (vM : Value), i ≤ l0_0.length ∧ l0_0.length - i ≤ gg ∧ v24 = .int .i64 (i : Int) ∧ Aside0 (impl_Trie_machine.Inv w w' A0_0 l0_0.length c0_0 w.heap.size (w.heap.size + 1) b4 gM vM vE v6 vM E (impl_Trie_machine.iB E i) (impl_Trie_machine.sB l0_0 E i) (impl_Trie_machine.fB E i)))
 case atStart => exact ⟨0, .slice none 0 0, Nat.zero_le _, by omega, rfl, HI0⟩
 case round =>
  clear HI0
  obtain ⟨i, vM, hi, hg, rfl, HI⟩ := hrel
  by_cases hlt : i < l0_0.length
  ·
   have hltz : (i : Int) < (l0_0.length : Int) := by omega
   have hn6 : l0_0.length ≤ 1000000 := HC.out.2.1
   obtain ⟨gE, cE, eE, gEb, gEl, gEc, gEh⟩ := Kd.R_form HI.out.hE (by rw [HC.out.1]; omega)
   subst eE
   clear gEb gEl gEh
   have hltE : i < E.length := by rw [HC.out.1]; exact hlt
   have hcell := kC_ eB_ HI.out.hE (i : Int) (by omega) (by omega)
   rw [Int.toNat_natCast] at hcell
   obtain ⟨hx0, hf0⟩ := hcell
   obtain ⟨x, hx⟩ : ∃ x, rdOf eB_ E (i : Int) = x := ⟨_, rfl⟩
   have HX := aM_ hx
   rw [hx] at hx0
   have hxs : x.size ≤ maxLen := by
    have := SM.okL.size HC.out.2.2 (i : Int) (by omega) (by rw [HC.out.1]; exact hltz)
    rw [hx] at this
    unfold maxLen
    omega
   have HXS := aM_ hxs
   have xc : wr.cell? ⟨gE, i, none⟩ = some (.string x) := hx0
   have HL6 := aM_ (impl_Trie_machine.fB_length l0_0 E i)
   have HG6 := aM_ (impl_Trie_machine.iB_length E i)
   clear hx0 hf0 hx hxs
   have hlk := SM.get2 HI.out.hK 82 Try.underlying82 x HXS.out
   cases hh : SM.has_ (impl_Trie_machine.fB E i) x with
   | true =>
    have HH := aM_ hh
    rw [hh] at hlk
    clear hh
    have hlk2 := SM.get HI.out.hK 82 Try.underlying82 x HXS.out
    go_wp2_with (first | ((with_reducible refine gate_builtin (b := .append) (xs := #[.tmp 58, .tmp 65]) rfl ?_); at_builtin; refine Kd.R_append (Kd.int .i64) (W := wr) (w0 := w) w.heap.size rfl (.tmp 58) (.tmp 65) 47 3 (.int .i64 0) 8 rfl Try.underlying47 info3 rfl (by decide) (by omega) u6 (impl_Trie_machine.iB E i) (SM.at_ (impl_Trie_machine.fB E i) x) [.int .i64 (SM.at_ (impl_Trie_machine.fB E i) x)] (fun _ => True) (fun _ => False) rfl rfl ?aP (fun _ hk => hk.elim) (fun _ _ => trivial) ?aO ?aB ?aS ?aL ?_; (case aP => exact rfl); (case aO => exact HI.out.hI); (case aB => exact HI.out.hB); (case aS => exact HI.out.hB.size); (case aL => rw [HG6.out]; omega); intro v1 w10 ho hb hg1 hat; have HI2 := aM_ (HI.out.withIds ho hb hg1); clear ho hb hg1 hat hlk hlk2 xc))
    go_roundg (l0_0.length - (i + 1))
    case measure => omega
    case rel =>
     refine ⟨i + 1, vM, by omega, by omega, by go_num, ?_⟩
     have e1 : impl_Trie_machine.fB E (i + 1) = impl_Trie_machine.fB E i := by rw [impl_Trie_machine.fB, HX.out, if_pos HH.out]
     have e2 : impl_Trie_machine.sB l0_0 E (i + 1) = impl_Trie_machine.sB l0_0 E i := by rw [impl_Trie_machine.sB, HX.out, if_pos HH.out]
     have e3 : impl_Trie_machine.iB E (i + 1) = impl_Trie_machine.iB E i ++ [SM.at_ (impl_Trie_machine.fB E i) x] := by rw [impl_Trie_machine.iB, e1, HX.out]
     rw [e1, e2, e3]
     exact HI2
   | false =>
    have HH := aM_ hh
    rw [hh] at hlk
    clear hh
    have h4c : wr.cell? ⟨b4, 0, none⟩ = some vM := (bC_ HI.out.h4 0).trans rfl
    obtain ⟨AM, cM, eM⟩ := Kd.S_slice HI.out.hM
    subst eM
    go_wp2_with fail
    go_still_tail 8, (by kernel_rfl)
    refine SM.put (w := wr.drew) rfl (.tmp 38) (.tmp 42) (.tmp 45) 82 Try.underlying82 rfl gM (impl_Trie_machine.fB E i) rfl HI.out.hK.drew (by have := HL6.out.2; omega) x HXS.out rfl (by rw [HL6.out.1]; rfl) ?_
    intro w2 his hg2
    have HI2 := aM_ (HI.out.drew.put his hg2)
    clear his hg2 HI h4c xc hlk
    obtain ⟨ad, ead, hd0, hd1, hd2⟩ := at_T65 HR0.out (i : Int) (by omega) hltz
    subst ead
    rw [Int.toNat_natCast] at hd2
    have hbn := HI2.out.hB
    have hd2b := (hbn.cell (wB_ w _ hd2)).trans hd2
    have hd2w : w2.cell? ⟨(ad.add (i * 3)).block, (ad.add (i * 3)).off + 2, none⟩ = some (.bool (rd_T65 l0_0 (i : Int)).f2) := hd2b
    have HD2 := aM_ (And.intro (wB_ w _ hd2) hd2)
    have h4c : w2.cell? ⟨b4, 0, none⟩ = some (.slice AM (impl_Trie_machine.sB l0_0 E i).length cM) := (bC_ HI2.out.h4 0).trans rfl
    have htc : w2.cell? ⟨w.heap.size, 0, none⟩ = some (.slice (some ad) l0_0.length c0_0) := (bC_ HI2.out.ht 0).trans rfl
    clear hd0 hd1 hd2 hd2b hbn
    go_wp2_with fail
    refine start_ (n := 13) (S := fun w' => w'.cell? ⟨w.heap.size, 0, none⟩ = some (.slice (some ad) l0_0.length c0_0) ∧ w'.cell? ⟨b4, 0, none⟩ = some (.slice AM (impl_Trie_machine.sB l0_0 E i).length cM) ∧ w'.cell? ⟨(ad.add (i * 3)).block, (ad.add (i * 3)).off + 2, none⟩ = some (.bool (rd_T65 l0_0 (i : Int)).f2)) (ds := [10, 12]) #[fy, fy, fy, fy, fy, fy, fy, fy, fy, fy, fy, fy, fy] (by kernel_rfl) rfl rfl ⟨htc, h4c, hd2w⟩ (fun hHeld => ?_)
    refine with_tabW impl_Trie_machine.tab8 impl_Trie_machine.bits8 (fun HT_ HW_ => ?_)
    refine pure_ (i := 0) (N := some 46) (v := ?_) (a' := ?_) #[ty, fy, fy, fy, fy, fy, fy, fy, fy, fy, fy, fy, fy] rfl rfl (aO_ HT_.out (by kernel_rfl)) (fun _ _ _ h => h) (Or.inl ⟨by rfl, ?_⟩) ?_ ?_; rotate_left; (intro w'; go_simp; with_reducible rfl); rotate_left; (simp only [Act.put, sA_, sB_, sC_, i6_, i3_]; rfl)
    refine pure_ (i := 2) (N := some 48) (v := ?_) (a' := ?_) #[ty, fy, ty, fy, fy, fy, fy, fy, fy, fy, fy, fy, fy] rfl rfl (aO_ HT_.out (by kernel_rfl)) (fun _ _ _ h => h) (Or.inl ⟨by rfl, ?_⟩) ?_ ?_; rotate_left; (intro w'; go_simp; with_reducible rfl); rotate_left; (simp only [Act.put, sA_, sB_, sC_, i6_, i3_]; rfl)
    refine pure_ (i := 4) (N := some 50) (v := ?_) (a' := ?_) #[ty, fy, ty, fy, ty, fy, fy, fy, fy, fy, fy, fy, fy] rfl rfl (aO_ HT_.out (by kernel_rfl)) (fun _ _ _ h => h) (Or.inl ⟨by rfl, ?_⟩) ?_ ?_; rotate_left; (intro w'; go_simp; with_reducible rfl); rotate_left; (simp only [Act.put, sA_, sB_, sC_, i6_, i3_]; rfl)
    refine take_ (i := 1) (N := some 47) (v := ?_) (a' := ?_) #[ty, ty, ty, fy, ty, fy, fy, fy, fy, fy, fy, fy, fy] rfl rfl (tW_ HT_.out HW_.out (by kernel_rfl)) (fun _ _ _ h => h) (Or.inl ⟨by rfl, ?_⟩) hHeld ?_ ?_; rotate_left; (rintro w' ⟨s0, s1, s2⟩; go_simp; with_reducible rfl); rotate_left; (simp only [Act.put, sA_, sB_, sC_, i6_, i3_]; rfl)
    refine take_ (i := 3) (N := some 49) (v := ?_) (a' := ?_) #[ty, ty, ty, ty, ty, fy, fy, fy, fy, fy, fy, fy, fy] rfl rfl (tW_ HT_.out HW_.out (by kernel_rfl)) (fun _ _ _ h => h) (Or.inl ⟨by rfl, ?_⟩) hHeld ?_ ?_; rotate_left; (rintro w' ⟨s0, s1, s2⟩; go_simp; with_reducible rfl); rotate_left; (simp only [Act.put, sA_, sB_, sC_, i6_, i3_]; rfl)
    refine pure_ (i := 5) (N := some 51) (v := ?_) (a' := ?_) #[ty, ty, ty, ty, ty, ty, fy, fy, fy, fy, fy, fy, fy] rfl rfl (aO_ HT_.out (by kernel_rfl)) (fun _ _ _ h => h) (Or.inl ⟨by rfl, ?_⟩) ?_ ?_; rotate_left; (intro w'; go_simp; with_reducible rfl); rotate_left; (simp only [Act.put, sA_, sB_, sC_, i6_, i3_]; rfl)
    refine pure_ (i := 6) (N := some 52) (v := ?_) (a' := ?_) #[ty, ty, ty, ty, ty, ty, ty, fy, fy, fy, fy, fy, fy] rfl rfl (aO_ HT_.out (by kernel_rfl)) (fun _ _ _ h => h) (Or.inl ⟨by rfl, ?_⟩) ?_ ?_; rotate_left; (intro w'; go_simp; with_reducible rfl); rotate_left; (simp only [Act.put, sA_, sB_, sC_, i6_, i3_]; rfl)
    refine take_ (i := 7) (N := some 53) (v := ?_) (a' := ?_) #[ty, ty, ty, ty, ty, ty, ty, ty, fy, fy, fy, fy, fy] rfl rfl (tW_ HT_.out HW_.out (by kernel_rfl)) (fun _ _ _ h => h) (Or.inl ⟨by rfl, ?_⟩) hHeld ?_ ?_; rotate_left; (rintro w' ⟨s0, s1, s2⟩; go_simp; with_reducible rfl); rotate_left; (simp only [Act.put, sA_, sB_, sC_, i6_, i3_]; rfl)
    refine pure_ (i := 8) (N := some 54) (v := ?_) (a' := ?_) #[ty, ty, ty, ty, ty, ty, ty, ty, ty, fy, fy, fy, fy] rfl rfl (aO_ HT_.out (by kernel_rfl)) (fun _ _ _ h => h) (Or.inl ⟨by rfl, ?_⟩) ?_ ?_; rotate_left; (intro w'; go_simp; with_reducible rfl); rotate_left; (simp only [Act.put, sA_, sB_, sC_, i6_, i3_]; rfl)
    refine one_ (i := 9) (N := some 55) #[ty, ty, ty, ty, ty, ty, ty, ty, ty, ty, fy, fy, fy] rfl rfl (one_of HT_.out (by kernel_rfl)) (by decide) (fun K hK => ?_)
    refine value_ (w1 := ?_) (v := ?_) (by rfl) rfl ?_ ?_
    rotate_left 2
    ·
     go_simp
     constructor
     ·
      rfl
     ·
      rfl
    refine hK.out _ _ ⟨(World.cell?_alloc_lt _ _ _ (wB_ _ _ hHeld.1)).trans hHeld.1, (World.cell?_alloc_lt _ _ _ (wB_ _ _ hHeld.2.1)).trans hHeld.2.1, (World.cell?_alloc_lt _ _ _ (wB_ _ _ hHeld.2.2)).trans hHeld.2.2⟩ (fun hHeld => ?_)
    clear hK K
    refine norm_ (a' := ?_) ?_ ?_; rotate_left; (show Act.put _ (some 55) _ = _; simp only [Act.put, sA_, sB_, sC_, i6_, i3_]; rfl)
    refine last_ (i := 10) (N := some 56) #[ty, ty, ty, ty, ty, ty, ty, ty, ty, ty, ty, fy, fy] rfl rfl (one_of HT_.out (by kernel_rfl)) (by decide) (fun K hK => ?_)
    refine Kd.S_append_step k77 (W := w2.drew) (w0 := w) w.heap.size (by rfl) (.tmp 47) (.tmp 55) 37 77 (.agg #[(.bool false), (.slice none 0 0)]) 32 rfl Try.underlying37 info77 rfl (by decide) (by omega) (.slice AM (impl_Trie_machine.sB l0_0 E i).length cM) (impl_Trie_machine.sB l0_0 E i) (⟨(rd_T65 l0_0 (i : Int)).f2, []⟩ : S77) [.bool (rd_T65 l0_0 (i : Int)).f2, .slice none 0 0] (fun _ => True) (fun _ => False) rfl rfl ?aP (fun _ hk => hk.elim) (fun _ _ => trivial) ?aO ?aB ?aS ?aL ?_
    (case aP => exact k77_mkM _ _ _ (⟨(rd_T65 l0_0 (i : Int)).f2, []⟩ : S77) (Kd.R_nil _ _ _ _ _))
    (case aO => exact Kd.S_mono (Kd.S_drew HI2.out.hM) (fun _ h => ⟨h, fun z => z⟩))
    (case aB => exact bD_ HI2.out.hB)
    (case aS => exact HI2.out.hB.size)
    (case aL => have := HL6.out; omega)
    intro v3 w3 ho hb hg3 hat
    obtain ⟨A3, c3, e3⟩ := Kd.S_slice ho
    subst e3
    rw [List.length_append, List.length_singleton] at ho
    have HI3 := aM_ (HI2.out.drew.withSts ho hb hg3)
    clear ho hb hg3 hat HI2 htc h4c hd2w
    refine hK.out _ _ ?_
    clear hK K
    refine norm_ (a' := ?_) ?_ ?_; rotate_left; (show Act.put _ (some 56) _ = _; simp only [Act.put, sA_, sB_, sC_, i6_, i3_]; rfl)
    refine pure_ (i := 11) (N := some 57) (v := ?_) (a' := ?_) #[ty, ty, ty, ty, ty, ty, ty, ty, ty, ty, ty, ty, fy] rfl rfl (aO_ HT_.out (by kernel_rfl)) (fun _ _ _ h => h) (Or.inl ⟨by rfl, ?_⟩) ?_ ?_; rotate_left; (intro w'; go_simp; with_reducible rfl); rotate_left; (simp only [Act.put, sA_, sB_, sC_, i6_, i3_]; rfl)
    refine last_ (i := 12) (N := none) #[ty, ty, ty, ty, ty, ty, ty, ty, ty, ty, ty, ty, ty] rfl rfl (one_of HT_.out (by kernel_rfl)) (by decide) (fun K hK => ?_)
    have h4d : w3.cell? ⟨b4, 0, none⟩ = some (.slice AM (impl_Trie_machine.sB l0_0 E i).length cM) := (bC_ HI3.out.h4 0).trans rfl
    have h4f := bF_ HI3.out.h4 0
    refine skip_ (w1 := ?_) (by rfl) rfl ?_ ?_
    rotate_left
    ·
     go_simp
     rfl
    refine hK.out _ _ ?_
    clear hK K
    refine done_ (done_of HT_.out (by kernel_rfl)) ?_
    have HI4 := aM_ (HI3.out.set4 (.slice A3 ((impl_Trie_machine.sB l0_0 E i).length + 1) c3))
    obtain ⟨w4, hw4⟩ : ∃ w4, w3.setCell ⟨b4, 0, none⟩ (.slice A3 ((impl_Trie_machine.sB l0_0 E i).length + 1) c3) = w4 := ⟨_, rfl⟩
    rw [hw4] at HI4 ⊢
    clear HI3 hw4
    have e1 : impl_Trie_machine.fB E (i + 1) = impl_Trie_machine.fB E i ++ [x] := by rw [impl_Trie_machine.fB, HX.out, if_neg (by rw [HH.out]; exact Bool.false_ne_true)]
    have e2 : impl_Trie_machine.sB l0_0 E (i + 1) = impl_Trie_machine.sB l0_0 E i ++ [⟨(rd_T65 l0_0 (i : Int)).f2, []⟩] := by rw [impl_Trie_machine.sB, HX.out, if_neg (by rw [HH.out]; exact Bool.false_ne_true)]
    rw [← e1, ← e2] at HI4
    have HEE := aM_ (And.intro e1 e2)
    clear e1 e2
    have hcell := kC_ eB_ HI4.out.hE (i : Int) (by omega) (by omega)
    rw [Int.toNat_natCast, HX.out] at hcell
    have xc : w4.cell? ⟨gE, i, none⟩ = some (.string x) := hcell.1
    have hlk2 := SM.get HI4.out.hK 82 Try.underlying82 x HXS.out
    clear hcell
    go_wp2_with (first | ((with_reducible refine gate_builtin (b := .append) (xs := #[.tmp 58, .tmp 65]) rfl ?_); at_builtin; refine Kd.R_append (Kd.int .i64) (W := w4) (w0 := w) w.heap.size rfl (.tmp 58) (.tmp 65) 47 3 (.int .i64 0) 8 rfl Try.underlying47 info3 rfl (by decide) (by omega) u6 (impl_Trie_machine.iB E i) (SM.at_ (impl_Trie_machine.fB E (i + 1)) x) [.int .i64 (SM.at_ (impl_Trie_machine.fB E (i + 1)) x)] (fun _ => True) (fun _ => False) rfl rfl ?aP (fun _ hk => hk.elim) (fun _ _ => trivial) ?aO ?aB ?aS ?aL ?_; (case aP => exact rfl); (case aO => exact HI4.out.hI); (case aB => exact HI4.out.hB); (case aS => exact HI4.out.hB.size); (case aL => rw [HG6.out]; omega); intro v1 w10 ho hb hg1 hat; have HI5 := aM_ (HI4.out.withIds ho hb hg1); clear ho hb hg1 hat hlk2 xc))
    go_roundg (l0_0.length - (i + 1))
    case measure => omega
    case rel =>
     refine ⟨i + 1, .slice A3 ((impl_Trie_machine.sB l0_0 E i).length + 1) c3, by omega, by omega, by go_num, ?_⟩
     have e3 : impl_Trie_machine.iB E (i + 1) = impl_Trie_machine.iB E i ++ [SM.at_ (impl_Trie_machine.fB E (i + 1)) x] := by rw [impl_Trie_machine.iB, HX.out]
     rw [e3]
     exact HI5
  ·
   have hltz : ¬ (i : Int) < (l0_0.length : Int) := by omega
   obtain rfl : i = l0_0.length := by omega
   have hL := HL.out
   obtain ⟨ids, hids⟩ : ∃ ids, impl_Trie_machine.iB E l0_0.length = ids := ⟨_, rfl⟩
   obtain ⟨sts0, hst0⟩ : ∃ s_, impl_Trie_machine.sB l0_0 E l0_0.length = s_ := ⟨_, rfl⟩
   have HIDL := aM_ (show ids.length = l0_0.length from by rw [← hids]; exact impl_Trie_machine.iB_length E l0_0.length)
   have HSL := aM_ (show sts0.length ≤ 1000000 from by rw [← hst0]; have := (impl_Trie_machine.fB_length l0_0 E l0_0.length); have := HC.out.2.1; omega)
   rw [hids, hst0] at hL HI
   cases hl1 : impl_Trie_machine.l1 k l0_0 ids l0_0.length 0 (List.replicate sts0.length false) sts0 with
   | none => rw [hl1] at hL; cases hL
   | some q =>
   rw [hl1] at hL
   injection hL with hL
   injection hL with hL1 hL2
   subst hL1 hL2
   have HQ := aM_ hl1
   clear hl1 hids hst0 HL
   have h4c : wr.cell? ⟨b4, 0, none⟩ = some vM := (bC_ HI.out.h4 0).trans rfl
   obtain ⟨AM, cM, eM⟩ := Kd.S_slice HI.out.hM
   subst eM
   obtain ⟨AI, cI, eI⟩ := kS_ HI.out.hI
   subst eI
   have hmk := print_make_of (P := Try.prog) 83 4 (.bool false) 1 Try.underlying83 impl_Trie_machine.infob rfl (by decide) sts0.length (by have := HSL.out; omega)
   have HI2 := aM_ (show impl_Trie_machine.Inv2 w (wr.alloc (.cells (madeCells #[.bool false] sts0.length) 4)) A0_0 l0_0.length c0_0 w.heap.size (w.heap.size + 1) b4 (.slice AM sts0.length cM) (.slice AI ids.length cI) (.slice (some ⟨wr.heap.size, 0, none⟩) sts0.length sts0.length) ids sts0 (List.replicate sts0.length false) from by
    have h0 := own_made_of (enc := Value.bool) (d := false) wr w.heap.size 4 sts0.length HI.out.hB.size (by have := HSL.out; omega)
    have h1 : Kd.R Kd.bool 4 (wr.alloc (.cells (madeCells #[.bool false] sts0.length) 4)) w.heap.size (fun _ => True) (.slice (some ⟨wr.heap.size, 0, none⟩) sts0.length sts0.length) (List.replicate sts0.length false) := Kd.R_of_own (enc := Value.bool) (by rw [List.length_replicate]; exact h0) (fun _ _ => trivial)
    exact ⟨b3_ HI.out.ht _, b3_ HI.out.h2 _, b3_ HI.out.h4 _, k1_ HI.out.hI _, Kd.S_alloc HI.out.hM _, h1, bA_ HI.out.hB _, ⟨HI.out.lo.1, HI.out.lo.2.1, HI.out.lo.2.2.1, HI.out.n4.2⟩⟩)
   clear HI
   go_wp2_with fail
   clear hmk h4c
   generalize hWD : wr.alloc (.cells (madeCells #[.bool false] sts0.length) 4) = WD at HI2 ⊢
   clear hWD
   generalize hbD : wr.heap.size = bD at HI2 ⊢
   clear hbD
   obtain ⟨m, hm⟩ : ∃ m, sts0.length = m := ⟨_, rfl⟩
   have HM := aM_ (And.intro hm (List.length_replicate (n := sts0.length) (a := false)))
   rw [hm] at HI2 HQ ⊢
   clear hm
   go_loopg [74] l0_0.length (fun gg v74 w' => ∃ (i : Nat) (done : List Bool) (sts : List S77), i ≤ l0_0.length ∧ l0_0.length - i ≤ gg ∧ v74 = .int .i64 (i : Int) ∧ Aside0 (impl_Trie_machine.l1 k l0_0 ids (l0_0.length - i) i done sts = some q) ∧ Aside0 (sts.length = m ∧ done.length = m) ∧ Aside0 (impl_Trie_machine.Inv2 w w' A0_0 l0_0.length c0_0 w.heap.size (w.heap.size + 1) b4 (.slice AM m cM) (.slice AI ids.length cI) (.slice (some ⟨bD, 0, none⟩) m m) ids sts done))
   case atStart => exact ⟨0, List.replicate m false, sts0, Nat.zero_le _, by omega, rfl, HQ, ⟨HM.out.1, List.length_replicate⟩, HI2⟩
   case round =>
    clear HI2 HQ HM
    obtain ⟨i, done, sts, hi, hg, rfl, HQ, HN, HI⟩ := hrel
    have hn6 : l0_0.length ≤ 1000000 := HC.out.2.1
    have hidl : ids.length ≤ l0_0.length ∧ l0_0.length ≤ ids.length := by have := HIDL.out; omega
    by_cases hlt : i < l0_0.length
    ·
     have hltz : (i : Int) < (ids.length : Int) := by omega
     obtain ⟨d, hd⟩ : ∃ d, l0_0.length - i = d + 1 := ⟨l0_0.length - i - 1, by omega⟩
     have hQ := HQ.out
     have HDE := aM_ (show l0_0.length - (i + 1) = d from by omega)
     rw [hd, impl_Trie_machine.l1] at hQ
     clear hd
     by_cases hc1 : 0 ≤ rd ids (i : Int) ∧ rd ids (i : Int) < (sts.length : Int) ∧ rd ids (i : Int) < (done.length : Int)
     ·
      rw [if_pos hc1] at hQ
      obtain ⟨sn, hsn⟩ : ∃ sn : Nat, rd ids (i : Int) = (sn : Int) := ⟨(rd ids (i : Int)).toNat, by omega⟩
      rw [hsn] at hQ hc1
      have hsm : sn < m := by have := HN.out.1; omega
      obtain ⟨gI, cI2, eI, _, _, _, _⟩ := Kd.R_form HI.out.hI (by omega)
      injection eI with eI1 eI2 eI3
      subst eI1
      subst eI3
      clear eI2
      have hcI := kC_ 0 HI.out.hI (i : Int) (by omega) hltz
      rw [Int.toNat_natCast] at hcI
      have hcI1 : wr.cell? ⟨gI, i, none⟩ = some (.int .i64 (sn : Int)) := by rw [← hsn]; exact hcI.1
      have hcD := kC_ false HI.out.hD (sn : Int) (by omega) (by omega)
      rw [Int.toNat_natCast] at hcD
      have hsmz : (sn : Int) < (m : Int) := by omega
      have HSN := aM_ hsn
      have HC1 := aM_ hc1
      clear hcI hsn hc1
      cases hdn : rdOf false done (sn : Int) with
      | true =>
       rw [hdn] at hcD hQ
       rw [if_pos rfl] at hQ
       have HQ2 := aM_ hQ
       obtain ⟨hcD1, hcD2⟩ := hcD
       clear hQ hdn HQ
       go_wp2_with fail
       go_roundg (l0_0.length - (i + 1))
       case measure => omega
       case rel =>
        refine ⟨i + 1, done, sts, by omega, by omega, by go_num, ⟨?_⟩, HN, HI⟩
        rw [HDE.out]
        exact HQ2.out
      | false =>
       rw [hdn] at hcD hQ
       rw [if_neg Bool.false_ne_true] at hQ
       cases hkd : impl_Trie_kids.f k l0_0 (i : Int) with
       | none => rw [hkd] at hQ; cases hQ
       | some ks =>
       rw [hkd, Option.bind_some] at hQ
       by_cases hc2 : impl_Trie_machine.okk l0_0 ids ks = true ∧ ks.length ≤ 1000000 ∧ (rd_T77 sts (sn : Int)).f1.length ≤ 1000000
       ·
        rw [if_pos hc2] at hQ
        have HQ2 := aM_ hQ
        have HC2 := aM_ hc2
        obtain ⟨hcD1, hcD2⟩ := hcD
        have HKD := aM_ hkd
        have HPD := aM_ (And.intro (Kd.R_putn HI.out.hD (sn : Int) true) (Kd.R_putg HI.out.hD (sn : Int) true).2)
        have hbt : wr.cell? ⟨w.heap.size, 0, none⟩ = some (.slice A0_0 l0_0.length c0_0) := (bC_ HI.out.ht 0).trans rfl
        have hbtne : w.heap.size ≠ bD := fun e => k6_ HI.out.hD HI.out.ht (by decide) (by rw [e]; simp [Value.ownBlock])
        have HID := aM_ (show impl_Trie_machine.Inv2 w (wr.setCell ⟨bD, sn, none⟩ (.bool true)) A0_0 l0_0.length c0_0 w.heap.size (w.heap.size + 1) b4 (.slice AM m cM) (.slice (some ⟨gI, 0, none⟩) ids.length cI) (.slice (some ⟨bD, 0, none⟩) m m) ids sts (done.set sn true) from by
         have h1 := HPD.out
         simp only [Int.toNat_natCast] at h1
         exact HI.out.withDone h1.1 (by simpa [Value.ownBlock] using h1.2))
        have hbt2 : (wr.setCell ⟨bD, sn, none⟩ (.bool true)).cell? ⟨w.heap.size, 0, none⟩ = some (.slice A0_0 l0_0.length c0_0) := (bC_ HID.out.ht 0).trans rfl
        have HCK := aM_ (impl_Trie_kids.calls k A0_0 c0_0 l0_0 (i : Int) ks (wr.setCell ⟨bD, sn, none⟩ (.bool true)) (k4_ HR0.out HID.out.hB) HC0.out hkd)
        clear hQ hdn HQ hc2 hkd HPD HI
        go_wp2_with fail
        refine HCK.out.mono ?_
        clear HCK
        rintro e w2 ⟨vK, rfl, hrK, hbK⟩
        obtain ⟨AK, cK, eK⟩ := kS_ hrK
        subst eK
        have HI0 := aM_ (HID.out.below hbK)
        have HK0 := aM_ (k5_ hrK HID.out.hB.size)
        clear hrK hbK HID hcI1 hcD1 hcD2 hbt hbt2 hbtne
        go_wp2_with fail
        obtain ⟨x, hx⟩ : ∃ x, rd_T77 sts (sn : Int) = x := ⟨_, rfl⟩
        have HXE := aM_ hx
        have HST0 := aM_ (show sts.set sn (impl_Trie_machine.add l0_0 ids (ks.take 0) x) = sts from by
         rw [List.take_zero, ← hx]
         unfold impl_Trie_machine.add
         rw [List.map_nil, List.append_nil]
         have hlt2 : sn < sts.length := by have := HN.out.1; omega
         have e : (⟨(rd_T77 sts (sn : Int)).f0, (rd_T77 sts (sn : Int)).f1⟩ : S77) = sts[sn] := by
          unfold rd_T77
          rw [Int.toNat_natCast, List.getD_eq_getElem?_getD, List.getElem?_eq_getElem hlt2]
          rfl
         rw [e, List.set_getElem_self])
        rw [hx] at HC2
        clear hx
        go_loopg [90] ks.length (fun gg v90 w' => ∃ (j : Nat), j ≤ ks.length ∧ ks.length - j ≤ gg ∧ v90 = .int .i64 (j : Int) ∧ Aside0 (Kd.R (Kd.int .i64) 3 w' w.heap.size (fun _ => True) (.slice AK ks.length cK) ks) ∧ Aside0 (impl_Trie_machine.Inv2 w w' A0_0 l0_0.length c0_0 w.heap.size (w.heap.size + 1) b4 (.slice AM m cM) (.slice (some ⟨gI, 0, none⟩) ids.length cI) (.slice (some ⟨bD, 0, none⟩) m m) ids (sts.set sn (impl_Trie_machine.add l0_0 ids (ks.take j) x)) (done.set sn true)))
        case atStart => exact ⟨0, Nat.zero_le _, by omega, rfl, HK0, ⟨by rw [HST0.out]; exact HI0.out⟩⟩
        case round =>
         clear HI0 HK0 HST0
         obtain ⟨j, hj, hgj, rfl, HKS, HI⟩ := hrel
         by_cases hlj : j < ks.length
         ·
          have hljz : (j : Int) < (ks.length : Int) := by omega
          obtain ⟨kn, hkn, hkz1, hkz2⟩ := impl_Trie_machine.okk_at HC2.out.1 hlj
          obtain ⟨ad, ead, hd0, hd1, hd2⟩ := at_T65 HR0.out (kn : Int) (by omega) hkz1
          subst ead
          rw [Int.toNat_natCast] at hd0
          have HKN := aM_ (And.intro hkn (And.intro hkz1 hkz2))
          have HDD := aM_ (And.intro (wB_ w _ hd0) hd0)
          have hkb : ks.length ≤ 1000000 := HC2.out.2.1
          obtain ⟨gK, cK2, eK, _, _, _, _⟩ := Kd.R_form HKS.out (by omega)
          injection eK with eK1 eK2 eK3
          subst eK1
          subst eK3
          clear eK2
          have hck := kC_ 0 HKS.out (j : Int) (by omega) hljz
          rw [Int.toNat_natCast] at hck
          have hck1 : wr.cell? ⟨gK, j, none⟩ = some (.int .i64 (kn : Int)) := by rw [← HKN.out.1]; exact hck.1
          clear hck
          have hMR := Kd.S_R HI.out.hM
          obtain ⟨gS, cM2, eM, _, _, _, _⟩ := Kd.R_form hMR (by rw [List.length_set]; have := HN.out.1; omega)
          injection eM with eM1 eM2 eM3
          subst eM1
          subst eM3
          clear eM2 hMR
          obtain ⟨stj, hstj⟩ : ∃ s_, sts.set sn (impl_Trie_machine.add l0_0 ids (ks.take j) x) = s_ := ⟨_, rfl⟩
          obtain ⟨xj, hxj⟩ : ∃ x_, impl_Trie_machine.add l0_0 ids (ks.take j) x = x_ := ⟨_, rfl⟩
          have HXJ := aM_ (And.intro hstj hxj)
          rw [hstj] at HI
          have hrx : rd_T77 stj (sn : Int) = xj := by
           rw [← hstj, ← hxj]
           unfold rd_T77
           rw [Int.toNat_natCast, List.getD_eq_getElem?_getD, List.getElem?_set_self (by have := HN.out.1; omega)]
           rfl
          have HXL := aM_ (show xj.f1.length ≤ 2000000 from by
           rw [← hxj]
           unfold impl_Trie_machine.add
           rw [List.length_append, List.length_map, List.length_take]
           have := HC2.out.2.2
           omega)
          obtain ⟨ue, oki, hec, hef, heo, hed0⟩ := impl_Trie_machine.edge HI.out.hM sn hsm
          rw [hrx] at heo hed0
          have HEO := aM_ heo
          have HED := aM_ hed0
          have h4c : wr.cell? ⟨b4, 0, none⟩ = some (.slice (some ⟨gS, 0, none⟩) m cM) := (bC_ HI.out.h4 0).trans rfl
          have htc : wr.cell? ⟨w.heap.size, 0, none⟩ = some (.slice (some ad) l0_0.length c0_0) := (bC_ HI.out.ht 0).trans rfl
          have hdc : wr.cell? (ad.add (kn * 3)) = some (.int .i64 (rd_T65 l0_0 (kn : Int)).f0) := (HI.out.hB.cell HDD.out.1).trans HDD.out.2
          have hic : wr.cell? ⟨gI, kn, none⟩ = some (.int .i64 (rd ids (kn : Int))) := by
           have h9 := (kC_ 0 HI.out.hI (kn : Int) (by omega) hkz2).1
           rw [Int.toNat_natCast] at h9
           exact h9
          clear hstj hxj hrx heo hed0 hkn hd0 hd1 hd2
          go_wp2_with fail
          refine start_ (n := 25) (S := fun w' => w'.cell? ⟨b4, 0, none⟩ = some (.slice (some ⟨gS, 0, none⟩) m cM) ∧ w'.cell? ⟨gS, sn * 2 + 1, none⟩ = some ue ∧ w'.cell? ⟨w.heap.size, 0, none⟩ = some (.slice (some ad) l0_0.length c0_0) ∧ w'.cell? (ad.add (kn * 3)) = some (.int .i64 (rd_T65 l0_0 (kn : Int)).f0) ∧ w'.cell? ⟨gI, kn, none⟩ = some (.int .i64 (rd ids (kn : Int)))) (ds := [24]) #[fy, fy, fy, fy, fy, fy, fy, fy, fy, fy, fy, fy, fy, fy, fy, fy, fy, fy, fy, fy, fy, fy, fy, fy, fy] (by kernel_rfl) rfl rfl ⟨h4c, hec, htc, hdc, hic⟩ (fun hHeld => ?_)
          refine with_tabW impl_Trie_machine.tab20 impl_Trie_machine.bits20 (fun HT_ HW_ => ?_)
          refine pure_ (i := 0) (N := some 94) (v := ?_) (a' := ?_) #[ty, fy, fy, fy, fy, fy, fy, fy, fy, fy, fy, fy, fy, fy, fy, fy, fy, fy, fy, fy, fy, fy, fy, fy, fy] rfl rfl (aO_ HT_.out (by kernel_rfl)) (fun _ _ _ h => h) (Or.inl ⟨by rfl, ?_⟩) ?_ ?_; rotate_left; (intro w'; go_simp; with_reducible rfl); rotate_left; (simp only [Act.put, sA_, sB_, sC_, i6_, i3_]; rfl)
          refine pure_ (i := 2) (N := some 96) (v := ?_) (a' := ?_) #[ty, fy, ty, fy, fy, fy, fy, fy, fy, fy, fy, fy, fy, fy, fy, fy, fy, fy, fy, fy, fy, fy, fy, fy, fy] rfl rfl (aO_ HT_.out (by kernel_rfl)) (fun _ _ _ h => h) (Or.inl ⟨by rfl, ?_⟩) ?_ ?_; rotate_left; (intro w'; go_simp; with_reducible rfl); rotate_left; (simp only [Act.put, sA_, sB_, sC_, i6_, i3_]; rfl)
          refine pure_ (i := 3) (N := some 97) (v := ?_) (a' := ?_) #[ty, fy, ty, ty, fy, fy, fy, fy, fy, fy, fy, fy, fy, fy, fy, fy, fy, fy, fy, fy, fy, fy, fy, fy, fy] rfl rfl (aO_ HT_.out (by kernel_rfl)) (fun _ _ _ h => h) (Or.inl ⟨by rfl, ?_⟩) ?_ ?_; rotate_left; (intro w'; go_simp; with_reducible rfl); rotate_left; (simp only [Act.put, sA_, sB_, sC_, i6_, i3_]; rfl)
          refine pure_ (i := 5) (N := some 99) (v := ?_) (a' := ?_) #[ty, fy, ty, ty, fy, ty, fy, fy, fy, fy, fy, fy, fy, fy, fy, fy, fy, fy, fy, fy, fy, fy, fy, fy, fy] rfl rfl (aO_ HT_.out (by kernel_rfl)) (fun _ _ _ h => h) (Or.inl ⟨by rfl, ?_⟩) ?_ ?_; rotate_left; (intro w'; go_simp; with_reducible rfl); rotate_left; (simp only [Act.put, sA_, sB_, sC_, i6_, i3_]; rfl)
          refine pure_ (i := 9) (N := some 103) (v := ?_) (a' := ?_) #[ty, fy, ty, ty, fy, ty, fy, fy, fy, ty, fy, fy, fy, fy, fy, fy, fy, fy, fy, fy, fy, fy, fy, fy, fy] rfl rfl (aO_ HT_.out (by kernel_rfl)) (fun _ _ _ h => h) (Or.inl ⟨by rfl, ?_⟩) ?_ ?_; rotate_left; (intro w'; go_simp; with_reducible rfl); rotate_left; (simp only [Act.put, sA_, sB_, sC_, i6_, i3_]; rfl)
          refine pure_ (i := 11) (N := some 105) (v := ?_) (a' := ?_) #[ty, fy, ty, ty, fy, ty, fy, fy, fy, ty, fy, ty, fy, fy, fy, fy, fy, fy, fy, fy, fy, fy, fy, fy, fy] rfl rfl (aO_ HT_.out (by kernel_rfl)) (fun _ _ _ h => h) (Or.inl ⟨by rfl, ?_⟩) ?_ ?_; rotate_left; (intro w'; go_simp; with_reducible rfl); rotate_left; (simp only [Act.put, sA_, sB_, sC_, i6_, i3_]; rfl)
          refine pure_ (i := 15) (N := some 109) (v := ?_) (a' := ?_) #[ty, fy, ty, ty, fy, ty, fy, fy, fy, ty, fy, ty, fy, fy, fy, ty, fy, fy, fy, fy, fy, fy, fy, fy, fy] rfl rfl (aO_ HT_.out (by kernel_rfl)) (fun _ _ _ h => h) (Or.inl ⟨by rfl, ?_⟩) ?_ ?_; rotate_left; (intro w'; go_simp; with_reducible rfl); rotate_left; (simp only [Act.put, sA_, sB_, sC_, i6_, i3_]; rfl)
          refine pure_ (i := 16) (N := some 110) (v := ?_) (a' := ?_) #[ty, fy, ty, ty, fy, ty, fy, fy, fy, ty, fy, ty, fy, fy, fy, ty, ty, fy, fy, fy, fy, fy, fy, fy, fy] rfl rfl (aO_ HT_.out (by kernel_rfl)) (fun _ _ _ h => h) (Or.inl ⟨by rfl, ?_⟩) ?_ ?_; rotate_left; (intro w'; go_simp; with_reducible rfl); rotate_left; (simp only [Act.put, sA_, sB_, sC_, i6_, i3_]; rfl)
          refine pure_ (i := 17) (N := some 111) (v := ?_) (a' := ?_) #[ty, fy, ty, ty, fy, ty, fy, fy, fy, ty, fy, ty, fy, fy, fy, ty, ty, ty, fy, fy, fy, fy, fy, fy, fy] rfl rfl (aO_ HT_.out (by kernel_rfl)) (fun _ _ _ h => h) (Or.inl ⟨by rfl, ?_⟩) ?_ ?_; rotate_left; (intro w'; go_simp; with_reducible rfl); rotate_left; (simp only [Act.put, sA_, sB_, sC_, i6_, i3_]; rfl)
          refine take_ (i := 1) (N := some 95) (v := ?_) (a' := ?_) #[ty, ty, ty, ty, fy, ty, fy, fy, fy, ty, fy, ty, fy, fy, fy, ty, ty, ty, fy, fy, fy, fy, fy, fy, fy] rfl rfl (tW_ HT_.out HW_.out (by kernel_rfl)) (fun _ _ _ h => h) (Or.inl ⟨by rfl, ?_⟩) hHeld ?_ ?_; rotate_left; (rintro w' ⟨s0, s1, s2, s3, s4⟩; go_simp; with_reducible rfl); rotate_left; (simp only [Act.put, sA_, sB_, sC_, i6_, i3_]; rfl)
          refine take_ (i := 4) (N := some 98) (v := ?_) (a' := ?_) #[ty, ty, ty, ty, ty, ty, fy, fy, fy, ty, fy, ty, fy, fy, fy, ty, ty, ty, fy, fy, fy, fy, fy, fy, fy] rfl rfl (tW_ HT_.out HW_.out (by kernel_rfl)) (fun _ _ _ h => h) (Or.inl ⟨by rfl, ?_⟩) hHeld ?_ ?_; rotate_left; (rintro w' ⟨s0, s1, s2, s3, s4⟩; go_simp; with_reducible rfl); rotate_left; (simp only [Act.put, sA_, sB_, sC_, i6_, i3_]; rfl)
          refine pure_ (i := 6) (N := some 100) (v := ?_) (a' := ?_) #[ty, ty, ty, ty, ty, ty, ty, fy, fy, ty, fy, ty, fy, fy, fy, ty, ty, ty, fy, fy, fy, fy, fy, fy, fy] rfl rfl (aO_ HT_.out (by kernel_rfl)) (fun _ _ _ h => h) (Or.inl ⟨by rfl, ?_⟩) ?_ ?_; rotate_left; (intro w'; go_simp; with_reducible rfl); rotate_left; (simp only [Act.put, sA_, sB_, sC_, i6_, i3_]; rfl)
          refine pure_ (i := 7) (N := some 101) (v := ?_) (a' := ?_) #[ty, ty, ty, ty, ty, ty, ty, ty, fy, ty, fy, ty, fy, fy, fy, ty, ty, ty, fy, fy, fy, fy, fy, fy, fy] rfl rfl (aO_ HT_.out (by kernel_rfl)) (fun _ _ _ h => h) (Or.inl ⟨by rfl, ?_⟩) ?_ ?_; rotate_left; (intro w'; go_simp; with_reducible rfl); rotate_left; (simp only [Act.put, sA_, sB_, sC_, i6_, i3_]; rfl)
          refine take_ (i := 8) (N := some 102) (v := ?_) (a' := ?_) #[ty, ty, ty, ty, ty, ty, ty, ty, ty, ty, fy, ty, fy, fy, fy, ty, ty, ty, fy, fy, fy, fy, fy, fy, fy] rfl rfl (tW_ HT_.out HW_.out (by kernel_rfl)) (fun _ _ _ h => h) (Or.inl ⟨by rfl, ?_⟩) hHeld ?_ ?_; rotate_left; (rintro w' ⟨s0, s1, s2, s3, s4⟩; go_simp; with_reducible rfl); rotate_left; (simp only [Act.put, sA_, sB_, sC_, i6_, i3_]; rfl)
          refine take_ (i := 10) (N := some 104) (v := ?_) (a' := ?_) #[ty, ty, ty, ty, ty, ty, ty, ty, ty, ty, ty, ty, fy, fy, fy, ty, ty, ty, fy, fy, fy, fy, fy, fy, fy] rfl rfl (tW_ HT_.out HW_.out (by kernel_rfl)) (fun _ _ _ h => h) (Or.inl ⟨by rfl, ?_⟩) hHeld ?_ ?_; rotate_left; (rintro w' ⟨s0, s1, s2, s3, s4⟩; go_simp; with_reducible rfl); rotate_left; (simp only [Act.put, sA_, sB_, sC_, i6_, i3_]; rfl)
          refine pure_ (i := 12) (N := some 106) (v := ?_) (a' := ?_) #[ty, ty, ty, ty, ty, ty, ty, ty, ty, ty, ty, ty, ty, fy, fy, ty, ty, ty, fy, fy, fy, fy, fy, fy, fy] rfl rfl (aO_ HT_.out (by kernel_rfl)) (fun _ _ _ h => h) (Or.inl ⟨by rfl, ?_⟩) ?_ ?_; rotate_left; (intro w'; go_simp; with_reducible rfl); rotate_left; (simp only [Act.put, sA_, sB_, sC_, i6_, i3_]; rfl)
          refine pure_ (i := 13) (N := some 107) (v := ?_) (a' := ?_) #[ty, ty, ty, ty, ty, ty, ty, ty, ty, ty, ty, ty, ty, ty, fy, ty, ty, ty, fy, fy, fy, fy, fy, fy, fy] rfl rfl (aO_ HT_.out (by kernel_rfl)) (fun _ _ _ h => h) (Or.inl ⟨by rfl, ?_⟩) ?_ ?_; rotate_left; (intro w'; go_simp; with_reducible rfl); rotate_left; (simp only [Act.put, sA_, sB_, sC_, i6_, i3_]; rfl)
          refine take_ (i := 14) (N := some 108) (v := ?_) (a' := ?_) #[ty, ty, ty, ty, ty, ty, ty, ty, ty, ty, ty, ty, ty, ty, ty, ty, ty, ty, fy, fy, fy, fy, fy, fy, fy] rfl rfl (tW_ HT_.out HW_.out (by kernel_rfl)) (fun _ _ _ h => h) (Or.inl ⟨by rfl, ?_⟩) hHeld ?_ ?_; rotate_left; (rintro w' ⟨s0, s1, s2, s3, s4⟩; go_simp; with_reducible rfl); rotate_left; (simp only [Act.put, sA_, sB_, sC_, i6_, i3_]; rfl)
          refine take_ (i := 18) (N := some 112) (v := ?_) (a' := ?_) #[ty, ty, ty, ty, ty, ty, ty, ty, ty, ty, ty, ty, ty, ty, ty, ty, ty, ty, ty, fy, fy, fy, fy, fy, fy] rfl rfl (tW_ HT_.out HW_.out (by kernel_rfl)) (fun _ _ _ h => h) (Or.inl ⟨by rfl, ?_⟩) hHeld ?_ ?_; rotate_left; (rintro w' ⟨s0, s1, s2, s3, s4⟩; go_simp; with_reducible rfl); rotate_left; (simp only [Act.put, sA_, sB_, sC_, i6_, i3_]; rfl)
          refine pure_ (i := 19) (N := some 113) (v := ?_) (a' := ?_) #[ty, ty, ty, ty, ty, ty, ty, ty, ty, ty, ty, ty, ty, ty, ty, ty, ty, ty, ty, ty, fy, fy, fy, fy, fy] rfl rfl (aO_ HT_.out (by kernel_rfl)) (fun _ _ _ h => h) (Or.inl ⟨by rfl, ?_⟩) ?_ ?_; rotate_left; (intro w'; go_simp; with_reducible rfl); rotate_left; (simp only [Act.put, sA_, sB_, sC_, i6_, i3_]; rfl)
          refine one_ (i := 20) (N := some 114) #[ty, ty, ty, ty, ty, ty, ty, ty, ty, ty, ty, ty, ty, ty, ty, ty, ty, ty, ty, ty, ty, fy, fy, fy, fy] rfl rfl (one_of HT_.out (by kernel_rfl)) (by decide) (fun K hK => ?_)
          refine value_ (w1 := ?_) (v := ?_) (by rfl) rfl ?_ ?_
          rotate_left 2
          ·
           go_simp
           constructor
           ·
            rfl
           ·
            rfl
          refine hK.out _ _ ⟨(World.cell?_alloc_lt _ _ _ (wB_ _ _ hHeld.1)).trans hHeld.1, (World.cell?_alloc_lt _ _ _ (wB_ _ _ hHeld.2.1)).trans hHeld.2.1, (World.cell?_alloc_lt _ _ _ (wB_ _ _ hHeld.2.2.1)).trans hHeld.2.2.1, (World.cell?_alloc_lt _ _ _ (wB_ _ _ hHeld.2.2.2.1)).trans hHeld.2.2.2.1, (World.cell?_alloc_lt _ _ _ (wB_ _ _ hHeld.2.2.2.2)).trans hHeld.2.2.2.2⟩ (fun hHeld => ?_)
          clear hK K
          refine norm_ (a' := ?_) ?_ ?_; rotate_left; (show Act.put _ (some 114) _ = _; simp only [Act.put, sA_, sB_, sC_, i6_, i3_]; rfl)
          refine one_ (i := 21) (N := some 115) #[ty, ty, ty, ty, ty, ty, ty, ty, ty, ty, ty, ty, ty, ty, ty, ty, ty, ty, ty, ty, ty, ty, fy, fy, fy] rfl rfl (one_of HT_.out (by kernel_rfl)) (by decide) (fun K hK => ?_)
          refine Kd.R_append_step k78 (W := wr.drew) (w0 := w) w.heap.size (by rfl) (.tmp 102) (.tmp 114) 75 78 (.agg #[(.int .i64 0), (.int .i64 0)]) 16 rfl Try.underlying75 info78 rfl (by decide) (by omega) ue xj.f1 (⟨(rd_T65 l0_0 (kn : Int)).f0, rd ids (kn : Int)⟩ : S78) [.int .i64 (rd_T65 l0_0 (kn : Int)).f0, .int .i64 (rd ids (kn : Int))] (fun k => oki k ∨ wr.heap.size ≤ k) (fun _ => False) rfl rfl ?aP (fun _ hk => hk.elim) (fun k hk => .inr hk) ?aO ?aB ?aS ?aL ?_
          (case aP => exact k78_mkM _ _ _ (⟨(rd_T65 l0_0 (kn : Int)).f0, rd ids (kn : Int)⟩ : S78))
          (case aO => exact k3_ HEO.out)
          (case aB => exact bD_ HI.out.hB)
          (case aS => exact HI.out.hB.size)
          (case aL => have := HXL.out; omega)
          intro v3 w3 ho hb hg3 hat
          obtain ⟨A3, c3, e3⟩ := kS_ ho
          subst e3
          rw [List.length_append, List.length_singleton] at ho
          have hed := HED.out w3 _ _ ho ⟨hg3.os, hg3.tape, hg3.output, hg3.size, hg3.block⟩
          have HI3 := aM_ (HI.out.drew.withEdge (k3_ HEO.out) hb hg3 hed.1 hed.2.1)
          have HW3 := aM_ hed
          have hb4 := blk_grown (b1_ HI.out.h4) hg3 (k6_ (k3_ HEO.out) (b1_ HI.out.h4) (by decide))
          have hbt := blk_grown (b1_ HI.out.ht) hg3 (k6_ (k3_ HEO.out) (b1_ HI.out.ht) (by decide))
          have hid := kC_ 0 (Kd.R_over' (k3_ HI.out.hI) (Kd.R_typed (k3_ HEO.out)) (by decide) hg3) (kn : Int) (by omega) HKN.out.2.2
          have hdd := (hb.cell HDD.out.1).trans HDD.out.2
          refine hK.out _ _ ⟨(bC_ hb4 0).trans rfl, hed.2.2.1, (bC_ hbt 0).trans rfl, hdd, hid.1⟩ (fun hHeld => ?_)
          clear hK K
          refine norm_ (a' := ?_) ?_ ?_; rotate_left; (show Act.put _ (some 115) _ = _; simp only [Act.put, sA_, sB_, sC_, i6_, i3_]; rfl)
          refine pure_ (i := 22) (N := some 116) (v := ?_) (a' := ?_) #[ty, ty, ty, ty, ty, ty, ty, ty, ty, ty, ty, ty, ty, ty, ty, ty, ty, ty, ty, ty, ty, ty, ty, fy, fy] rfl rfl (aO_ HT_.out (by kernel_rfl)) (fun _ _ _ h => h) (Or.inl ⟨by rfl, ?_⟩) ?_ ?_; rotate_left; (intro w'; go_simp; with_reducible rfl); rotate_left; (simp only [Act.put, sA_, sB_, sC_, i6_, i3_]; rfl)
          refine pure_ (i := 23) (N := some 117) (v := ?_) (a' := ?_) #[ty, ty, ty, ty, ty, ty, ty, ty, ty, ty, ty, ty, ty, ty, ty, ty, ty, ty, ty, ty, ty, ty, ty, ty, fy] rfl rfl (aO_ HT_.out (by kernel_rfl)) (fun _ _ _ h => h) (Or.inl ⟨by rfl, ?_⟩) ?_ ?_; rotate_left; (intro w'; go_simp; with_reducible rfl); rotate_left; (simp only [Act.put, sA_, sB_, sC_, i6_, i3_]; rfl)
          refine last_ (i := 24) (N := none) #[ty, ty, ty, ty, ty, ty, ty, ty, ty, ty, ty, ty, ty, ty, ty, ty, ty, ty, ty, ty, ty, ty, ty, ty, ty] rfl rfl (one_of HT_.out (by kernel_rfl)) (by decide) (fun K hK => ?_)
          have hec2 : w3.cell? ⟨gS, sn * 2 + 1, none⟩ = some ue := HW3.out.2.2.1
          have hef2 : w3.frozen? ⟨gS, sn * 2 + 1, none⟩ = false := HW3.out.2.2.2
          refine skip_ (w1 := ?_) (by rfl) rfl ?_ ?_
          rotate_left
          ·
           go_simp
           rfl
          refine hK.out _ _ ?_
          clear hK K
          refine done_ (done_of HT_.out (by kernel_rfl)) ?_
          clear hec hef h4c htc hdc hic
          go_wp2_with fail
          go_roundg (ks.length - (j + 1))
          case measure => omega
          case rel =>
           refine ⟨j + 1, by omega, by omega, by go_num, ⟨HI3.out.2 _ _ (k3_ HKS.out)⟩, ⟨?_⟩⟩
           have h9 := HI3.out.1
           have e9 : stj.set sn ⟨xj.f0, xj.f1 ++ [⟨(rd_T65 l0_0 (kn : Int)).f0, rd ids (kn : Int)⟩]⟩ = sts.set sn (impl_Trie_machine.add l0_0 ids (ks.take (j + 1)) x) := by
            obtain ⟨q1, q2⟩ := HXJ.out
            rw [← q1, ← q2, List.set_set]
            congr 1
            unfold impl_Trie_machine.add
            have q3 : ks[j] = (kn : Int) := by
             have q4 := HKN.out.1
             unfold rd at q4
             rw [Int.toNat_natCast, List.getD_eq_getElem?_getD, List.getElem?_eq_getElem hlj] at q4
             exact q4
            rw [List.take_succ_eq_append_getElem hlj, List.map_append, List.append_assoc, q3]
            rfl
           rw [← e9]
           exact h9
         ·
          have hljz : ¬ (j : Int) < (ks.length : Int) := by omega
          obtain rfl : j = ks.length := by omega
          have HI5 := HI.out
          rw [List.take_length] at HI5
          have HI6 := aM_ HI5
          clear HI5 HI
          go_wp2_with fail
          go_roundg (l0_0.length - (i + 1))
          case measure => omega
          case rel =>
           refine ⟨i + 1, done.set sn true, sts.set sn (impl_Trie_machine.add l0_0 ids ks x), by omega, by omega, by go_num, ⟨?_⟩, ⟨by rw [List.length_set, List.length_set]; exact HN.out⟩, HI6⟩
           rw [HDE.out]
           have h9 := HQ2.out
           rw [HXE.out, Int.toNat_natCast] at h9
           exact h9
       ·
        rw [if_neg hc2] at hQ; cases hQ
     ·
      rw [if_neg hc1] at hQ; cases hQ
    ·
     have hltz : ¬ (i : Int) < (ids.length : Int) := by omega
     obtain rfl : i = l0_0.length := by omega
     have hQ := HQ.out
     rw [Nat.sub_self, impl_Trie_machine.l1] at hQ
     obtain rfl := Option.some.inj hQ
     have h4c : wr.cell? ⟨b4, 0, none⟩ = some (.slice AM m cM) := (bC_ HI.out.h4 0).trans rfl
     have h2c : wr.cell? ⟨w.heap.size + 1, 0, none⟩ = some (.slice none 0 0) := (bC_ HI.out.h2 0).trans rfl
     have h2f := bF_ HI.out.h2 0
     clear hQ HQ
     go_wp2_with fail
     refine bodyPost_ret (results_ct rfl _ _ (w.heap.size + 1) 39 #[.slice AM m cM] (0, 0) _ rfl (by refine bP_ (cs := #[.slice none 0 0]) ?_ 0 _ rfl; exact HI.out.h2) Try.underlying39 rfl (by kernel_rfl)) rfl ?_
     refine ⟨_, _, rfl, ?_, ?_, ?_⟩
     ·
      exact Kd.S_set HI.out.hM HI.out.h2 (by decide) 0 _
     ·
      exact Kd.R_set HI.out.hI HI.out.h2 (by decide) 0 _
     ·
      exact bS_ HI.out.hB HI.out.lo.2.1
def impl_MachineOf.f (k : Nat) (l0_0 : List (S65)) : Option ((List (S77)) × Bool) := (impl_isTrie.f k l0_0).bind fun t470 => (if t470 = true then ((impl_Trie_machine.f k l0_0).bind fun bt471 => (some (bt471.1, true))) else (some (([] : List (S77)), false)))
theorem impl_MachineOf.mono : ∀ a0 k, LeO (impl_MachineOf.f k a0) (impl_MachineOf.f (k + 1) a0) := by
 intro a0 k
 unfold impl_MachineOf.f
 repeat' first
   | (with_reducible exact impl_Trie_machine.mono _ _)
   | (with_reducible exact impl_isTrie.mono _ _)
   | (with_reducible exact l3_ _)
   | (with_reducible exact l0_ _)
   | (with_reducible refine l2_ ?_ ?_)
   | (with_reducible refine l1_ ?_ (fun _ => ?_))
   | exact impl_Trie_machine.mono _ _
   | exact impl_isTrie.mono _ _
   | exact l0_ _
   | refine l2_ ?_ ?_
   | refine l1_ ?_ (fun _ => ?_)
theorem impl_MachineOf.calls (k : Nat) (A0_0 : Option Addr) (c0_0 : Nat) (l0_0 : List (S65)) (r1 : List (S77)) (r2 : Bool) (w : World) (hr0_0 : Kd.C k65 w A0_0 l0_0.length l0_0) (hc0_0 : l0_0.length ≤ c0_0) (h : impl_MachineOf.f k l0_0 = some (r1, r2)) :
  Calls Try.prog 14 #[.agg #[.slice A0_0 l0_0.length c0_0]] w fun e w' => ∃ v0_ : Value, e = .returned (.tuple #[.agg #[v0_], .bool r2]) ∧ Kd.S k77 77 w' w.heap.size (fun _ => True) v0_ r1 ∧ Below w.heap.size w w' := by
 have hu30 := Try.underlying30
 have hu39 := Try.underlying39
 have HR0_0 := aM_ hr0_0
 have HC0_0 := aM_ hc0_0
 clear hr0_0 hc0_0
 have HB := aM_ (Below.refl w.heap.size w)
 have H : ((impl_isTrie.f k l0_0).bind fun t470 => (if t470 = true then ((impl_Trie_machine.f k l0_0).bind fun bt471 => (some (bt471.1, true))) else (some (([] : List (S77)), false)))) = some (r1, r2) := h
 clear h
 replace H := oB_.mp H
 obtain ⟨t470, A20, H⟩ := H
 try dsimp only at H
 have A2 := aM_ A20
 clear A20
 by_cases c3 : t470 = true
 ·
  subst c3
  rw [if_pos rfl] at H
  replace H := oB_.mp H
  obtain ⟨⟨t471, t474⟩, A40, H⟩ := H
  try dsimp only at H
  have A4 := aM_ A40
  clear A40
  simp only [Option.some.injEq, Prod.mk.injEq] at H
  obtain ⟨rfl, rfl⟩ := H
  go_enter Try.func14, Try.ntmps14
  go_wp2_with (first | ((with_reducible refine gD_ (N := 1) rfl ?_); refine bE_ ?hg (N := 1) ?hd (cs := #[.slice A0_0 l0_0.length c0_0]) (t := 30) ?hr ?_; (case hd => rfl); (case hg => rfl); (case hr => (go_simp; done)); intro gb468 hg w5 hbox hb; have BK468 := aM_ (hbox); have GW468 := aM_ ((by rw [hg]; exact (bZ_ HB.out) : w.heap.size ≤ gb468)); have GE468 := GW468; replace HB := aM_ (bT_ HB.out hb); clear hb hbox hg) | ((with_reducible refine gD_ (N := 2) rfl ?_); refine bE_ ?hg (N := 2) ?hd (cs := #[.slice none 0 0]) (t := 39) ?hr ?_; (case hd => rfl); (case hg => rfl); (case hr => (go_simp; done)); intro gb469 hg w6 hbox hb; have BK469 := aM_ (hbox); have GW469 := aM_ ((by rw [hg]; exact (bZ_ HB.out) : w.heap.size ≤ gb469)); have GE469 := GW469; replace HB := aM_ (bT_ HB.out hb); have NB468_469 := aM_ ((by rw [hg]; exact Nat.ne_of_lt (bL_ BK468.out) : gb468 ≠ gb469)); have NB469_468 := aM_ NB468_469.out.symm; replace BK468 := aM_ (bB_ BK468.out hb); clear hb hbox hg; have hnb7 := NB468_469.out; have hnc7 := NB469_468.out; have hcz8_0 : w6.cell? ⟨gb468, 0, none⟩ = some (.slice A0_0 l0_0.length c0_0) := (bC_ BK468.out 0).trans rfl; have hfz8_0 := bF_ BK468.out 0) | ((with_reducible refine gC_ (f := 28) rfl ?_); refine goesL_ (some 7) rfl rfl Try.func28 (by kernel_rfl) rfl #[.agg #[.slice A0_0 l0_0.length c0_0]] rfl (by (try simp only [sD_, sE_, sF_]); rfl) ?_; (with_reducible refine (impl_isTrie.calls k _ _ l0_0 true _ ?side1 ?side2 A2.out).mono ?_); (case side1 => repeat (first | exact (k4_ HR0_0.out HB.out) | (with_reducible refine Kd.C_alloc ?_ _) | (with_reducible refine Kd.C_drewN ?_ _) | (with_reducible refine Kd.C_drew ?_))); (case side2 => exact HC0_0.out); rintro e w9 ⟨rfl, hb⟩; refine ⟨_, rfl, ?_⟩; replace BK468 := aM_ (bB_ BK468.out hb); replace BK469 := aM_ (bB_ BK469.out hb); replace HB := aM_ (bT_ HB.out hb); (try clear hb); have hcz10_0 : w9.cell? ⟨gb468, 0, none⟩ = some (.slice A0_0 l0_0.length c0_0) := (bC_ BK468.out 0).trans rfl; have hfz10_0 := bF_ BK468.out 0) | ((with_reducible refine gC_ (f := 29) rfl ?_); refine goesL_ (some 12) rfl rfl Try.func29 (by kernel_rfl) rfl #[.agg #[.slice A0_0 l0_0.length c0_0]] rfl (by (try simp only [sD_, sE_, sF_]); rfl) ?_; (with_reducible refine (impl_Trie_machine.calls k _ _ l0_0 t471 t474 _ ?side1 ?side2 A4.out).mono ?_); (case side1 => repeat (first | exact (k4_ HR0_0.out HB.out) | (with_reducible refine Kd.C_alloc ?_ _) | (with_reducible refine Kd.C_drewN ?_ _) | (with_reducible refine Kd.C_drew ?_))); (case side2 => exact HC0_0.out); rintro e w11 ⟨v472, v475, rfl, ho0, ho1, hb⟩; refine ⟨_, rfl, ?_⟩; have HO473 := aM_ (Kd.S_lower ho0 (bZ_ HB.out)); have HO476 := aM_ (k5_ ho1 (bZ_ HB.out)); replace BK468 := aM_ (bB_ BK468.out hb); replace BK469 := aM_ (bB_ BK469.out hb); replace HB := aM_ (bT_ HB.out hb); (try clear hb); (try clear ho0); (try clear ho1)) | ((with_reducible refine gD_ (N := 4) rfl ?_); refine bE_ ?hg (N := 4) ?hd (cs := #[.slice none 0 0]) (t := 39) ?hr ?_; (case hd => rfl); (case hg => rfl); (case hr => (go_simp; done)); intro gb477 hg w12 hbox hb; replace HO473 := aM_ (Kd.S_below (by (with_reducible repeat (first | apply Kd.S_alloc | apply Kd.S_drewN | apply Kd.S_drew)); exact HO473.out) hb); replace HO476 := aM_ (kB_ HO476.out hb); have BK477 := aM_ (hbox); have GW477 := aM_ ((by rw [hg]; exact (bZ_ HB.out) : w.heap.size ≤ gb477)); have GE477 := GW477; replace HB := aM_ (bT_ HB.out hb); have NB468_477 := aM_ ((by rw [hg]; exact Nat.ne_of_lt (bL_ BK468.out) : gb468 ≠ gb477)); have NB477_468 := aM_ NB468_477.out.symm; replace BK468 := aM_ (bB_ BK468.out hb); have NB469_477 := aM_ ((by rw [hg]; exact Nat.ne_of_lt (bL_ BK469.out) : gb469 ≠ gb477)); have NB477_469 := aM_ NB469_477.out.symm; replace BK469 := aM_ (bB_ BK469.out hb); clear hb hbox hg; obtain ⟨Ao13, co13, eo13⟩ := Kd.S_slice HO473.out; subst eo13; have hnb14 := NB477_468.out; have hnc14 := NB468_477.out; have hnb15 := NB477_469.out; have hnc15 := NB469_477.out; have hcz16_0 : w12.cell? ⟨gb477, 0, none⟩ = some (.slice none 0 0) := (bC_ BK477.out 0).trans rfl; have hfz16_0 := bF_ BK477.out 0; have hcz17_0 : w12.cell? ⟨gb469, 0, none⟩ = some (.slice none 0 0) := (bC_ BK469.out 0).trans rfl; have hfz17_0 := bF_ BK469.out 0))
  refine bodyPost_ret (results_ct rfl _ _ gb469 39 #[.slice Ao13 t471.length co13] (0, 0) _ rfl (by refine bP_ (cs := #[.slice none 0 0]) ?_ 0 _ rfl; refine bR_ ?_ NB469_477.out _; exact BK469.out) Try.underlying39 rfl (by kernel_rfl)) rfl ?_
  exact ⟨_, by rfl, by (with_reducible repeat (first | apply Kd.S_alloc | apply Kd.S_drewN | apply Kd.S_drew)); exact Kd.S_mono (Kd.S_far (p := ⟨gb469, 0, none⟩) (Kd.S_far (p := ⟨gb477, 0, none⟩) (Kd.S_types (Kd.S_types HO473.out BK477.out (by decide)) BK469.out (by decide)) (fun _ hk => hk.1.2) (.slice Ao13 t471.length co13)) (fun _ hk => hk.2) (.slice Ao13 t471.length co13)) (fun _ hk => trivial), by repeat (first | (with_reducible first | exact HB.out | apply bA_ | apply bN_ | apply bD_ | refine bS_ ?_ GE468.out | refine bS_ ?_ GE469.out | refine bS_ ?_ GE477.out) | exact HB.out)⟩
 ·
  replace c3 := Bool.eq_false_iff.mpr c3
  subst c3
  have H1 : (some (([] : List (S77)), false)) = some (r1, r2) := by rw [if_neg (show ¬ (false = true) by decide)] at H; exact H
  clear H
  have H := H1
  clear H1
  simp only [Option.some.injEq, Prod.mk.injEq] at H
  obtain ⟨rfl, rfl⟩ := H
  go_enter Try.func14, Try.ntmps14
  go_wp2_with (first | ((with_reducible refine gD_ (N := 1) rfl ?_); refine bE_ ?hg (N := 1) ?hd (cs := #[.slice A0_0 l0_0.length c0_0]) (t := 30) ?hr ?_; (case hd => rfl); (case hg => rfl); (case hr => (go_simp; done)); intro gb468 hg w18 hbox hb; have BK468 := aM_ (hbox); have GW468 := aM_ ((by rw [hg]; exact (bZ_ HB.out) : w.heap.size ≤ gb468)); have GE468 := GW468; replace HB := aM_ (bT_ HB.out hb); clear hb hbox hg) | ((with_reducible refine gD_ (N := 2) rfl ?_); refine bE_ ?hg (N := 2) ?hd (cs := #[.slice none 0 0]) (t := 39) ?hr ?_; (case hd => rfl); (case hg => rfl); (case hr => (go_simp; done)); intro gb469 hg w19 hbox hb; have BK469 := aM_ (hbox); have GW469 := aM_ ((by rw [hg]; exact (bZ_ HB.out) : w.heap.size ≤ gb469)); have GE469 := GW469; replace HB := aM_ (bT_ HB.out hb); have NB468_469 := aM_ ((by rw [hg]; exact Nat.ne_of_lt (bL_ BK468.out) : gb468 ≠ gb469)); have NB469_468 := aM_ NB468_469.out.symm; replace BK468 := aM_ (bB_ BK468.out hb); clear hb hbox hg; have hnb20 := NB468_469.out; have hnc20 := NB469_468.out; have hcz21_0 : w19.cell? ⟨gb468, 0, none⟩ = some (.slice A0_0 l0_0.length c0_0) := (bC_ BK468.out 0).trans rfl; have hfz21_0 := bF_ BK468.out 0) | ((with_reducible refine gC_ (f := 28) rfl ?_); refine goesL_ (some 7) rfl rfl Try.func28 (by kernel_rfl) rfl #[.agg #[.slice A0_0 l0_0.length c0_0]] rfl (by (try simp only [sD_, sE_, sF_]); rfl) ?_; (with_reducible refine (impl_isTrie.calls k _ _ l0_0 false _ ?side1 ?side2 A2.out).mono ?_); (case side1 => repeat (first | exact (k4_ HR0_0.out HB.out) | (with_reducible refine Kd.C_alloc ?_ _) | (with_reducible refine Kd.C_drewN ?_ _) | (with_reducible refine Kd.C_drew ?_))); (case side2 => exact HC0_0.out); rintro e w22 ⟨rfl, hb⟩; refine ⟨_, rfl, ?_⟩; replace BK468 := aM_ (bB_ BK468.out hb); replace BK469 := aM_ (bB_ BK469.out hb); replace HB := aM_ (bT_ HB.out hb); (try clear hb); have hcz23_0 : w22.cell? ⟨gb469, 0, none⟩ = some (.slice none 0 0) := (bC_ BK469.out 0).trans rfl; have hfz23_0 := bF_ BK469.out 0))
  refine bodyPost_ret (results_ct rfl _ _ gb469 39 #[.slice none 0 0] (0, 0) _ rfl (by refine bP_ (cs := #[.slice none 0 0]) ?_ 0 _ rfl; exact BK469.out) Try.underlying39 rfl (by kernel_rfl)) rfl ?_
  exact ⟨_, by rfl, by exact Kd.S_nil _ _ _ _ _, by repeat (first | (with_reducible first | exact HB.out | apply bA_ | apply bN_ | apply bD_ | refine bS_ ?_ GE468.out | refine bS_ ?_ GE469.out) | exact HB.out)⟩
def laws_eqIntA2.f (a0_0 a0_1 a1_0 a1_1 : Int) : Option Bool := some (decide (a0_0 = a1_0 ∧ a0_1 = a1_1))
set_option maxHeartbeats 2000000 in
theorem laws_eqIntA2.calls (a0_0 a0_1 a1_0 a1_1 : Int) (r : Bool) (w : World) (h : laws_eqIntA2.f a0_0 a0_1 a1_0 a1_1 = some r) :
  Calls Try.prog 78 #[.agg #[.int .i64 a0_0, .int .i64 a0_1], .agg #[.int .i64 a1_0, .int .i64 a1_1]] w fun e w' => e = .returned (.bool r) ∧ Below w.heap.size w w' := by
 obtain rfl := Option.some.inj h
 clear h
 obtain ⟨W, hW⟩ : ∃ W, W = (w.alloc (.cells #[.int .i64 a0_0, .int .i64 a0_1] 78)).alloc (.cells #[.int .i64 a1_0, .int .i64 a1_1] 78) := ⟨_, rfl⟩
 have HW1 := aM_ ((Below.refl w.heap.size w).alloc (Nat.le_refl _) (.cells #[.int .i64 a0_0, .int .i64 a0_1] 78))
 have HW2 := aM_ (HW1.out.alloc (by simp) (.cells #[.int .i64 a1_0, .int .i64 a1_1] 78))
 have c0 := aM_ (show W.cell? ⟨w.heap.size, 0, none⟩ = some (.int .i64 a0_0) from by rw [hW]; simp)
 have c1 := aM_ (show W.cell? ⟨w.heap.size, 1, none⟩ = some (.int .i64 a0_1) from by rw [hW]; simp)
 have c2 := aM_ (show W.cell? ⟨w.heap.size + 1, 0, none⟩ = some (.int .i64 a1_0) from by rw [hW]; simp)
 have c3 := aM_ (show W.cell? ⟨w.heap.size + 1, 1, none⟩ = some (.int .i64 a1_1) from by rw [hW]; simp)
 have hs := aM_ (show w.heap.size + 1 < W.heap.size from by rw [hW]; simp)
 go_enter Try.func78, Try.ntmps78
 go_wp2_with fail
 rw [← hW]
 rw [← hW] at HW2
 clear hW
 go_loopg [5] 2 (fun gg s5 wr => ∃ i : Nat, i ≤ 2 ∧ 2 - i ≤ gg ∧ s5 = .int .i64 i ∧ Aside0 (Below W.heap.size W wr) ∧ Aside0 (0 < i → a0_0 = a1_0) ∧ Aside0 (1 < i → a0_1 = a1_1))
 case atStart => exact ⟨0, by omega, by omega, rfl, ⟨Below.refl _ _⟩, ⟨fun h => absurd h (by omega)⟩, ⟨fun h => absurd h (by omega)⟩⟩
 case round =>
  obtain ⟨i, hi, hg, rfl, HB, E0, E1⟩ := hrel
  have d0 := (HB.out.cell (p := ⟨w.heap.size, 0, none⟩) (by have := hs.out; simp; omega)).trans c0.out
  have d1 := (HB.out.cell (p := ⟨w.heap.size, 1, none⟩) (by have := hs.out; simp; omega)).trans c1.out
  have d2 := (HB.out.cell (p := ⟨w.heap.size + 1, 0, none⟩) hs.out).trans c2.out
  have d3 := (HB.out.cell (p := ⟨w.heap.size + 1, 1, none⟩) hs.out).trans c3.out
  obtain rfl | rfl | rfl : i = 0 ∨ i = 1 ∨ i = 2 := by omega
  ·
   by_cases he : a0_0 = a1_0
   ·
    have HE := aM_ he
    have e9 : (a0_0 != a1_0) = false := bne_eq_false_iff_eq.mpr he
    have e8 : (a0_0 == a1_0) = true := beq_iff_eq.mpr he
    clear he
    go_wp2_with fail
    go_quiet (fail)
    go_wp2_with fail
    go_roundg 1
    case measure => omega
    case rel => exact ⟨1, by omega, by omega, by go_num, ⟨by exact bN_ HB.out _⟩, ⟨fun _ => HE.out⟩, ⟨fun h => absurd h (by omega)⟩⟩
   ·
    have HE := aM_ he
    have e9 : (a0_0 != a1_0) = true := bne_iff_ne.mpr he
    have e8 : (a0_0 == a1_0) = false := beq_eq_false_iff_ne.mpr he
    go_wp2_with fail
    go_quiet (fail)
    go_wp2_with fail
    go_ret
    exact ⟨by rw [show decide (a0_0 = a1_0 ∧ a0_1 = a1_1) = false from decide_eq_false fun h => HE.out h.1]; rfl, HW2.out.trans (((by exact bN_ HB.out _) : Below W.heap.size W _).mono HW2.out.size)⟩
  ·
   by_cases he : a0_1 = a1_1
   ·
    have HE := aM_ he
    have e9 : (a0_1 != a1_1) = false := bne_eq_false_iff_eq.mpr he
    have e8 : (a0_1 == a1_1) = true := beq_iff_eq.mpr he
    clear he
    go_wp2_with fail
    go_quiet (fail)
    go_wp2_with fail
    go_roundg 0
    case measure => omega
    case rel => exact ⟨2, by omega, by omega, by go_num, ⟨by exact bN_ HB.out _⟩, ⟨fun _ => E0.out (by omega)⟩, ⟨fun _ => HE.out⟩⟩
   ·
    have HE := aM_ he
    have e9 : (a0_1 != a1_1) = true := bne_iff_ne.mpr he
    have e8 : (a0_1 == a1_1) = false := beq_eq_false_iff_ne.mpr he
    go_wp2_with fail
    go_quiet (fail)
    go_wp2_with fail
    go_ret
    exact ⟨by rw [show decide (a0_0 = a1_0 ∧ a0_1 = a1_1) = false from decide_eq_false fun h => HE.out h.2]; rfl, HW2.out.trans (((by exact bN_ HB.out _) : Below W.heap.size W _).mono HW2.out.size)⟩
  ·
   go_wp2_with fail
   go_ret
   exact ⟨by rw [show decide (a0_0 = a1_0 ∧ a0_1 = a1_1) = true from decide_eq_true ⟨E0.out (by omega), E1.out (by omega)⟩]; rfl, HW2.out.trans (HB.out.mono HW2.out.size)⟩
end Go.Proofs.Ytnnkedeohfbkeaa.P
